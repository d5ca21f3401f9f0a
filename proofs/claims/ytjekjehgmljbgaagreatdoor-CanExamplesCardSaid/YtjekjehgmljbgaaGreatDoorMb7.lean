/- Proved: for every input, with no condition, the law CanExamples returns true and the input reads as it did (Rows.CanExamplesSaid). -/
import Derived.Test.YtjekjehgmljbgaaGreatDoorMb5
import Derived.Shelf.Spec.SlicesGrow
import Derived.Test.YtjekjehgmljbgaaGreatDoorMb6
import Derived.Test.YtjekjehgmljbgaaGreatDoorMb4
import Derived.Test.YtjekjehgmljbgaaGreatDoorRows
import Derived.WalkKit
import Derived.ProofKit
import Derived.OpenShut
import Derived.Lib.SmallJoins
import Derived.ChangeOld
import Derived.Below
import Derived.Test.YtjekjehgmljbgaaGreatDoorMb2
import Derived.Test.YtjekjehgmljbgaaGreatDoorTie
import Derived.Test.YtjekjehgmljbgaaGreatDoorCards
import Derived.LaidMore
import Derived.Stop.Joined
import Derived.SevenTiedAt
set_option linter.unusedVariables false
set_option linter.unusedSimpArgs false
namespace Go.Proofs.YtjekjehgmljbgaaGreatDoor.T
open Go.RowKit Go.Proofs Go.Eng
set_option maxRecDepth 100000
set_option maxHeartbeats 1000000
theorem Cn.runO_app (c : Cn) (m : List Po) : ∀ (l : List Po) (x : Co), c.runO x (l ++ m) = (c.runO x l).bind fun y => c.runO y m
 | [], x => by simp [Cn.runO]
 | p :: l, x => by
  simp only [List.cons_append, Cn.runO]
  split
  ·exact Cn.runO_app c m l _
  ·rfl
def Cn.RunOk (c : Cn) (l : List Po) (k : Nat) : Prop := ∀ j, j < k → c.pE (c.runK l j) (l.getD j Po.z) = 0
theorem take_snocD {α : Type} {l : List α} {k : Nat} {d : α} (h : k < l.length) : l.take (k + 1) = l.take k ++ [l.getD k d] := by
 rw [List.take_add_one, List.getElem?_eq_getElem h]
 simp [List.getD_eq_getElem?_getD, h]
theorem Cn.RunOk.runO {c : Cn} {l : List Po} : ∀ {k : Nat}, c.RunOk l k → k ≤ l.length → c.runO c.co (l.take k) = some (c.runK l k) ∧ c.bkO c.co (l.take k) = c.backK l k
 | 0, _, _ => by simp [Cn.runO, Cn.bkO, Cn.runK, Cn.backK]
 | k + 1, h, hk => by
  obtain ⟨h1, h2⟩ := Cn.RunOk.runO (c := c) (l := l) (k := k) (fun j hj => h j om0) om0
  have hp := h k (Nat.lt_succ_self k)
  rw [take_snocD (d := Po.z) om0]
  refine ⟨?_, ?_⟩
  ·rw [c.runO_snoc, h1, Option.bind_some, if_pos hp]; rfl
  ·rw [c.bkO_snoc _ _ _ _ h1, h2]; rfl
theorem Cn.RunOk.way {c : Cn} {l : List Po} {k : Nat} (h : c.RunOk l k) (hk : k ≤ l.length) : c.Way ⟨l.take k, c.backK l k⟩ (c.runK l k) :=
 ⟨(h.runO hk).1, (h.runO hk).2.symm⟩
theorem Cn.runO_ok {c : Cn} {l : List Po} {y : Co} (h : c.runO c.co l = some y) : ∀ k, k ≤ l.length → c.RunOk l k
 | 0, _ => fun j hj => absurd hj (Nat.not_lt_zero _)
 | k + 1, hk => fun j hj => by
  have ih := Cn.runO_ok h k om0
  by_cases hjk : j = k
  ·subst hjk
   have h1 := (ih.runO om0).1
   rw [← List.take_append_drop j l, c.runO_app, h1, Option.bind_some, List.drop_eq_getElem_cons om0] at h
   unfold Cn.runO at h
   split at h
   ·rename_i hp
    rw [List.getD_eq_getElem?_getD, List.getElem?_eq_getElem om0]
    exact hp
   ·cases h
  ·exact ih j om0
theorem Cn.Way.ok {c : Cn} {w : Wy} {y : Co} (h : c.Way w y) : c.RunOk w.l w.l.length ∧ c.runK w.l w.l.length = y ∧ c.backK w.l w.l.length = w.back := by
 have h1 := Cn.runO_ok h.run w.l.length (Nat.le_refl _)
 obtain ⟨h2, h3⟩ := h1.runO (Nat.le_refl _)
 rw [List.take_length] at h2 h3
 have h4 := h.run
 rw [h2] at h4
 exact ⟨h1, Option.some.inj h4, by rw [← h3, h.back]⟩
theorem Cn.few_ex {c : Cn} (hn : c.n ≤ 3) {p : Co → Bool} {v : Wy} {y : Co} (hy : p y = true) (h : c.Way v y) : ∃ w, c.few p = some w ∧ v.lt w = false := by
 obtain ⟨u, hu⟩ := h.best hn
 have hl : ∀ {w : Wy} {z : Co}, c.Best w z → w.l.length ≤ u.l.length → w ∈ (lists u.l.length).map fun l => (⟨l, c.bkO c.co l⟩ : Wy) := fun {w z} hw hle => by
  refine List.mem_map.2 ⟨w.l, mem_lists hle (Cn.runO_all hn hw.way.run), ?_⟩
  have := hw.way.back
  obtain ⟨wl, wb⟩ := w
  simp only at this
  rw [← this]
 obtain ⟨w, hm, ⟨z, hpz, hz⟩, hmin⟩ := exists_min (fun w => ∃ z, p z = true ∧ c.Best w z) Wy.lt (fun w => w.l.length) Wy.lt_irrefl (fun h1 h2 => Wy.lt_trans h1 h2) ((lists u.l.length).map fun l => (⟨l, c.bkO c.co l⟩ : Wy)) ⟨u, hl hu (Nat.le_refl _), y, hy, hu⟩
 have hwu : u.lt w = false := hmin u (hl hu (Nat.le_refl _)) ⟨y, hy, hu⟩
 refine ⟨w, Cn.few_some ⟨⟨z, hpz, hz⟩, fun k v' hk hv => ?_⟩, ?_⟩
 ·by_cases hle : v'.l.length ≤ u.l.length
  ·exact hmin v' (hl hv hle) ⟨k, hk, hv⟩
  ·cases hlt : v'.lt w with
   | false => rfl
   | true =>
    rw [Wy.lt_iff] at hlt
    have h2 : u.lt w = true := Wy.lt_iff.2 (by left; omega)
    rw [hwu] at h2; cases h2
 ·cases hlt : v.lt w with
  | false => rfl
  | true =>
   have h1 := hu.least v h
   cases huv : u.lt v with
   | true => rw [Wy.lt_trans huv hlt] at hwu; cases hwu
   | false =>
    have := Wy.tot huv h1
    subst this
    rw [hlt] at hwu; cases hwu
theorem Cn.few_way {c : Cn} {p : Co → Bool} {w : Wy} (h : c.few p = some w) : ∃ y, p y = true ∧ c.Best w y := (Cn.few_of h).1
end Go.Proofs.YtjekjehgmljbgaaGreatDoor.T
namespace Go.Proofs.YtjekjehgmljbgaaGreatDoor.T
open Go.RowKit Go.Proofs Go.Eng Go.Shelf
set_option maxRecDepth 100000
set_option maxHeartbeats 1000000
theorem bs172_2_0_1 {x0a : Option Addr} {x0l x0c : Nat} {x1a : Option Addr} {x1l x1c : Nat} : ∀ w, (Instr.buildSlice 172 2 #[(0, .slice x0a x0l x0c), (1, .slice x1a x1l x1c)]).run Tryz.prog w = .ok (.slice (some ⟨w.heap.size, 0, none⟩) 2 2) (w.alloc (CB [.slice x0a x0l x0c, .slice x1a x1l x1c] 22)) := fun w => by kernel_rfl
def grR : Go.Shelf.Ren := ⟨fun n => match n with
 | 4 => 102
 | _ => 0, fun n => match n with
 | 0 => 0
 | 3 => 3
 | 4 => 4
 | 9 => 9
 | 20 => 20
 | 22 => 22
 | 25 => 3
 | _ => 0, fun x => x⟩
theorem grL : Lays8.n4 Tryz.prog grR where
 mixed := by kernel_rfl
 f4 := ⟨Tryz.f102.name, by kernel_rfl, (Tryz.func102).trans (congrArg some (by kernel_rfl))⟩
 t0 := by kernel_rfl
 a0 := fun w => by kernel_rfl
 z0 := fun w => by kernel_rfl
 v0 := fun w => by kernel_rfl
 t3 := by kernel_rfl
 a3 := fun w => by kernel_rfl
 z3 := fun w => by kernel_rfl
 v3 := fun w => by kernel_rfl
 t4 := by kernel_rfl
 a4 := fun w => by kernel_rfl
 z4 := fun w => by kernel_rfl
 v4 := fun w => by kernel_rfl
 t9 := by kernel_rfl
 a9 := fun w => by kernel_rfl
 z9 := fun w => by kernel_rfl
 v9 := fun w => by kernel_rfl
 t20 := by kernel_rfl
 a20 := fun w => by kernel_rfl
 z20 := fun w => by kernel_rfl
 v20 := fun w => by kernel_rfl
 t22 := by kernel_rfl
 a22 := fun w => by kernel_rfl
 z22 := fun w => by kernel_rfl
 v22 := fun w => by kernel_rfl
theorem zc_size (n : Nat) : (Builtin.zeroCells (Value.int .i64 0).cells n).size = n := by rw [size_zeroCells]; show n * 1 = n; rw [Nat.mul_one]
theorem grow_any (n : Nat) (w : World) (hn0 : 0 < n) (hn : n ≤ 1000000) : Ct Tryz.prog 102 #[.slice none 0 0, .int .i64 (n : Int)] w fun v Hn => ∃ b cap junk, v = .slice (some ⟨b, 0, none⟩) 0 cap ∧ Hn = [(b, CB junk 3)] ∧ junk.length = cap ∧ n ≤ cap := by
 obtain ⟨i, hi, hz, hsz, hby⟩ := info_parts infInt
 refine Calls.mono (Any8.slices_Grow_grow grL i (.int .i64 0) hi hz om0 none 0 0 n [] w (Nat.le_refl _) om0 (by rw [hby]; omega) om0 (by simp) (fun _ => rfl) (fun a h => by cases h)) ?_
 rintro e w' ⟨rfl, rfl⟩
 have hge := grownCap_ge w (0 + n) 0 3
 change 0 + n ≤ grownCap w (0 + n) 0 (grR.t 25) at hge
 refine ⟨_, rfl, out_new_drew (fun h => by cases h) ⟨w.heap.size, grownCap w (0 + n) 0 (grR.t 25), ((#[] ++ Builtin.zeroCells (Value.int .i64 0).cells (0 + n - 0) ++ Builtin.zeroCells (Value.int .i64 0).cells (grownCap w (0 + n) 0 (grR.t 25) - (0 + n))) : Array Value).toList, rfl, rfl, ?_, by omega⟩⟩
 rw [Array.length_toList, Array.size_append, Array.size_append, zc_size, zc_size]
 simp only [List.size_toArray, List.length_nil]
 omega
def catK (L : Nat → List Int) : Nat → List Int
 | 0 => []
 | k + 1 => catK L k ++ L k
theorem catK_len (L : Nat → List Int) (k : Nat) : (catK L (k + 1)).length = (catK L k).length + (L k).length := List.length_append
theorem catK_bd {L : Nat → List Int} (h : ∀ k, k < 2 → (L k).length ≤ 1000) : ∀ k, k ≤ 2 → (catK L k).length ≤ 1000 * k
 | 0, _ => Nat.le_refl _
 | k + 1, hk => by have := catK_bd h k om0; have := h k om0; rw [catK_len]; omega
theorem concat_any (L : Nat → List Int) (A : Nat → Option Addr) (C : Nat → Nat) (bs : Nat) (w : World) (hb : ∀ k, k < 2 → At w bs (0 + k * 1) [.slice (A k) (L k).length (C k)]) (hI : ∀ k, k < 2 → Ints w (A k) (L k).length (C k) (L k)) (hl : ∀ k, k < 2 → (L k).length ≤ 1000) (h0 : 0 < (catK L 2).length) :
  Ct Tryz.prog 56 #[.slice (some ⟨bs, 0, none⟩) 2 2] w fun v Hn => ∃ a cap, v = .slice a (catK L 2).length cap ∧ Row 3 1 a (catK L 2).length cap (iv (catK L 2)) Hn := by
 have hbd := catK_bd hl
 have h2 := hbd 2 (Nat.le_refl _)
 have hF := wide_wide
 refine Ct_start (args := [_]) Tryz.func56 rf Tryz.ntmps56 rf ?_
 refine zR fun ds => ?_
 refine za (.slice _ _ _) hF ?_
 refine zP fun ds => ?_
 refine za (.int .i64 _) hF ?_
 refine zO ?_
 refine zR fun ds => ?_
 refine zm (.slice _ _ _) hF ?_
 refine zD hF (y_len rf Tryz.runUnderlying172) ?_
 refine zm (.int .i64 _) hF ?_
 refine zN ?_
 refine W_block ?_
 refine W_loop (γ := Nat) (fun k => k ≤ 2) (fun k => [(0, .slice (some ⟨bs, 0, none⟩) 2 2), (3, .int .i64 ((catK L k).length : Int)), (9, .slice (some ⟨bs, 0, none⟩) 2 2), (10, .int .i64 2), (11, .int .i64 (k : Int))]) (fun _ => _) (fun k => 2 - k) (0) (Nat.zero_le _) s10 (List.Sublist.refl _) ?_
 intro k e hk
 refine zR fun ds => ?_
 refine zD hF (y_lss rf rf) ?_
 refine zO ?_
 refine W_cond rf (fun c3 => ?_) (fun c3 => ?_)
 ·
  try simp only [qz1, qz2, qz3, qz4, qz5, qz6, qz7, qz8] at c3
  have hc := hb k om0
  have hbk := hbd k om0
  have hlk := hl k om0
  have hs : ((catK L k).length : Int) + ((L k).length : Int) = ((catK L (k + 1)).length : Int) := by rw [catK_len]; omega
  refine zU ?_
  refine W_seq ?_
  refine W_block ?_
  refine zR fun ds => ?_
  refine zD hF (y_index (k := k) rf rf r1 d10 Tryz.runUnderlying172 Tryz.sizeOf22) ?_
  refine zD hF (y_load1 rf Tryz.isAgg22 zo) ?_
  refine za (.slice _ _ _) hF ?_
  refine zP fun ds => ?_
  refine zm (.int .i64 _) hF ?_
  refine zm (.slice _ _ _) hF ?_
  refine zD hF (y_len rf Tryz.runUnderlying22) ?_
  refine zD hF (y_add rf rf ui) ?_
  refine za (.int .i64 _) hF ?_
  refine zO ?_
  rw [hs]
  refine W_region_lit (fun ds => ?_)
  refine zm (.int .i64 _) hF ?_
  refine zD hF (y_lss rf rf) ?_
  refine zN ?_
  refine W_cond rf (fun c6 => ?_) (fun c6 => ?_)
  ·(simp only [decide_eq_true_eq] at c6; omega)
  ·
   try simp only [qz1, qz2, qz3, qz4, qz5, qz6, qz7, qz8] at c6
   refine W_skip ?_
   refine InB_normal ?_
   refine zT fun ds => ?_
   refine zD hF (y_add rf rf ui) ?_
   refine zm (.int .i64 _) hF ?_
   refine WS_nil ?_
   exact Loop_next (k + 1) om0 s10 s20 om0
 ·
  try simp only [qz1, qz2, qz3, qz4, qz5, qz6, qz7, qz8] at c3
  obtain rfl : k = 2 := by omega
  refine W_exit ?_
  refine Then_exit ?_
  refine Loop_exit ?_
  refine InB_same ?_
  refine zS fun ds => ?_
  refine zm (.int .i64 _) hF ?_
  refine WS_gen hF rf (y_callL rf rf Tryz.call102 (fun w hw => grow_any (catK L 2).length w h0 om0)) ?_
  rintro _ _ ⟨b, gcap, junk, rfl, rfl, hjl, hgc⟩
  have hrow0 : Row 3 1 (some ⟨b, 0, none⟩) 0 gcap (iv (catK L 0)) [(b, CB junk 3)] := .inr ⟨b, junk, rfl, rfl, rfl, by rw [Nat.mul_one]; exact hjl, Nat.zero_le _⟩
  refine za (.slice _ _ _) hF ?_
  refine zO ?_
  refine zR fun ds => ?_
  refine zm (.slice _ _ _) hF ?_
  refine zD hF (y_len rf Tryz.runUnderlying172) ?_
  refine zm (.int .i64 _) hF ?_
  refine zN ?_
  refine W_block ?_
  refine W_loop (γ := Nat × Option Addr × Nat × List Blk) (fun q => q.1 ≤ 2 ∧ Row 3 1 q.2.1 (catK L q.1).length q.2.2.1 (iv (catK L q.1)) q.2.2.2) (fun q => [(6, .slice q.2.1 (catK L q.1).length q.2.2.1), (25, .slice (some ⟨bs, 0, none⟩) 2 2), (26, .int .i64 2), (27, .int .i64 (q.1 : Int))]) (fun q => q.2.2.2) (fun q => 2 - q.1) ((0, some ⟨b, 0, none⟩, gcap, [(b, CB junk 3)])) ⟨Nat.zero_le _, hrow0⟩ s10 (sbA) ?_
  rintro ⟨k, a, cap, Hr⟩ e ⟨(hk : k ≤ 2), (hrow : Row 3 1 a (catK L k).length cap (iv (catK L k)) Hr)⟩
  refine zR fun ds => ?_
  refine zD hF (y_lss rf rf) ?_
  refine zO ?_
  refine W_cond rf (fun c11 => ?_) (fun c11 => ?_)
  ·
   try simp only [qz1, qz2, qz3, qz4, qz5, qz6, qz7, qz8] at c11
   have hc := hb k om0
   have hbk := hbd k om0
   have hlk := hl k om0
   refine zU ?_
   refine W_seq ?_
   refine W_block ?_
   refine zR fun ds => ?_
   refine zD hF (y_index (k := k) rf rf r1 d10 Tryz.runUnderlying172 Tryz.sizeOf22) ?_
   refine zD hF (y_load1 rf Tryz.isAgg22 zo) ?_
   refine za (.slice _ _ _) hF ?_
   refine zQ fun ds => ?_
   refine zm (.slice _ _ _) hF ?_
   refine zm (.slice _ _ _) hF ?_
   refine WS_append hF (news := iv (L k)) (H1 := []) (Hn := Hr) (H2 := []) rf rf rf Tryz.underlying22 infInt rf (by simp) hrow (Ints.src (hI k om0)) (iv_len (L k)) (iv_one _) om0 om0 ?_
   intro a3 cap3 H3 hr3
   rw [← catK_len]
   have hrow3 : Row 3 1 a3 (catK L (k + 1)).length cap3 (iv (catK L (k + 1))) H3 := by
    rw [catK_len]
    show Row _ _ _ _ _ (iv (catK L k ++ L k)) _
    rw [show iv (catK L k ++ L k) = iv (catK L k) ++ iv (L k) from List.map_append]
    exact hr3
   rw [List.nil_append, List.append_nil]
   refine za (.slice _ _ _) hF ?_
   refine WS_nil ?_
   refine InB_normal ?_
   refine zT fun ds => ?_
   refine zD hF (y_add rf rf ui) ?_
   refine zm (.int .i64 _) hF ?_
   refine WS_nil ?_
   exact Loop_next (k + 1, a3, cap3, H3) ⟨by omega, hrow3⟩ s10 sbA (by simp only; omega)
  ·
   try simp only [qz1, qz2, qz3, qz4, qz5, qz6, qz7, qz8] at c11
   obtain rfl : k = 2 := by omega
   refine W_exit ?_
   refine Then_exit ?_
   refine Loop_exit ?_
   refine InB_same ?_
   refine zS fun ds => ?_
   refine zm (.slice _ _ _) hF ?_
   refine za (.slice _ _ _) hF ?_
   refine zN ?_
   refine W_ret ?_
   refine Fin_ret [.slice _ _ _] Hr Tryz.results56 ⟨by rfl, trivial⟩ HSub.refl ?_
   exact ⟨a, cap, rfl, hrow⟩
theorem row_adr {E : TypeId} {sz n cap : Nat} {a : Option Addr} {us : List Value} {Hn : List Blk} (h : Row E sz a n cap us Hn) (hn : 0 < n) : ∃ b, a = some ⟨b, 0, none⟩ := by
 rcases h with ⟨_, h, _⟩ | ⟨b, _, h, _⟩
 ·omega
 ·exact ⟨b, h⟩
def gK (zs : List Int) (k : Nat) : Nat := (zs.take k).foldl (fun g x => Nat.gcd g x.toNat) 0
theorem gK_succ {zs : List Int} {k : Nat} (h : k < zs.length) : gK zs (k + 1) = Nat.gcd (gK zs k) (zs.getD k 0).toNat := by
 unfold gK
 rw [List.take_add_one, List.getElem?_eq_getElem h]
 simp only [Option.toList_some]
 rw [List.foldl_append]
 simp [List.getD_eq_getElem?_getD, h]
def Cn.all (c : Cn) : List Int := c.sz ++ c.inn
def Cn.gc (c : Cn) : Nat := gK c.all c.all.length
def Cn.meN (c : Cn) : Int := if c.okB then (c.gc : Int) else 0
theorem Cn.Ok.all_bd {c : Cn} (h : c.Ok) : c.all.length = c.n + c.n ∧ ∀ k, k < c.all.length → 0 ≤ c.all.getD k 0 ∧ c.all.getD k 0 ≤ 20 := by
 have hs : c.sz.length = c.n := rfl
 have hl := h.len
 refine ⟨by unfold Cn.all; rw [List.length_append]; omega, fun k hk => ?_⟩
 unfold Cn.all at hk ⊢
 rw [List.length_append] at hk
 by_cases hkn : k < c.n
 ·rw [List.getD_eq_getElem?_getD, List.getElem?_append_left om0, ← List.getD_eq_getElem?_getD]
  have := h.s k hkn
  unfold Cn.s at this
  omega
 ·rw [List.getD_eq_getElem?_getD, List.getElem?_append_right om0, ← List.getD_eq_getElem?_getD]
  have h1 := h.i (k - c.sz.length) om0
  have h2 := h.s (k - c.sz.length) om0
  unfold Cn.i at h1
  omega
theorem gK_bd {zs : List Int} (h : ∀ k, k < zs.length → 0 ≤ zs.getD k 0 ∧ zs.getD k 0 ≤ 20) : ∀ k, k ≤ zs.length → gK zs k ≤ 20
 | 0, _ => by unfold gK; simp
 | k + 1, hk => by
  have ih := gK_bd h k om0
  have hx := h k om0
  rw [gK_succ om0]
  by_cases h0 : gK zs k = 0
  ·rw [h0, Nat.gcd_zero_left]; omega
  ·exact Nat.le_trans (Nat.gcd_le_left _ om0) ih
theorem measure_any (c : Cn) (a1 : Option Addr) (p1 : Nat) (a2 : Option Addr) (p2 : Nat) (w : World) (hG : Gv w) (hn : c.n ≤ 1000000) (hm : c.inn.length ≤ 1000000) (h1 : Ints w a1 c.n p1 c.sz) (h2 : Ints w a2 c.inn.length p2 c.inn) : Ct Tryz.prog 21 #[.agg #[.slice a1 c.n p1, .slice a2 c.inn.length p2, .int .i64 c.st]] w fun v _ => v = .tuple #[.int .i64 c.meN, .int .i64 c.err] := by
 have hF := wide_wide
 refine Ct_start (args := [_]) Tryz.func21 rf Tryz.ntmps21 rf ?_
 refine zR fun ds => ?_
 refine WS_new hF rf (y_box rf) (fun b1 => ?_)
 refine za (.int .i64 _) hF ?_
 refine za (.int .i64 _) hF ?_
 refine zO ?_
 refine zR fun ds => ?_
 refine zD hF (y_loadN rf Tryz.isAgg24 Tryz.sizeOf24 (Mem.own (us := [.slice _ _ _, .slice _ _ _, .int .i64 _]) 0 rf rf) rf) ?_
 refine zD hF (y_callL rf rf Tryz.call47 (fun w hw => ccheck_any c a1 p1 a2 p2 w (hG.st w hw) hn hm (h1.st w hw) (h2.st w hw))) ?_
 refine za (.int .i64 _) hF ?_
 refine zP fun ds => ?_
 refine zm (.int .i64 _) hF ?_
 refine zD hF (y_neq rf rf) ?_
 refine zN ?_
 refine W_cond rf (fun c2 => ?_) (fun c2 => ?_)
 ·
  try simp only [qz1, qz2, qz3, qz4, qz5, qz6, qz7, qz8] at c2
  refine zR fun ds => ?_
  refine zm (.int .i64 _) hF ?_
  refine za (.int .i64 _) hF ?_
  refine za (.int .i64 _) hF ?_
  refine zN ?_
  refine W_ret ?_
  refine Then_ret ?_
  refine Fin_ret [.int .i64 _, .int .i64 _] [] Tryz.results21 ⟨by rfl, by rfl, trivial⟩ HSub.nil ?_
  obtain ⟨h3, h4⟩ := Cn.err_no c2
  rw [h4]
  unfold Cn.meN
  rw [h3]
  rfl
 ·
  try simp only [qz1, qz2, qz3, qz4, qz5, qz6, qz7, qz8] at c2
  have hokB := Cn.err_iff.1 c2
  have hok := Cn.ok_iff.1 hokB
  have hn1 := hok.n1
  have hn3 := hok.n3
  have hlen := hok.len
  obtain ⟨hal, habd⟩ := hok.all_bd
  have hgb := gK_bd habd
  have hszl : c.sz.length = c.n := rfl
  have hc2 : catK (fun k => if k = 0 then c.sz else c.inn) 2 = c.all := by show ([] ++ c.sz) ++ c.inn = c.sz ++ c.inn; rw [List.nil_append]
  refine W_skip ?_
  refine zS fun ds => ?_
  refine za (.int .i64 _) hF ?_
  refine zO ?_
  refine zR fun ds => ?_
  refine zD hF (y_fieldAddr rf fa24_0) ?_
  refine zD hF (y_load1 rf Tryz.isAgg22 (Mem.own1 0 rf rf)) ?_
  refine zD hF (y_fieldAddr rf fa24_1) ?_
  refine zD hF (y_load1 rf Tryz.isAgg22 (Mem.own1 0 rf rf)) ?_
  refine WS_newS hF rf (y_buildSliceL bs172_2_0_1 rf) (fun bs => ?_)
  refine WS_gen hF rf (y_callL rf rf Tryz.call56 (fun w hw => concat_any (fun k => if k = 0 then c.sz else c.inn) (fun k => if k = 0 then a1 else a2) (fun k => if k = 0 then p1 else p2) bs w (fun k hk => by obtain rfl | rfl : k = 0 ∨ k = 1 := om0; exact Mem.own (us := [.slice a1 c.n p1]) 0 rf rf w hw; exact Mem.own (us := [.slice a2 c.inn.length p2]) 0 rf rf w hw) (fun k hk => by obtain rfl | rfl : k = 0 ∨ k = 1 := om0; exact h1.st w hw; exact h2.st w hw) (fun k hk => by obtain rfl | rfl : k = 0 ∨ k = 1 := om0; show c.sz.length ≤ 1000; omega; show c.inn.length ≤ 1000; omega) (by rw [hc2, hal]; omega))) ?_
  rw [hc2]
  rintro _ Hr ⟨a, cap, rfl, hrow⟩
  obtain ⟨bR, rfl⟩ := row_adr hrow (by rw [hal]; omega)
  refine zD hF (y_len rf Tryz.runUnderlying22) ?_
  refine zm (.int .i64 _) hF ?_
  refine zN ?_
  refine W_block ?_
  refine W_loop (γ := Nat) (fun k => k ≤ c.all.length) (fun k => [(5, .int .i64 (gK c.all k : Int)), (18, .slice (some ⟨bR, 0, none⟩) c.all.length cap), (19, .int .i64 (c.all.length : Int)), (20, .int .i64 (k : Int))]) (fun k => Hr) (fun k => c.all.length - k) (0) (Nat.zero_le _) s10 (sbA) ?_
  intro k e hk
  refine zR fun ds => ?_
  refine zD hF (y_lss rf rf) ?_
  refine zO ?_
  refine W_cond rf (fun c6 => ?_) (fun c6 => ?_)
  ·
   try simp only [qz1, qz2, qz3, qz4, qz5, qz6, qz7, qz8] at c6
   have hx := habd k om0
   have hgk := hgb k hk
   have hgs := gK_succ (zs := c.all) (k := k) om0
   obtain ⟨zk, hzk⟩ : ∃ zk : Nat, c.all.getD k 0 = (zk : Int) := ⟨(c.all.getD k 0).toNat, by omega⟩
   have hz20 : zk ≤ 20 := by omega
   have hg2 : Nat.gcd (gK c.all k) zk = gK c.all (k + 1) := by rw [hgs, hzk, Int.toNat_natCast]
   refine zU ?_
   refine W_seq ?_
   refine W_block ?_
   refine zR fun ds => ?_
   refine zD hF (y_index (k := k) rf rf r1 d10 Tryz.runUnderlying22 Tryz.sizeOf3) ?_
   refine zD hF (y_load1 (v := .int .i64 (zk : Int)) rf Tryz.isAgg3 (by rw [← hzk]; exact Row.mem hrow rfl sbA om0)) ?_
   refine za (.int .i64 _) hF ?_
   refine zN ?_
   refine W_block ?_
   refine W_loop (γ := Nat × Nat) (fun q => q.1 ≤ 20 ∧ q.2 ≤ 20 ∧ Nat.gcd q.1 q.2 = gK c.all (k + 1)) (fun q => [(5, .int .i64 (q.1 : Int)), (7, .int .i64 (q.2 : Int)), (18, .slice (some ⟨bR, 0, none⟩) c.all.length cap), (19, .int .i64 (c.all.length : Int)), (20, .int .i64 (k : Int))]) (fun q => Hr) (fun q => q.2) ((gK c.all k, zk)) ⟨hgk, hz20, hg2⟩ s10 (sbA) ?_
   rintro ⟨n, x⟩ e ⟨(hn20 : n ≤ 20), (hx20 : x ≤ 20), (hgc : Nat.gcd n x = gK c.all (k + 1))⟩
   refine W_seq ?_
   refine zR fun ds => ?_
   refine zm (.int .i64 _) hF ?_
   refine zD hF (y_gtr rf rf) ?_
   refine zN ?_
   refine W_cond rf (fun c8 => ?_) (fun c8 => ?_)
   ·
    try simp only [qz1, qz2, qz3, qz4, qz5, qz6, qz7, qz8] at c8
    have hx0 : 0 < x := by omega
    have hgn : Nat.gcd x (n % x) = gK c.all (k + 1) := by rw [← hgc, Nat.gcd_comm n x, Nat.gcd_rec x n, Nat.gcd_comm]
    refine zU ?_
    refine W_block ?_
    refine W_draw0 hF Tryzmixed [] dk0 (fun ds => ?_)
    refine P_det rf (Over_nil (y_move (c := .int .i64 _) rf)) ?_
    refine P_det rf (Over_nil (y_move (c := .int .i64 _) rf)) ?_
    refine P_det rf (Over_nil (y_move (c := .int .i64 _) rf)) ?_
    refine P_det rf (Over_nil (y_rem rf rf om0 om0)) ?_
    refine P_det rf (Over_nil (y_assign (c := .int .i64 _) rf)) ?_
    refine P_det rf (Over_nil (y_assign (c := .int .i64 _) rf)) ?_
    refine PW_end rf ?_
    refine OverAll_nil ?_
    rintro -
    refine InB_normal ?_
    exact Loop_next (x, n % x) ⟨hx20, Nat.le_trans (Nat.le_of_lt (Nat.mod_lt n hx0)) hx20, hgn⟩ s10 sbA (by simp only; exact Nat.mod_lt n hx0)
   ·
    try simp only [qz1, qz2, qz3, qz4, qz5, qz6, qz7, qz8] at c8
    obtain rfl : n = gK c.all (k + 1) := by rw [← hgc, show x = 0 by omega, Nat.gcd_zero_right]
    refine W_exit ?_
    refine Then_exit ?_
    refine Loop_exit ?_
    refine InB_same ?_
    refine InB_normal ?_
    refine zT fun ds => ?_
    refine zD hF (y_add rf rf ui) ?_
    refine zm (.int .i64 _) hF ?_
    refine WS_nil ?_
    exact Loop_next (k + 1) om0 s10 sbA om0
  ·
   try simp only [qz1, qz2, qz3, qz4, qz5, qz6, qz7, qz8] at c6
   obtain rfl : k = c.all.length := by omega
   refine W_exit ?_
   refine Then_exit ?_
   refine Loop_exit ?_
   refine InB_same ?_
   refine zS fun ds => ?_
   refine zm (.int .i64 _) hF ?_
   refine za (.int .i64 _) hF ?_
   refine za (.int .i64 _) hF ?_
   refine zN ?_
   refine W_ret ?_
   refine Fin_ret [.int .i64 _, .int .i64 _] [] Tryz.results21 ⟨by rfl, by rfl, trivial⟩ HSub.nil ?_
   rw [c2]
   unfold Cn.meN
   rw [hokB]
   rfl
def Cn.dvB (c : Cn) (m i : Nat) : Bool := (List.range i).all fun j => decide (m ∣ (c.s j).toNat) && decide (m ∣ (c.i j).toNat)
end Go.Proofs.YtjekjehgmljbgaaGreatDoor.T
namespace Go.Proofs.YtjekjehgmljbgaaGreatDoor.T
open Go.RowKit Go.Proofs Go.Eng
set_option maxRecDepth 100000
set_option maxHeartbeats 1000000
theorem gK_dvd {zs : List Int} : ∀ {k : Nat}, k ≤ zs.length → ∀ {j : Nat}, j < k → gK zs k ∣ (zs.getD j 0).toNat
 | 0, _, j, hj => absurd hj (Nat.not_lt_zero _)
 | k + 1, hk, j, hj => by
  rw [gK_succ om0]
  by_cases hjk : j = k
  ·subst hjk; exact Nat.gcd_dvd_right _ _
  ·exact Nat.dvd_trans (Nat.gcd_dvd_left _ _) (gK_dvd om0 om0)
theorem Cn.all_s {c : Cn} {k : Nat} (hk : k < c.n) : c.all.getD k 0 = c.s k := by
 unfold Cn.all Cn.s
 simp only [List.getD_eq_getElem?_getD]
 rw [List.getElem?_append_left hk]
theorem Cn.all_i {c : Cn} {k : Nat} (hk : k < c.inn.length) : c.all.getD (c.n + k) 0 = c.i k := by
 unfold Cn.all Cn.i Cn.n
 simp only [List.getD_eq_getElem?_getD]
 rw [List.getElem?_append_right (Nat.le_add_right _ _), Nat.add_sub_cancel_left]
theorem dvd_of_nat {a : Nat} {x : Int} (hx : 0 ≤ x) (h : a ∣ x.toNat) : (a : Int) ∣ x := by
 rw [← Int.toNat_of_nonneg hx]
 exact Int.natCast_dvd_natCast.2 h
def Cn.Mul (c : Cn) (g : Int) (x : Co) : Prop := ∀ k, 1 ≤ k → k ≤ c.n → g ∣ x.g k
theorem Cn.gc_s {c : Cn} (hok : c.Ok) {k : Nat} (hk : k < c.n) : (c.gc : Int) ∣ c.s k ∧ (c.gc : Int) ∣ c.i k := by
 have hl := hok.len
 have hal := hok.all_bd.1
 have h1 := gK_dvd (zs := c.all) (k := c.all.length) (Nat.le_refl _) (j := k) om0
 have h2 := gK_dvd (zs := c.all) (k := c.all.length) (Nat.le_refl _) (j := c.n + k) om0
 rw [Cn.all_s hk] at h1
 rw [Cn.all_i om0] at h2
 have s := hok.s k hk
 have i := hok.i k hk
 exact ⟨dvd_of_nat om0 h1, dvd_of_nat om0 h2⟩
theorem Cn.Mul.stp {c : Cn} (hok : c.Ok) {g : Int} (hs : ∀ k, k < c.n → g ∣ c.s k) {x : Co} {p : Po} (h : c.Mul g x) (hp : c.pE x p = 0) : c.Mul g (c.stp x p) := by
 have hn := hok.n3
 obtain ⟨hv, hc⟩ := Cn.pE_zero.1 hp
 obtain ⟨⟨hf0, hf1⟩, ⟨ht0, ht1⟩, hne⟩ := Cn.vld_iff.1 hv
 obtain ⟨f, t⟩ := p
 simp only at hf0 hf1 ht0 ht1 hne hc
 obtain ⟨f, rfl⟩ := Int.eq_ofNat_of_zero_le hf0
 obtain ⟨t, rfl⟩ := Int.eq_ofNat_of_zero_le ht0
 rw [Int.toNat_natCast, Int.toNat_natCast, Cn.canB_iff] at hc
 obtain ⟨⟨ha, hb⟩, hpos⟩ := hc
 have hlk : 1 ≤ t → g ∣ c.lack x t := fun h1 => by
  unfold Cn.lack
  refine Int.dvd_sub ?_ (h t h1 om0)
  obtain ⟨j, rfl⟩ : ∃ j, t = j + 1 := ⟨t - 1, by omega⟩
  rw [c.room_s]
  exact hs j om0
 have hamt : g ∣ c.amt x f t := by
  have h0 : c.amt x f t = x.g f ∨ c.amt x f t = c.lack x t := by unfold Cn.amt; omega
  by_cases hf : f = 0
  ·have : c.amt x f t = c.lack x t := by unfold Cn.amt at h0 hpos ⊢; omega
   rw [this]; exact hlk om0
  ·by_cases ht : t = 0
   ·have : c.amt x f t = x.g f := by unfold Cn.amt at h0 hpos ⊢; omega
    rw [this]; exact h f om0 om0
   ·rcases h0 with e | e
    ·rw [e]; exact h f om0 om0
    ·rw [e]; exact hlk om0
 intro k hk1 hkn
 show g ∣ (c.to x (f : Int).toNat (t : Int).toNat).g k
 rw [Int.toNat_natCast, Int.toNat_natCast, c.to_g x om0 om0 om0]
 split
 ·rename_i e; subst e; exact Int.dvd_add (h k hk1 hkn) hamt
 ·split
  ·rename_i e; subst e; exact Int.dvd_sub (h k hk1 hkn) hamt
  ·exact h k hk1 hkn
theorem Cn.Mul.run {c : Cn} (hok : c.Ok) {g : Int} (hs : ∀ k, k < c.n → g ∣ c.s k) : ∀ {l : List Po} {x y : Co}, c.Mul g x → c.runO x l = some y → c.Mul g y
 | [], x, y, h, hr => by cases hr; exact h
 | p :: l, x, y, h, hr => by
  unfold Cn.runO at hr
  split at hr
  ·rename_i hp; exact Cn.Mul.run hok hs (h.stp hok hs hp) hr
  ·cases hr
theorem Cn.Mul.co {c : Cn} (hok : c.Ok) : c.Mul c.gc c.co := fun k h1 hk => by
 have := hok.n3
 obtain ⟨j, rfl⟩ : ∃ j, k = j + 1 := ⟨k - 1, by omega⟩
 rw [c.co_g j om0]
 exact (Cn.gc_s hok om0).2
theorem getD_snoc0 (l : List Int) (k : Nat) : (l ++ [0]).getD k 0 = l.getD k 0 := by
 simp only [List.getD_eq_getElem?_getD]
 by_cases h : k < l.length
 ·rw [List.getElem?_append_left h]
 ·rw [List.getElem?_append_right om0, List.getElem?_eq_none (l := l) om0]
  cases hj : k - l.length with
  | zero => rfl
  | succ j => rfl
theorem Cn.more_co (c : Cn) (s : Int) : (c.more s).co = c.co := by
 unfold Cn.co Cn.i Cn.more
 simp only [getD_snoc0]
theorem Cn.more_room {c : Cn} (s : Int) {k : Nat} (h : k ≤ c.n) : (c.more s).room k = c.room k := by
 cases k with
 | zero => rfl
 | succ k =>
  rw [Cn.room_s, Cn.room_s]
  unfold Cn.s Cn.more
  simp only [List.getD_eq_getElem?_getD]
  rw [List.getElem?_append_left h]
theorem Cn.more_pE {c : Cn} (s : Int) {x : Co} {p : Po} (h : c.pE x p = 0) : (c.more s).pE x p = 0 ∧ (c.more s).stp x p = c.stp x p := by
 obtain ⟨hv, hc⟩ := Cn.pE_zero.1 h
 obtain ⟨⟨hf0, hf1⟩, ⟨ht0, ht1⟩, hne⟩ := Cn.vld_iff.1 hv
 have hl : (c.more s).lack x p.t.toNat = c.lack x p.t.toNat := by unfold Cn.lack; rw [Cn.more_room s om0]
 have ha : (c.more s).amt x p.f.toNat p.t.toNat = c.amt x p.f.toNat p.t.toNat := by unfold Cn.amt; rw [hl]
 refine ⟨Cn.pE_zero.2 ⟨Cn.vld_iff.2 ⟨⟨hf0, by rw [c.more_n]; omega⟩, ⟨ht0, by rw [c.more_n]; omega⟩, hne⟩, ?_⟩, ?_⟩
 ·unfold Cn.canB Cn.noB at hc ⊢
  rw [hl, ha]; exact hc
 ·unfold Cn.stp Cn.to
  rw [ha]
theorem Cn.more_run {c : Cn} (s : Int) : ∀ {l : List Po} {x y : Co}, c.runO x l = some y → (c.more s).runO x l = some y ∧ (c.more s).bkO x l = c.bkO x l
 | [], x, y, h => ⟨h, rfl⟩
 | p :: l, x, y, h => by
  unfold Cn.runO at h
  split at h
  ·rename_i hp
   obtain ⟨h1, h2⟩ := Cn.more_pE s hp
   obtain ⟨h3, h4⟩ := Cn.more_run s h
   unfold Cn.runO Cn.bkO
   rw [if_pos h1, h2]
   exact ⟨h3, by rw [h4]⟩
  ·cases h
theorem Cn.Way.more {c : Cn} (s : Int) {w : Wy} {y : Co} (h : c.Way w y) : (c.more s).Way w y := by
 obtain ⟨h1, h2⟩ := Cn.more_run s h.run
 exact ⟨by rw [c.more_co]; exact h1, by rw [c.more_co, h2]; exact h.back⟩
theorem ordHlt {a b : Hp} : ordH a b < 0 ↔ a.m < b.m ∨ (a.m = b.m ∧ a.s < b.s) := by
 have h1 := @cmpI_lt a.m b.m
 have h2 := @cmpI_lt a.s b.s
 unfold ordH orL orL orL
 split
 ·split <;> omega
 ·omega
theorem foldH : ∀ (l : List Hp) (b : Hp), (l.foldl (fun b y => if ordH y b < 0 then y else b) b = b ∨ l.foldl (fun b y => if ordH y b < 0 then y else b) b ∈ l) ∧ ¬ ordH b (l.foldl (fun b y => if ordH y b < 0 then y else b) b) < 0 ∧ ∀ x ∈ l, ¬ ordH x (l.foldl (fun b y => if ordH y b < 0 then y else b) b) < 0
 | [], b => ⟨.inl rfl, by rw [ordHlt]; simp, fun x h => (by cases h)⟩
 | y :: l, b => by
  rw [List.foldl_cons]
  obtain ⟨h1, h2, h3⟩ := foldH l (if ordH y b < 0 then y else b)
  rw [ordHlt] at h2
  generalize hm : List.foldl (fun b y => if ordH y b < 0 then y else b) (if ordH y b < 0 then y else b) l = m at h1 h2 h3 ⊢
  refine ⟨?_, ?_, fun x hx => ?_⟩
  ·rcases h1 with h1 | h1
   ·split at h1
    ·exact .inr (by rw [h1]; exact List.mem_cons_self)
    ·exact .inl h1
   ·exact .inr (List.mem_cons_of_mem _ h1)
  ·rw [ordHlt]
   split at h2
   ·rename_i h; rw [ordHlt] at h; omega
   ·exact h2
  ·rcases List.mem_cons.1 hx with rfl | hx
   ·rw [ordHlt]
    split at h2
    ·exact h2
    ·rename_i h; rw [ordHlt] at h; omega
   ·exact h3 x hx
theorem minH_min {l : List Hp} (h : l ≠ []) : minH l ∈ l ∧ ∀ x ∈ l, ¬ ordH x (minH l) < 0 := by
 cases l with
 | nil => exact absurd rfl h
 | cons y l =>
  obtain ⟨h1, h2, h3⟩ := foldH l y
  refine ⟨?_, fun x hx => ?_⟩
  ·rcases h1 with h1 | h1
   ·show List.foldl _ y l ∈ _
    rw [h1]; exact List.mem_cons_self
   ·exact List.mem_cons_of_mem _ h1
  ·rcases List.mem_cons.1 hx with rfl | hx
   ·exact h2
   ·exact h3 x hx
theorem Cn.hpL_mem {c : Cn} {n : Int} {x : Hp} : ∀ {k : Nat}, x ∈ c.hpL n k ↔ ∃ j, j < k ∧ x.s = (j : Int) + 1 ∧ ¬ (j : Int) + 1 = n ∧ ∃ w, c.hk n ((j : Int) + 1) = some w ∧ x.m = (w.l.length : Int)
 | 0 => ⟨fun h => (by cases h), fun ⟨j, h, _⟩ => absurd h (Nat.not_lt_zero _)⟩
 | k + 1 => by
  have ih := Cn.hpL_mem (c := c) (n := n) (x := x) (k := k)
  have key : (∃ j, j < k + 1 ∧ x.s = (j : Int) + 1 ∧ ¬ (j : Int) + 1 = n ∧ ∃ w, c.hk n ((j : Int) + 1) = some w ∧ x.m = (w.l.length : Int)) ↔ (x ∈ c.hpL n k ∨ (x.s = (k : Int) + 1 ∧ ¬ (k : Int) + 1 = n ∧ ∃ w, c.hk n ((k : Int) + 1) = some w ∧ x.m = (w.l.length : Int))) := by
   rw [ih]
   constructor
   ·rintro ⟨j, h1, h2⟩
    by_cases e : j = k
    ·subst e; exact .inr h2
    ·exact .inl ⟨j, by omega, h2⟩
   ·rintro (⟨j, h1, h2⟩ | h2)
    ·exact ⟨j, by omega, h2⟩
    ·exact ⟨k, by omega, h2⟩
  rw [key]
  by_cases h0 : (k : Int) + 1 = n
  ·rw [Cn.hpL_skip h0]; simp [h0]
  ·cases hh : c.hk n ((k : Int) + 1) with
   | none => rw [Cn.hpL_none hh]; simp
   | some w =>
    rw [Cn.hpL_some h0 hh, List.mem_append, List.mem_singleton]
    constructor
    ·rintro (h | rfl)
     ·exact .inl h
     ·exact .inr ⟨rfl, h0, w, rfl, rfl⟩
    ·rintro (h | ⟨h1, _, v, h2, h3⟩)
     ·exact .inl h
     ·cases h2
      obtain ⟨a, b⟩ := x
      simp only at h1 h3
      subst h1 h3
      exact .inr rfl
def minW (p : Co → Bool) (xs : List (Co × Wy)) : Option Wy := xs.foldl (fun o z => if p z.1 then (match o with | none => some z.2 | some w => if z.2.lt w then some z.2 else some w) else o) none
def chkW (p : Co → Bool) (xs : List (Co × Wy)) : Option Wy → Bool
 | none => xs.all fun z => !p z.1
 | some w => xs.any (fun z => decide (z.2 = w) && p z.1) && xs.all (fun z => !p z.1 || !z.2.lt w)
theorem Cn.cert_is {c : Cn} {xs : List (Co × Wy)} (hn : c.n ≤ 3) (h : c.certB xs = true) {p : Co → Bool} : ∀ {o : Option Wy}, chkW p xs o = true → c.few p = o
 | none, h1 => Cn.cert_none hn h h1
 | some w, h1 => by
  unfold chkW at h1
  rw [Bool.and_eq_true] at h1
  exact Cn.cert_few hn h h1.1 h1.2
abbrev b35 : Cn := bench2 20 3 5
abbrev b46 : Cn := bench2 20 4 6
theorem k_few35 {p : Co → Bool} {o : Option Wy} (h : chkW p (b35.bfs 9) o = true) : b35.few p = o := Cn.cert_is dc cert35 h
theorem k_few46 {p : Co → Bool} {o : Option Wy} (h : chkW p (b46.bfs 9) o = true) : b46.few p = o := Cn.cert_is dc cert46 h
theorem k_many : Value.tuple #[.int .i64 b35.maN, .int .i64 b35.err] = .tuple #[.int .i64 16, .int .i64 0] := by
 have h : b35.maN = 16 := by
  unfold Cn.maN
  rw [if_pos dc, Cn.cert_many dc cert35, show ((bench2 20 3 5).bfs 9).length = 16 by decide +kernel]
  rfl
 rw [h]; rfl
theorem k_made : b46.mdL = [0, 2, 4, 6] := by
 unfold Cn.mdL
 rw [if_pos dc, Cn.cert_made dc cert46]
 decide +kernel
theorem k_made35 : b35.madeL = [0, 1, 2, 3, 4, 5] := by
 rw [Cn.cert_made dc cert35]
 decide +kernel
theorem k_meas : Value.tuple #[.int .i64 b46.meN, .int .i64 b46.err] = .tuple #[.int .i64 2, .int .i64 0] := by
 rw [show b46.meN = 2 by decide +kernel]; rfl
def w4 : Wy := ⟨[⟨0, 2⟩, ⟨2, 1⟩, ⟨1, 0⟩, ⟨2, 1⟩, ⟨0, 2⟩, ⟨2, 1⟩], 3⟩
def w1 : Wy := ⟨[⟨0, 1⟩, ⟨1, 2⟩, ⟨0, 1⟩, ⟨1, 2⟩], 0⟩
def w6 : Wy := ⟨[⟨0, 1⟩, ⟨1, 2⟩, ⟨0, 1⟩], 0⟩
theorem k_l4 : b35.few (b35.someP 4) = some w4 := k_few35 dk0
theorem k_l1 : b35.few (b35.someP 1) = some w1 := k_few35 dk0
theorem k_t6 : b35.few (totP 6) = some w6 := k_few35 dk0
theorem k_e4 : b35.lsE 4 = 0 := by decide +kernel
theorem k_e1 : b35.lsE 1 = 0 := by decide +kernel
theorem k_e6 : b35.ttE 6 = 0 := by decide +kernel
def wyL : Option Wy → Int
 | some w => (w.l.length : Int)
 | none => 0
theorem k_fl {n : Int} {o : Option Wy} {m : Int} (h : chkW (b35.someP n) (b35.bfs 9) o = true) (hm : wyL o = m) : b35.fl n = m := by
 unfold Cn.fl
 rw [k_few35 h, ← hm]
 cases o <;> rfl
theorem k_far : b35.farT b35.madeL.length = (4, 6) := by
 have f0 : b35.fl 0 = 0 := k_fl (o := minW (b35.someP 0) (b35.bfs 9)) dk0 dk0
 have f1 : b35.fl 1 = 4 := k_fl (o := minW (b35.someP 1) (b35.bfs 9)) dk0 dk0
 have f2 : b35.fl 2 = 2 := k_fl (o := minW (b35.someP 2) (b35.bfs 9)) dk0 dk0
 have f3 : b35.fl 3 = 1 := k_fl (o := minW (b35.someP 3) (b35.bfs 9)) dk0 dk0
 have f4 : b35.fl 4 = 6 := k_fl (o := minW (b35.someP 4) (b35.bfs 9)) dk0 dk0
 have f5 : b35.fl 5 = 1 := k_fl (o := minW (b35.someP 5) (b35.bfs 9)) dk0 dk0
 unfold Cn.farT
 rw [List.take_length, k_made35]
 simp [Cn.farS, f0, f1, f2, f3, f4, f5]
theorem k_less {s : Int} (h1 : 1 ≤ s) (h20 : s ≤ 20) (h4 : s ≠ 4) {w : Wy} (h : b35.hk 4 s = some w) : 2 ≤ w.l.length := by
 obtain ⟨y, hy, hb⟩ := Cn.few_way h
 have hall : ((List.range 20).all fun k => decide ((k : Int) + 1 = 4) || (!(b35.more ((k : Int) + 1)).someP 4 (b35.more ((k : Int) + 1)).co && allP.all fun p => !decide ((b35.more ((k : Int) + 1)).pE (b35.more ((k : Int) + 1)).co p = 0) || !(b35.more ((k : Int) + 1)).someP 4 ((b35.more ((k : Int) + 1)).stp (b35.more ((k : Int) + 1)).co p))) = true := by decide +kernel
 rw [List.all_eq_true] at hall
 have hk := hall (s - 1).toNat (List.mem_range.2 om0)
 rw [show (((s - 1).toNat : Nat) : Int) + 1 = s by omega] at hk
 simp only [Bool.or_eq_true, Bool.and_eq_true, decide_eq_true_eq, Bool.not_eq_true', List.all_eq_true, decide_eq_false_iff_not] at hk
 rcases hk with hk | ⟨hk0, hk1⟩
 ·exact absurd hk h4
 ·have hr := hb.way.run
  refine Classical.byContradiction fun hlt => ?_
  match hw : w.l with
  | [] =>
   rw [hw] at hr
   cases hr
   rw [hk0] at hy; cases hy
  | [p] =>
   rw [hw] at hr
   unfold Cn.runO at hr
   split at hr
   ·rename_i hp
    cases hr
    rcases hk1 p (Cn.pE_all (by rw [Cn.more_n]; decide) hp) with e | e
    ·exact e hp
    ·rw [e] at hy; cases hy
   ·cases hr
  | _ :: _ :: _ => rw [hw] at hlt; simp at hlt
theorem k_one : ∃ w, b35.hk 4 1 = some w ∧ w.l.length ≤ 2 := by
 have hw : (b35.more 1).Way ⟨[⟨0, 2⟩, ⟨2, 3⟩], 0⟩ ⟨15, 0, 4, 1⟩ := ⟨by decide +kernel, by decide +kernel⟩
 obtain ⟨w, h1, h2⟩ := Cn.few_ex dc (p := (b35.more 1).someP 4) dc hw
 refine ⟨w, h1, ?_⟩
 refine Classical.byContradiction fun hlt => ?_
 have : Wy.lt ⟨[⟨0, 2⟩, ⟨2, 3⟩], 0⟩ w = true := Wy.lt_iff.2 (by left; simp only [List.length_cons, List.length_nil]; omega)
 rw [h2] at this; cases this
theorem k_help : b35.hpE 4 = 0 ∧ minH (b35.hpL 4 20) = ⟨1, 2⟩ := by
 obtain ⟨w, h1, h2⟩ := k_one
 have h3 := k_less (s := 1) dc dc dc h1
 have hm : (⟨1, 2⟩ : Hp) ∈ b35.hpL 4 20 := Cn.hpL_mem.2 ⟨0, by decide, rfl, by decide, w, h1, by show (2 : Int) = _; omega⟩
 have hne : b35.hpL 4 20 ≠ [] := fun e => by rw [e] at hm; cases hm
 refine ⟨?_, ?_⟩
 ·unfold Cn.hpE
  rw [if_pos dc, if_pos dc, if_neg dc, if_neg hne]
 ·obtain ⟨h4, h5⟩ := minH_min hne
  have h6 := h5 _ hm
  rw [ordHlt] at h6
  obtain ⟨j, hj, e1, e2, v, e3, e4⟩ := Cn.hpL_mem.1 h4
  have h7 := k_less om0 om0 e2 e3
  generalize minH (b35.hpL 4 20) = m at *
  obtain ⟨a, b⟩ := m
  simp only at h6 e1 e4
  simp only [Hp.mk.injEq]
  omega
def bef0 : Cn := ⟨[3, 5], [3, 0], 17⟩
def Cn.inB' (c : Cn) (x : Co) : Bool := ((List.range 4).all fun k => decide (0 ≤ x.g k) && (if k ≤ c.n then decide (x.g k ≤ c.room k) else decide (x.g k = 0)))
theorem Cn.in_iff {c : Cn} {x : Co} (hn : c.n ≤ 3) : c.inB' x = true ↔ c.In x := by
 unfold Cn.inB'
 simp only [List.all_eq_true, List.mem_range, Bool.and_eq_true, decide_eq_true_eq]
 constructor
 ·intro h
  refine ⟨fun k hk => (h k hk).1, fun k hk => ?_, fun k hk hk4 => ?_⟩
  ·have := (h k om0).2
   rw [if_pos hk] at this
   exact of_decide_eq_true this
  ·have := (h k hk4).2
   rw [if_neg om0] at this
   exact of_decide_eq_true this
 ·intro h k hk
  refine ⟨h.lo k hk, ?_⟩
  split
  ·rename_i hk'; exact decide_eq_true (h.hi k hk')
  ·exact decide_eq_true (h.z k om0 hk)
def Cn.befB (c : Cn) (f t : Nat) (x : Co) : Bool := c.inB' x && (c.canB x f t && decide (c.to x f t = c.co))
theorem Cn.bef_iff {c : Cn} {f t : Nat} {x : Co} (hn : c.n ≤ 3) : c.befB f t x = true ↔ c.IsBef f t x := by
 unfold Cn.befB
 rw [Bool.and_eq_true, Bool.and_eq_true, decide_eq_true_eq, Cn.in_iff hn]
 exact ⟨fun ⟨h1, h2, h3⟩ => ⟨h1, h2, h3⟩, fun h => ⟨h.inn, h.can, h.to⟩⟩
instance (x y : Co) : Decidable (x.lt y) := by unfold Co.lt; exact inferInstance
theorem Cn.cert_bef {c : Cn} {p : Po} {L : List Co} (hok : c.okB = true) (hv : c.vldB p = true) (h1 : L.Pairwise Co.lt) (h2 : L.all (c.befB p.f.toNat p.t.toNat) = true) (h3 : ((List.range 21).all fun n => !c.befB p.f.toNat p.t.toNat (c.old p.f.toNat p.t.toNat n) || decide (c.old p.f.toNat p.t.toNat n ∈ L)) = true) : c.Bef p 0 L := by
 have hO := Cn.ok_iff.1 hok
 have hn := hO.n3
 obtain ⟨⟨hf0, hf1⟩, ⟨ht0, ht1⟩, hne⟩ := Cn.vld_iff.1 hv
 have hp : c.Fp p.f.toNat p.t.toNat := ⟨by omega, by omega, by omega⟩
 unfold Cn.Bef
 rw [if_pos hok, if_pos hv]
 refine ⟨rfl, h1, fun x => ⟨fun hx => (Cn.bef_iff hn).1 (List.all_eq_true.1 h2 x hx), fun hx => ?_⟩⟩
 have ha := hx.amt hO hp
 have e := hx.old hO hp
 have := List.all_eq_true.1 h3 (c.amt x p.f.toNat p.t.toNat).toNat (List.mem_range.2 om0)
 rw [← e] at this
 simp only [Bool.or_eq_true, Bool.not_eq_true', decide_eq_true_eq] at this
 rcases this with h4 | h4
 ·rw [(Cn.bef_iff hn).2 hx] at h4; cases h4
 ·exact h4
def befL : List Co := [⟨20, 0, 0, 0⟩, ⟨19, 1, 0, 0⟩, ⟨18, 2, 0, 0⟩]
theorem k_bef : bef0.Bef ⟨0, 1⟩ 0 befL := Cn.cert_bef dc dc dc dk0 dk0
theorem bd57_0_1_2 {x0a : Option Addr} {x0l x0c : Nat} {x1 : Int} {x2 : Int} : ∀ w, (Instr.build 57 #[(0, .slice x0a x0l x0c), (1, .int .i64 x1), (2, .int .i64 x2)]).run Tryz.prog w = .ok (.agg #[.slice x0a x0l x0c, .int .i64 x1, .int .i64 x2]) w := fun w => by kernel_rfl
theorem bd62_0_1_2 {x0_0a : Option Addr} {x0_0l x0_0c : Nat} {x0_1 : Int} {x0_2 : Int} {x1_0 : Int} {x1_1 : Int} {x2a : Option Addr} {x2l x2c : Nat} : ∀ w, (Instr.build 62 #[(0, .agg #[.slice x0_0a x0_0l x0_0c, .int .i64 x0_1, .int .i64 x0_2]), (1, .agg #[.int .i64 x1_0, .int .i64 x1_1]), (2, .slice x2a x2l x2c)]).run Tryz.prog w = .ok (.agg #[.slice x0_0a x0_0l x0_0c, .int .i64 x0_1, .int .i64 x0_2, .int .i64 x1_0, .int .i64 x1_1, .slice x2a x2l x2c]) w := fun w => by kernel_rfl
theorem bs22_5_0_1_2_3_4 {x0 : Int} {x1 : Int} {x2 : Int} {x3 : Int} {x4 : Int} : ∀ w, (Instr.buildSlice 22 5 #[(0, .int .i64 x0), (1, .int .i64 x1), (2, .int .i64 x2), (3, .int .i64 x3), (4, .int .i64 x4)]).run Tryz.prog w = .ok (.slice (some ⟨w.heap.size, 0, none⟩) 5 5) (w.alloc (CB [.int .i64 x0, .int .i64 x1, .int .i64 x2, .int .i64 x3, .int .i64 x4] 3)) := fun w => by kernel_rfl
theorem bs60_4_0_1_2_3 {x0_0 : Int} {x0_1 : Int} {x0_2 : Int} {x0_3 : Int} {x1_0 : Int} {x1_1 : Int} {x1_2 : Int} {x1_3 : Int} {x2_0 : Int} {x2_1 : Int} {x2_2 : Int} {x2_3 : Int} {x3_0 : Int} {x3_1 : Int} {x3_2 : Int} {x3_3 : Int} : ∀ w, (Instr.buildSlice 60 4 #[(0, .agg #[.int .i64 x0_0, .int .i64 x0_1, .int .i64 x0_2, .int .i64 x0_3]), (1, .agg #[.int .i64 x1_0, .int .i64 x1_1, .int .i64 x1_2, .int .i64 x1_3]), (2, .agg #[.int .i64 x2_0, .int .i64 x2_1, .int .i64 x2_2, .int .i64 x2_3]), (3, .agg #[.int .i64 x3_0, .int .i64 x3_1, .int .i64 x3_2, .int .i64 x3_3])]).run Tryz.prog w = .ok (.slice (some ⟨w.heap.size, 0, none⟩) 4 4) (w.alloc (CB [.int .i64 x0_0, .int .i64 x0_1, .int .i64 x0_2, .int .i64 x0_3, .int .i64 x1_0, .int .i64 x1_1, .int .i64 x1_2, .int .i64 x1_3, .int .i64 x2_0, .int .i64 x2_1, .int .i64 x2_2, .int .i64 x2_3, .int .i64 x3_0, .int .i64 x3_1, .int .i64 x3_2, .int .i64 x3_3] 90)) := fun w => by kernel_rfl
theorem l8span_any (x y : Int) (w : World) : Ct Tryz.prog 35 #[.int .i64 x, .int .i64 y] w fun v _ => v = .agg #[.int .i64 x, .int .i64 y] := by
 have hF := wide_wide
 refine Ct_start (args := [_, _]) Tryz.func35 rf Tryz.ntmps35 rf ?_
 refine zR fun ds => ?_
 refine WS_new hF rf (y_alloc Tryz.zeroValue59 rf) (fun b1 => ?_)
 refine zP fun ds => ?_
 refine zm (.int .i64 _) hF ?_
 refine zm (.int .i64 _) hF ?_
 refine zD hF (y_buildL bd59_0_1 rf) ?_
 refine WS_store hF (i := 0) rf rf Tryz.sizeOf59 rf rf rf d20 ?_
 refine zN ?_
 refine W_ret ?_
 refine Fin_ret [_] [] Tryz.results35 ⟨lvN rf Tryz.isAgg59 Tryz.sizeOf59 (Mem.own (us := [.int .i64 _, .int .i64 _]) 0 rf rf) rf, trivial⟩ HSub.nil ?_
 rfl
theorem l8log_any (w : World) : Ct Tryz.prog 46 #[] w (TwinL logL) := by
 have hF := wide_wide
 refine Ct_start (args := []) Tryz.func46 rf Tryz.ntmps46 rf ?_
 refine zR fun ds => ?_
 refine WS_new hF rf (y_alloc Tryz.zeroValue62 rf) (fun b1 => ?_)
 refine zP fun ds => ?_
 refine WS_newS hF rf (y_buildSliceL bs22_5_0_1_2_3_4 rf) (fun b2 => ?_)
 refine zD hF (y_buildL bd57_0_1_2 rf) ?_
 refine zD hF (y_callL rf rf Tryz.call35 (fun w hw => l8span_any _ _ w)) ?_
 refine zD hF (y_callL rf rf Tryz.call35 (fun w hw => l8span_any _ _ w)) ?_
 refine zD hF (y_buildL bd90_0_1_2 rf) ?_
 refine zD hF (y_callL rf rf Tryz.call35 (fun w hw => l8span_any _ _ w)) ?_
 refine zD hF (y_buildL bd90_0_1_2 rf) ?_
 refine zD hF (y_callL rf rf Tryz.call35 (fun w hw => l8span_any _ _ w)) ?_
 refine zD hF (y_buildL bd90_0_1_2 rf) ?_
 refine zD hF (y_callL rf rf Tryz.call35 (fun w hw => l8span_any _ _ w)) ?_
 refine zD hF (y_buildL bd90_0_1_2 rf) ?_
 refine WS_newS hF rf (y_buildSliceL bs60_4_0_1_2_3 rf) (fun b3 => ?_)
 refine zD hF (y_buildL bd62_0_1_2 rf) ?_
 refine WS_store hF (i := 2) rf rf Tryz.sizeOf62 rf rf rf d20 ?_
 refine zN ?_
 refine W_ret ?_
 refine Fin_ret [_] [(b2, CB (iv logL.tk.pints) 3), (b3, CB (rowOf En.cells logL.e logL.es.length) 90)] Tryz.results46 ⟨lvN rf Tryz.isAgg62 Tryz.sizeOf62 (Mem.own (us := [.slice _ _ _, .int .i64 _, .int .i64 _, .int .i64 _, .int .i64 _, .slice _ _ _]) 2 rf rf) rf, trivial⟩ (HSub.perm (Hn := [(b3, _), (b2, _)]) (HSub.sub sbA) (List.Perm.swap _ _ _)) ?_
 exact ⟨_, _, _, _, [(b2, _)], [(b3, _)], rfl, ⟨_, _, rfl, Nat.le_refl _, .inl ⟨by decide, b2, [], rfl, by rw [List.append_nil], by rfl⟩⟩, ⟨_, _, rfl, Nat.le_refl _, .inl ⟨by decide, b3, [], by rfl, by rw [List.append_nil], by rfl⟩⟩, rfl⟩
theorem l8bench_any (s : Int) (xs : List Int) (a : Option Addr) (cap : Nat) (w : World) (hn : xs.length ≤ 1000000) : Ct Tryz.prog 43 #[.int .i64 s, .slice a xs.length cap] w fun v Hn => ∃ z q, v = .agg #[.slice a xs.length cap, .slice z xs.length q, .int .i64 s] ∧ NewRow 3 1 xs.length (iv (List.replicate xs.length 0)) (.slice z xs.length q) Hn := by
 have hF := wide_wide
 refine Ct_start (args := [_, _]) Tryz.func43 rf Tryz.ntmps43 rf ?_
 refine zR fun ds => ?_
 refine WS_new hF rf (y_alloc Tryz.zeroValue24 rf) (fun b1 => ?_)
 refine zP fun ds => ?_
 refine zm (.slice _ _ _) hF ?_
 refine zm (.slice _ _ _) hF ?_
 refine zD hF (y_len rf Tryz.runUnderlying22) ?_
 refine WS_gen hF rf (y_makeRow (n := xs.length) rf rf rf rf Tryz.underlying22 infInt rf rf om0 om0 (zeros_iv xs Lg.zero)) ?_
 rintro _ Hn hr0
 obtain ⟨z, q, rfl, hr⟩ := NewRow.sl hr0
 refine WS_back ?_
 refine zm (.int .i64 _) hF ?_
 refine zD hF (y_buildL bd24_0_1_2 rf) ?_
 refine WS_store hF (i := 0) rf rf Tryz.sizeOf24 rf rf rf d20 ?_
 refine zN ?_
 refine W_ret ?_
 refine Fin_ret [_] Hn Tryz.results43 ⟨lvN rf Tryz.isAgg24 Tryz.sizeOf24 (Mem.own (us := [.slice _ _ _, .slice _ _ _, .int .i64 _]) 0 rf rf) rf, trivial⟩ (HSub.sub sbA) ?_
 exact ⟨z, q, rfl, hr⟩
def flatP (ps : List Po) : List Int := ps.flatMap fun p => [p.f, p.t]
theorem flatP_get : ∀ {ps : List Po} {k : Nat}, k < ps.length → (flatP ps).getD (2 * k) 0 = (ps.getD k Po.z).f ∧ (flatP ps).getD (2 * k + 1) 0 = (ps.getD k Po.z).t
 | [], k, h => absurd h (Nat.not_lt_zero _)
 | p :: ps, 0, _ => ⟨rfl, rfl⟩
 | p :: ps, k + 1, h => by
  have ih := flatP_get (ps := ps) (k := k) (by simpa using h)
  rw [show 2 * (k + 1) = 2 * k + 1 + 1 by omega]
  exact ih
def pRow (ps : List Po) : List Value := rowOf Po.cells (fun k => ps.getD k Po.z) ps.length
theorem l8pours_any (ps : List Po) (a : Option Addr) (cap : Nat) (w : World) (hl : ps.length ≤ 1000) (hx : Ints w a (2 * ps.length) cap (flatP ps)) : Ct Tryz.prog 44 #[.slice a (2 * ps.length) cap] w fun v Hn => ∃ b k, v = .slice b ps.length k ∧ NewRow 47 2 ps.length (pRow ps) (.slice b ps.length k) Hn := by
 have hF := wide_wide
 refine Ct_start (args := [_]) Tryz.func44 rf Tryz.ntmps44 rf ?_
 refine zR fun ds => ?_
 refine za (.slice _ _ _) hF ?_
 refine zP fun ds => ?_
 refine za (.slice _ _ _) hF ?_
 refine zO ?_
 refine zR fun ds => ?_
 refine za (.int .i64 _) hF ?_
 refine zN ?_
 refine W_block ?_
 refine W_loop (γ := Nat × Option Addr × Nat × List Blk) (fun q => q.1 ≤ ps.length ∧ NewRow 47 2 q.1 (rowOf Po.cells (fun k => ps.getD k Po.z) q.1) (.slice q.2.1 q.1 q.2.2.1) q.2.2.2) (fun q => [(0, .slice a (2 * ps.length) cap), (3, .slice q.2.1 q.1 q.2.2.1), (4, .int .i64 ((2 * q.1 : Nat) : Int))]) (fun q => q.2.2.2) (fun q => ps.length - q.1) ((0, none, 0, [])) ⟨Nat.zero_le _, none, 0, rfl, Nat.le_refl _, .inr ⟨rfl, rfl, rfl⟩⟩ s10 (List.Sublist.refl _) ?_
 rintro ⟨k, ra, rc, Hr⟩ e ⟨(hk : k ≤ ps.length), (hrow : NewRow 47 2 k (rowOf Po.cells (fun k => ps.getD k Po.z) k) (.slice ra k rc) Hr)⟩
 refine W_seq ?_
 refine zR fun ds => ?_
 refine zm (.int .i64 _) hF ?_
 refine zD hF (y_add rf rf ui) ?_
 refine zm (.slice _ _ _) hF ?_
 refine zD hF (y_len rf Tryz.runUnderlying22) ?_
 refine zD hF (y_lss rf rf) ?_
 refine zN ?_
 refine W_cond rf (fun c3 => ?_) (fun c3 => ?_)
 ·
  try simp only [qz1, qz2, qz3, qz4, qz5, qz6, qz7, qz8] at c3
  have hk2 : k < ps.length := by omega
  obtain ⟨b, o, rfl, hc⟩ := hx.cell (2 * k) om0
  have hc2 := hx.at (k := 2 * k + 1) om0
  rw [(flatP_get hk2).1] at hc
  rw [(flatP_get hk2).2] at hc2
  refine zU ?_
  refine W_seq ?_
  refine W_block ?_
  apply W_drawMT 12 hF Tryzmixed [] [] [] rf dk0 dc HSub.refl
  intro ds
  refine P_det rf (Over_nil (y_move (c := .slice _ _ _) rf)) ?_
  refine P_det rf (Over_nil (y_move (c := .slice _ _ _) rf)) ?_
  refine P_det rf (Over_nil (y_move (c := .int .i64 _) rf)) ?_
  refine P_det rf (Over_nil (y_index (k := 2 * k) rf rf r1 d10 Tryz.runUnderlying22 Tryz.sizeOf3)) ?_
  refine P_det rf (Over_nil (y_load1 rf Tryz.isAgg3 zo)) ?_
  refine P_det rf (Over_nil (y_move (c := .slice _ _ _) rf)) ?_
  refine P_det rf (Over_nil (y_move (c := .int .i64 _) rf)) ?_
  refine P_det rf (Over_nil (y_add rf rf ui)) ?_
  refine P_det rf (Over_nil (y_index (k := 2 * k + 1) rf rf r1 d10 Tryz.runUnderlying22 Tryz.sizeOf3)) ?_
  refine P_det rf (Over_nil (y_load1 rf Tryz.isAgg3 zo)) ?_
  refine P_det rf (Over_nil (y_buildL bd47_0_1 rf)) ?_
  refine P_new rf rf (Over_nil (y_buildSliceL bs35_1_0 rf)) ?_
  refine PW_end rf ?_
  refine OverAll_cons (fun w23 l23 => ?_)
  refine OverAll_nil ?_
  rintro ⟨-, h23⟩
  obtain ⟨bx, rfl, rfl⟩ := h23
  refine WS_appendN hF (H1 := (_ :: [])) (Hn := Hr) (news := (ps.getD k Po.z).cells) rf rf rf Tryz.underlying35 infPo rf rf hrow (rowOf_len po_len _ _) (.inr ⟨_, _, rfl, Mem.own (us := (ps.getD k Po.z).cells) 0 rf rf⟩) rf rf om0 om0 om0 ?_
  intro a3 c3 H3 hr3
  have hrow3 : NewRow 47 2 (k + 1) (rowOf Po.cells (fun k => ps.getD k Po.z) (k + 1)) (.slice a3 (k + 1) c3) H3 := by
   rw [rowOf_succ]
   exact hr3
  refine za (.slice _ _ _) hF ?_
  refine WS_nil ?_
  refine InB_normal ?_
  refine zT fun ds => ?_
  refine zm (.int .i64 _) hF ?_
  refine zD hF (y_add rf rf ui) ?_
  refine za (.int .i64 _) hF ?_
  refine WS_nil ?_
  exact Loop_next (k + 1, a3, c3, H3) ⟨by simp only; omega, hrow3⟩ s30 sbA (by simp only; omega)
 ·
  try simp only [qz1, qz2, qz3, qz4, qz5, qz6, qz7, qz8] at c3
  refine W_exit ?_
  refine Then_exit ?_
  refine Loop_exit ?_
  refine InB_same ?_
  refine zS fun ds => ?_
  refine zm (.slice _ _ _) hF ?_
  refine za (.slice _ _ _) hF ?_
  refine zN ?_
  refine W_ret ?_
  refine Fin_ret [.slice _ _ _] Hr Tryz.results44 ⟨by rfl, trivial⟩ (HSub.sub sbA) ?_
  obtain rfl : k = ps.length := by omega
  exact ⟨ra, rc, rfl, hrow⟩
theorem getD_app_lt {α : Type} {l m : List α} {d : α} {k : Nat} (h : k < l.length) : (l ++ m).getD k d = l.getD k d := by
 simp [List.getD_eq_getElem?_getD, List.getElem?_append_left h]
theorem getD_app_eq {α : Type} {l : List α} {x d : α} : (l ++ [x]).getD l.length d = x := by simp [List.getD_eq_getElem?_getD]
theorem Cn.runK_app (c : Cn) (l m : List Po) : ∀ k, k ≤ l.length → c.runK (l ++ m) k = c.runK l k
 | 0, _ => rfl
 | k + 1, h => by
  unfold Cn.runK
  rw [Cn.runK_app c l m k om0, getD_app_lt om0]
theorem Cn.runK_snoc (c : Cn) (l : List Po) (p : Po) : c.runK (l ++ [p]) (l.length + 1) = c.stp (c.runK l l.length) p := by
 show c.stp (c.runK (l ++ [p]) l.length) ((l ++ [p]).getD l.length Po.z) = _
 rw [c.runK_app l [p] _ (Nat.le_refl _), getD_app_eq]
theorem Cn.RunOk.snoc {c : Cn} {l : List Po} {p : Po} (h : c.RunOk l l.length) (hp : c.pE (c.runK l l.length) p = 0) : c.RunOk (l ++ [p]) (l ++ [p]).length := fun j hj => by
 rw [List.length_append, List.length_singleton] at hj
 by_cases hjl : j = l.length
 ·subst hjl
  rw [c.runK_app l [p] _ (Nat.le_refl _), getD_app_eq]; exact hp
 ·rw [c.runK_app l [p] j om0, getD_app_lt om0]; exact h j om0
def Cn.b0 (c : Cn) (a1 : Option Addr) (p1 : Nat) (a2 : Option Addr) (p2 : Nat) : Bl := ⟨c.co, a1, p1, a2, p2⟩
structure WkS (c : Cn) (B0 : Bl) (ps : List Po) (bs : List Bl) (aA : Option Addr) (kA : Nat) (HA : List Blk) (aL : Option Addr) (kL : Nat) (HL HX : List Blk) : Prop where
 len : bs.length = ps.length
 run : c.RunOk ps ps.length
 x : ∀ k, k < bs.length → (bs.getD k Bl.z).x = c.runK ps (k + 1)
 rowA : NewRow 24 3 (B0 :: bs).length (blRow c (B0 :: bs)) (.slice aA (B0 :: bs).length kA) HA
 rowL : NewRow 47 2 ps.length (pRow ps) (.slice aL ps.length kL) HL
 rd : ∀ b ∈ bs, b.RdH c HX
theorem WkS.at {c : Cn} {B0 : Bl} {ps : List Po} {bs : List Bl} {aA : Option Addr} {kA : Nat} {HA : List Blk} {aL : Option Addr} {kL : Nat} {HL HX : List Blk} (h : WkS c B0 ps bs aA kA HA aL kL HL HX) (h0 : B0.x = c.co) {k : Nat} (hk : k ≤ bs.length) : ((B0 :: bs).getD k Bl.z).x = c.runK ps k := by
 cases k with
 | zero => exact h0
 | succ k => exact h.x k hk
theorem WkS.push {c : Cn} {B0 : Bl} {ps : List Po} {bs : List Bl} {aA : Option Addr} {kA : Nat} {HA : List Blk} {aL : Option Addr} {kL : Nat} {HL HX : List Blk} (h : WkS c B0 ps bs aA kA HA aL kL HL HX) {p : Po} {b : Bl} {aA' : Option Addr} {kA' : Nat} {HA' : List Blk} {aL' : Option Addr} {kL' : Nat} {HL' HX' : List Blk} (hp : c.pE (c.runK ps ps.length) p = 0) (hb : b.x = c.stp (c.runK ps ps.length) p)
  (rA : NewRow 24 3 (B0 :: (bs ++ [b])).length (blRow c (B0 :: (bs ++ [b]))) (.slice aA' (B0 :: (bs ++ [b])).length kA') HA')
  (rL : NewRow 47 2 (ps ++ [p]).length (pRow (ps ++ [p])) (.slice aL' (ps ++ [p]).length kL') HL') (hr : b.RdH c HX') (hs : HX.Sublist HX') : WkS c B0 (ps ++ [p]) (bs ++ [b]) aA' kA' HA' aL' kL' HL' HX' :=
 ⟨by rw [List.length_append, List.length_append, h.len]; rfl, h.run.snoc hp, fun k hk => by
  rw [List.length_append, List.length_singleton] at hk
  by_cases hkl : k = bs.length
  ·subst hkl
   rw [getD_app_eq, hb, h.len, c.runK_snoc]
  ·rw [getD_app_lt om0, h.x k om0, c.runK_app _ _ _ (by have := h.len; omega)], rA, rL, fun y hy => by
  rcases List.mem_append.1 hy with hy | hy
  ·exact (h.rd y hy).mono hs
  ·rw [List.mem_singleton] at hy; subst hy; exact hr⟩
def WalkV (c : Cn) (B0 : Bl) (many : Nat) (v : Value) (Hn : List Blk) : Prop := ∃ ps bs aA kA HA aL kL HL HX, v = .tuple #[.slice aA (B0 :: bs).length kA, .slice aL ps.length kL] ∧ ps.length ≤ many ∧ WkS c B0 ps bs aA kA HA aL kL HL HX ∧ Hn = HX ++ (HA ++ HL)
theorem NewRow.adr {T : TypeId} {sz m cap : Nat} {us : List Value} {a : Option Addr} {Hn : List Blk} (h : NewRow T sz m us (.slice a m cap) Hn) (h0 : 0 < m) : ∃ b, a = some ⟨b, 0, none⟩ := by
 obtain ⟨b, _, h1, _⟩ := NewRow.head h h0
 exact ⟨b, h1⟩
theorem Bl.ints {c : Cn} {b B0 : Bl} {HX : List Blk} {C : Ctx} {H : List Blk} (h : b = B0 ∨ b.RdH c HX) (h1 : Ints C.w0 B0.s c.n B0.ks c.sz) (h2 : Ints C.w0 B0.i (c.of B0.x).inn.length B0.ki (c.of B0.x).inn) (hs : HX.Sublist H) (w : World) (hw : St C H w) : Ints w b.s c.n b.ks c.sz ∧ Ints w b.i (c.of b.x).inn.length b.ki (c.of b.x).inn := by
 rcases h with rfl | h
 ·exact ⟨h1.st w hw, h2.st w hw⟩
 ·exact ⟨h.s C H w hs hw, h.i C H w hs hw⟩
theorem Bl.RdH.two {c : Cn} {x : Co} {z1 z2 : Option Addr} {q1 q2 : Nat} {H1 H2 HX : List Blk} (h1 : NewRow 3 1 c.n (iv c.sz) (.slice z1 c.n q1) H1) (h2 : NewRow 3 1 (c.of x).inn.length (iv (c.of x).inn) (.slice z2 (c.of x).inn.length q2) H2) (hs : (H1 ++ H2).Sublist HX) : (⟨x, z1, q1, z2, q2⟩ : Bl).RdH c HX :=
 (Bl.RdH.new (HX := []) h1 h2).mono hs
def LdV (c : Cn) (B0 : Bl) (ps : List Po) (v : Value) (Hn : List Blk) : Prop := ∃ b : Bl, v = .tuple #[.agg (b.cells c).toArray, .int .i64 (c.backK ps ps.length), .bool true] ∧ b.x = c.runK ps ps.length ∧ (b = B0 ∨ b.RdH c Hn)
def frL (n k : Nat) : List Int := (List.range n).map fun j => if j < k then -1 else 0
set_option maxHeartbeats 4000000
theorem a_ep59_0 {x_0 : Int} {x_1 : Int} : ∀ w, (part 3 #[.int .i64 x_0, .int .i64 x_1] 0).run Tryz.prog w = .ok (.int .i64 x_0) w := fun w => by kernel_rfl
theorem a_ep59_1 {x_0 : Int} {x_1 : Int} : ∀ w, (part 3 #[.int .i64 x_0, .int .i64 x_1] 1).run Tryz.prog w = .ok (.int .i64 x_1) w := fun w => by kernel_rfl
theorem a_ep90_0 {x_0 : Int} {x_1 : Int} {x_2 : Int} {x_3 : Int} : ∀ w, (part 3 #[.int .i64 x_0, .int .i64 x_1, .int .i64 x_2, .int .i64 x_3] 0).run Tryz.prog w = .ok (.int .i64 x_0) w := fun w => by kernel_rfl
theorem a_ep90_1 {x_0 : Int} {x_1 : Int} {x_2 : Int} {x_3 : Int} : ∀ w, (part 3 #[.int .i64 x_0, .int .i64 x_1, .int .i64 x_2, .int .i64 x_3] 1).run Tryz.prog w = .ok (.int .i64 x_1) w := fun w => by kernel_rfl
theorem a_ep90_2 {x_0 : Int} {x_1 : Int} {x_2 : Int} {x_3 : Int} : ∀ w, (part 59 #[.int .i64 x_0, .int .i64 x_1, .int .i64 x_2, .int .i64 x_3] 2).run Tryz.prog w = .ok (.agg #[.int .i64 x_2, .int .i64 x_3]) w := fun w => by kernel_rfl
theorem a_gneqA90 {x y : Operand} {x_0 : Int} {x_1 : Int} {x_2 : Int} {x_3 : Int} {y_0 : Int} {y_1 : Int} {y_2 : Int} {y_3 : Int} : ∀ w, (eqGuard .neq 90 x y (.agg #[.int .i64 x_0, .int .i64 x_1, .int .i64 x_2, .int .i64 x_3]) (.agg #[.int .i64 y_0, .int .i64 y_1, .int .i64 y_2, .int .i64 y_3])).run Tryz.prog w = .ok () w := fun w => by kernel_rfl
theorem a_st59 : Tryz.prog.stoodInHeld 59 = false := by kernel_rfl
theorem a_st90 : Tryz.prog.stoodInHeld 90 = false := by kernel_rfl
theorem eq59_9999 {x_0 : Int} {x_1 : Int} {y_0 : Int} {y_1 : Int} : ∀ w, (Op.equalIn 9999 59 (.agg #[.int .i64 x_0, .int .i64 x_1]) (.agg #[.int .i64 y_0, .int .i64 y_1])).run Tryz.prog w = .ok (ieq x_0 y_0 && ieq x_1 y_1) w := fun w => by
 unfold Op.equalIn
 rw [Sem.run_bind, Tryz.runUnderlying59]
 simp [a_st59, a_ep59_0, eq_int (d := 9997) Tryz.runUnderlying3, a_ep59_1, eq_int (d := 9997) Tryz.runUnderlying3]
 generalize ieq x_0 y_0 = b0
 generalize ieq x_1 y_1 = b1
 cases b0 <;> cases b1 <;> simp
theorem eq90 {x_0 : Int} {x_1 : Int} {x_2 : Int} {x_3 : Int} {y_0 : Int} {y_1 : Int} {y_2 : Int} {y_3 : Int} : ∀ w, (Op.equalIn Op.maxDepth 90 (.agg #[.int .i64 x_0, .int .i64 x_1, .int .i64 x_2, .int .i64 x_3]) (.agg #[.int .i64 y_0, .int .i64 y_1, .int .i64 y_2, .int .i64 y_3])).run Tryz.prog w = .ok (ieq x_0 y_0 && ieq x_1 y_1 && ieq x_2 y_2 && ieq x_3 y_3) w := fun w => by
 unfold Op.maxDepth Op.equalIn
 rw [Sem.run_bind, Tryz.runUnderlying90]
 simp [a_st90, a_ep90_0, eq_int (d := 9998) Tryz.runUnderlying3, a_ep90_1, eq_int (d := 9998) Tryz.runUnderlying3, a_ep90_2, eq59_9999]
 generalize ieq x_0 y_0 = b0
 generalize ieq x_1 y_1 = b1
 generalize ieq x_2 y_2 = b2
 generalize ieq x_3 y_3 = b3
 cases b0 <;> cases b1 <;> cases b2 <;> cases b3 <;> simp
theorem bs22_12_0_1_2_3_4_5_6_7_8_9_10_11 {x0 : Int} {x1 : Int} {x2 : Int} {x3 : Int} {x4 : Int} {x5 : Int} {x6 : Int} {x7 : Int} {x8 : Int} {x9 : Int} {x10 : Int} {x11 : Int} : ∀ w, (Instr.buildSlice 22 12 #[(0, .int .i64 x0), (1, .int .i64 x1), (2, .int .i64 x2), (3, .int .i64 x3), (4, .int .i64 x4), (5, .int .i64 x5), (6, .int .i64 x6), (7, .int .i64 x7), (8, .int .i64 x8), (9, .int .i64 x9), (10, .int .i64 x10), (11, .int .i64 x11)]).run Tryz.prog w = .ok (.slice (some ⟨w.heap.size, 0, none⟩) 12 12) (w.alloc (CB [.int .i64 x0, .int .i64 x1, .int .i64 x2, .int .i64 x3, .int .i64 x4, .int .i64 x5, .int .i64 x6, .int .i64 x7, .int .i64 x8, .int .i64 x9, .int .i64 x10, .int .i64 x11] 3)) := fun w => by kernel_rfl
theorem bs22_4_0_1_2_3 {x0 : Int} {x1 : Int} {x2 : Int} {x3 : Int} : ∀ w, (Instr.buildSlice 22 4 #[(0, .int .i64 x0), (1, .int .i64 x1), (2, .int .i64 x2), (3, .int .i64 x3)]).run Tryz.prog w = .ok (.slice (some ⟨w.heap.size, 0, none⟩) 4 4) (w.alloc (CB [.int .i64 x0, .int .i64 x1, .int .i64 x2, .int .i64 x3] 3)) := fun w => by kernel_rfl
theorem bs22_6_0_1_2_3_4_5 {x0 : Int} {x1 : Int} {x2 : Int} {x3 : Int} {x4 : Int} {x5 : Int} : ∀ w, (Instr.buildSlice 22 6 #[(0, .int .i64 x0), (1, .int .i64 x1), (2, .int .i64 x2), (3, .int .i64 x3), (4, .int .i64 x4), (5, .int .i64 x5)]).run Tryz.prog w = .ok (.slice (some ⟨w.heap.size, 0, none⟩) 6 6) (w.alloc (CB [.int .i64 x0, .int .i64 x1, .int .i64 x2, .int .i64 x3, .int .i64 x4, .int .i64 x5] 3)) := fun w => by kernel_rfl
theorem bs22_8_0_1_2_3_4_5_6_7 {x0 : Int} {x1 : Int} {x2 : Int} {x3 : Int} {x4 : Int} {x5 : Int} {x6 : Int} {x7 : Int} : ∀ w, (Instr.buildSlice 22 8 #[(0, .int .i64 x0), (1, .int .i64 x1), (2, .int .i64 x2), (3, .int .i64 x3), (4, .int .i64 x4), (5, .int .i64 x5), (6, .int .i64 x6), (7, .int .i64 x7)]).run Tryz.prog w = .ok (.slice (some ⟨w.heap.size, 0, none⟩) 8 8) (w.alloc (CB [.int .i64 x0, .int .i64 x1, .int .i64 x2, .int .i64 x3, .int .i64 x4, .int .i64 x5, .int .i64 x6, .int .i64 x7] 3)) := fun w => by kernel_rfl
theorem neqA90 {x y : Operand} {x_0 : Int} {x_1 : Int} {x_2 : Int} {x_3 : Int} {y_0 : Int} {y_1 : Int} {y_2 : Int} {y_3 : Int} : ∀ w, ((do eqGuard .neq 90 x y (.agg #[.int .i64 x_0, .int .i64 x_1, .int .i64 x_2, .int .i64 x_3]) (.agg #[.int .i64 y_0, .int .i64 y_1, .int .i64 y_2, .int .i64 y_3]); binOp .neq 90 (.agg #[.int .i64 x_0, .int .i64 x_1, .int .i64 x_2, .int .i64 x_3]) (.agg #[.int .i64 y_0, .int .i64 y_1, .int .i64 y_2, .int .i64 y_3])) : Sem Value).run Tryz.prog w = .ok (.bool (!(ieq x_0 y_0 && ieq x_1 y_1 && ieq x_2 y_2 && ieq x_3 y_3))) w := eq_topN a_gneqA90 eq90
theorem k_farv : Value.tuple #[.int .i64 (if b35.okB then (b35.farT b35.madeL.length).1 else 0), .int .i64 (if b35.okB then (b35.farT b35.madeL.length).2 else 0), .int .i64 b35.err] = .tuple #[.int .i64 4, .int .i64 6, .int .i64 0] := by
 rw [if_pos dc, if_pos dc, k_far]; rfl
theorem k_hlpv : Value.tuple #[.int .i64 (if b35.hpE 4 = 0 then (minH (b35.hpL 4 20)).s else 0), .int .i64 (if b35.hpE 4 = 0 then (minH (b35.hpL 4 20)).m else 0), .int .i64 (b35.hpE 4)] = .tuple #[.int .i64 1, .int .i64 2, .int .i64 0] := by
 rw [if_pos k_help.1, if_pos k_help.1, k_help.1, k_help.2]
theorem AskA.lit {e : Int} {o : Option Wy} {w : Wy} {v : Value} {Hn : List Blk} (h : AskA e o v Hn) (he : e = 0) (ho : o = some w) : ∃ a k, v = .tuple #[.slice a w.l.length k, .int .i64 w.back, .int .i64 0] ∧ ∀ (C : Ctx) (H : List Blk) (u : World), Hn.Sublist H → St C H u → Pos u a w.l.length k w.l := by
 subst he ho
 obtain ⟨v0, rfl, a, k, rfl, h⟩ := h
 exact ⟨a, k, rfl, h⟩
def bg0 : Cn := ⟨[3, 5], [0, 0], 10⟩
theorem k_begE : begE logL [3, 5] = 0 := by kernel_rfl
theorem k_begC : begC logL [3, 5] = bg0 := by kernel_rfl
def wp2 : List Po := [⟨0, 2⟩, ⟨2, 1⟩]
def wrtL : Lg := ⟨tunT, ⟨20, 40⟩, [⟨0, 1, ⟨10, 15⟩⟩, ⟨3, 3, ⟨18, 20⟩⟩, ⟨5, 2, ⟨10, 20⟩⟩, ⟨5, 3, ⟨12, 16⟩⟩, ⟨5, 2, ⟨5, 5⟩⟩]⟩
theorem k_wtE : wtE logL bg0 wp2 = 0 := by kernel_rfl
theorem k_wtL : wtL logL bg0 wp2 = wrtL := by kernel_rfl
theorem bef_three {bs : List Bl} (h : bs.map Bl.x = befL) : ∃ y0 y1 y2, bs = [y0, y1, y2] ∧ y2.x = ⟨18, 2, 0, 0⟩ := by
 have hl : bs.length = 3 := by have := congrArg List.length h; simpa [befL] using this
 obtain ⟨y0, y1, y2, rfl⟩ : ∃ y0 y1 y2, bs = [y0, y1, y2] := by
  match bs, hl with
  | [a, b, c], _ => exact ⟨a, b, c, rfl⟩
 unfold befL at h
 simp only [List.map_cons, List.map_nil, List.cons.injEq, and_true] at h
 exact ⟨y0, y1, y2, rfl, h.2.2⟩
theorem calive_any (w : World) (hG : Gv w) : Ct Tryz.prog 13 #[] w fun v _ => v = .bool true := by
 have hF := wide_wide
 refine Ct_start (args := []) Tryz.func13 rf Tryz.ntmps13 rf ?_
 refine zR fun ds => ?_
 refine za (.bool _) hF ?_
 refine zP fun ds => ?_
 refine WS_newS hF rf (y_buildSliceL bs22_2_0_1 rf) (fun sz => ?_)
 refine WS_gen hF rf (y_callL rf rf Tryz.call43 (fun w hw => l8bench_any 20 [3, 5] _ _ w dc)) ?_
 rintro _ Hz ⟨z, q, rfl, hz⟩
 refine WS_back ?_
 refine zD hF (y_callL rf rf Tryz.call16 (fun w hw => Ct_eq (many_any b35 _ _ _ _ w (hG.st w hw) dc dc (Ints.mem (rest := []) 0 rf rf dc w hw) (NewRow.ints hz rfl sbA w hw)) k_many)) ?_
 refine zm (.tuple _) hF ?_
 refine zD hF (y_extract (c := .int .i64 _) rf rf) ?_
 refine zD hF (y_extract (c := .int .i64 _) rf rf) ?_
 refine za (.int .i64 _) hF ?_
 refine za (.int .i64 _) hF ?_
 refine zO ?_
 refine W_sub HSub.nil ?_
 refine W_region_lit (fun ds => ?_)
 refine WS_newS hF rf (y_buildSliceL bs22_2_0_1 rf) (fun sz => ?_)
 refine WS_gen hF rf (y_callL rf rf Tryz.call43 (fun w hw => l8bench_any 20 [4, 6] _ _ w dc)) ?_
 rintro _ Hz ⟨z, q, rfl, hz⟩
 refine WS_back ?_
 refine WS_gen hF rf (y_callL rf rf Tryz.call15 (fun w hw => made_any b46 _ _ _ _ w (hG.st w hw) dc dc (Ints.mem (rest := []) 0 rf rf dc w hw) (NewRow.ints hz rfl sbA w hw))) ?_
 rintro _ Hm ⟨ma, mc, rfl, hm⟩
 rw [k_made] at hm ⊢
 rw [show b46.err = 0 from rfl]
 refine WS_back ?_
 refine zm (.tuple _) hF ?_
 refine zD hF (y_extract (c := .slice _ _ _) rf rf) ?_
 refine zD hF (y_extract (c := .int .i64 _) rf rf) ?_
 refine za (.slice _ _ _) hF ?_
 refine za (.int .i64 _) hF ?_
 refine zO ?_
 refine W_sub (HSub.sub (Hn := Hm) sbA) ?_
 refine W_region_lit (fun ds => ?_)
 refine WS_newS hF rf (y_buildSliceL bs22_2_0_1 rf) (fun sz => ?_)
 refine WS_gen hF rf (y_callL rf rf Tryz.call43 (fun w hw => l8bench_any 20 [4, 6] _ _ w dc)) ?_
 rintro _ Hz ⟨z, q, rfl, hz⟩
 refine WS_back ?_
 refine zD hF (y_callL rf rf Tryz.call21 (fun w hw => Ct_eq (measure_any b46 _ _ _ _ w (hG.st w hw) dc dc (Ints.mem (rest := []) 0 rf rf dc w hw) (NewRow.ints hz rfl sbA w hw)) k_meas)) ?_
 refine zm (.tuple _) hF ?_
 refine zD hF (y_extract (c := .int .i64 _) rf rf) ?_
 refine zD hF (y_extract (c := .int .i64 _) rf rf) ?_
 refine za (.int .i64 _) hF ?_
 refine za (.int .i64 _) hF ?_
 refine zO ?_
 refine W_sub (HSub.sub (Hn := Hm) sbA) ?_
 refine W_region_lit (fun ds => ?_)
 refine WS_newS hF rf (y_buildSliceL bs22_2_0_1 rf) (fun sz => ?_)
 refine WS_gen hF rf (y_callL rf rf Tryz.call43 (fun w hw => l8bench_any 20 [3, 5] _ _ w dc)) ?_
 rintro _ Hz ⟨z, q, rfl, hz⟩
 refine WS_back ?_
 refine WS_gen hF rf (y_callL rf rf Tryz.call19 (fun w hw => cleast_any b35 _ _ _ _ 4 w (hG.st w hw) dc dc (Ints.mem (rest := []) 0 rf rf dc w hw) (NewRow.ints hz rfl sbA w hw))) ?_
 rintro _ L4 hA
 obtain ⟨la, lk, rfl, hP4⟩ := hA.lit k_e4 k_l4
 refine WS_back ?_
 refine zm (.tuple _) hF ?_
 refine zD hF (y_extract (c := .slice _ _ _) rf rf) ?_
 refine zD hF (y_extract (c := .int .i64 _) rf rf) ?_
 refine zD hF (y_extract (c := .int .i64 _) rf rf) ?_
 refine za (.slice _ _ _) hF ?_
 refine za (.int .i64 _) hF ?_
 refine za (.int .i64 _) hF ?_
 refine zO ?_
 refine W_sub (HSub.sub (Hn := Hm ++ L4) sbA) ?_
 refine W_region_lit (fun ds => ?_)
 refine WS_newS hF rf (y_buildSliceL bs22_2_0_1 rf) (fun sz => ?_)
 refine WS_gen hF rf (y_callL rf rf Tryz.call43 (fun w hw => l8bench_any 20 [3, 5] _ _ w dc)) ?_
 rintro _ Hz ⟨z, q, rfl, hz⟩
 refine WS_back ?_
 refine WS_gen hF rf (y_callL rf rf Tryz.call19 (fun w hw => cleast_any b35 _ _ _ _ 1 w (hG.st w hw) dc dc (Ints.mem (rest := []) 0 rf rf dc w hw) (NewRow.ints hz rfl sbA w hw))) ?_
 rintro _ L1 hA
 obtain ⟨la1, lk1, rfl, hP1⟩ := hA.lit k_e1 k_l1
 refine WS_back ?_
 refine zm (.tuple _) hF ?_
 refine zD hF (y_extract (c := .slice _ _ _) rf rf) ?_
 refine zD hF (y_extract (c := .int .i64 _) rf rf) ?_
 refine zD hF (y_extract (c := .int .i64 _) rf rf) ?_
 refine za (.slice _ _ _) hF ?_
 refine za (.int .i64 _) hF ?_
 refine za (.int .i64 _) hF ?_
 refine zO ?_
 refine W_sub (HSub.sub (Hn := Hm ++ (L4 ++ L1)) sbA) ?_
 refine W_region_lit (fun ds => ?_)
 refine WS_newS hF rf (y_buildSliceL bs22_2_0_1 rf) (fun sz => ?_)
 refine WS_gen hF rf (y_callL rf rf Tryz.call43 (fun w hw => l8bench_any 20 [3, 5] _ _ w dc)) ?_
 rintro _ Hz ⟨z, q, rfl, hz⟩
 refine WS_back ?_
 refine WS_gen hF rf (y_callL rf rf Tryz.call40 (fun w hw => ctotal_any b35 _ _ _ _ 6 w (hG.st w hw) dc dc (Ints.mem (rest := []) 0 rf rf dc w hw) (NewRow.ints hz rfl sbA w hw))) ?_
 rintro _ L6 hA
 obtain ⟨la6, lk6, rfl, hP6⟩ := hA.lit k_e6 k_t6
 refine WS_back ?_
 refine zm (.tuple _) hF ?_
 refine zD hF (y_extract (c := .slice _ _ _) rf rf) ?_
 refine zD hF (y_extract (c := .int .i64 _) rf rf) ?_
 refine zD hF (y_extract (c := .int .i64 _) rf rf) ?_
 refine za (.slice _ _ _) hF ?_
 refine za (.int .i64 _) hF ?_
 refine za (.int .i64 _) hF ?_
 refine zO ?_
 refine W_sub (HSub.sub (Hn := Hm ++ (L4 ++ (L1 ++ L6))) sbA) ?_
 refine W_region_lit (fun ds => ?_)
 refine WS_newS hF rf (y_buildSliceL bs22_2_0_1 rf) (fun sz => ?_)
 refine WS_gen hF rf (y_callL rf rf Tryz.call43 (fun w hw => l8bench_any 20 [3, 5] _ _ w dc)) ?_
 rintro _ Hz ⟨z, q, rfl, hz⟩
 refine WS_back ?_
 refine zD hF (y_callL rf rf Tryz.call26 (fun w hw => Ct_eq (far_any b35 _ _ _ _ w (hG.st w hw) dc dc (Ints.mem (rest := []) 0 rf rf dc w hw) (NewRow.ints hz rfl sbA w hw)) k_farv)) ?_
 refine zm (.tuple _) hF ?_
 refine zD hF (y_extract (c := .int .i64 _) rf rf) ?_
 refine zD hF (y_extract (c := .int .i64 _) rf rf) ?_
 refine zD hF (y_extract (c := .int .i64 _) rf rf) ?_
 refine za (.int .i64 _) hF ?_
 refine za (.int .i64 _) hF ?_
 refine za (.int .i64 _) hF ?_
 refine zO ?_
 refine W_sub (HSub.sub (Hn := Hm ++ (L4 ++ (L1 ++ L6))) sbA) ?_
 refine W_region_lit (fun ds => ?_)
 refine WS_newS hF rf (y_buildSliceL bs22_2_0_1 rf) (fun sz => ?_)
 refine WS_gen hF rf (y_callL rf rf Tryz.call43 (fun w hw => l8bench_any 20 [3, 5] _ _ w dc)) ?_
 rintro _ Hz ⟨z, q, rfl, hz⟩
 refine WS_back ?_
 refine zD hF (y_callL rf rf Tryz.call36 (fun w hw => Ct_eq (help_any b35 _ _ _ _ 4 w (hG.st w hw) dc dc (Ints.mem (rest := []) 0 rf rf dc w hw) (NewRow.ints hz rfl sbA w hw)) k_hlpv)) ?_
 refine zm (.tuple _) hF ?_
 refine zD hF (y_extract (c := .int .i64 _) rf rf) ?_
 refine zD hF (y_extract (c := .int .i64 _) rf rf) ?_
 refine zD hF (y_extract (c := .int .i64 _) rf rf) ?_
 refine za (.int .i64 _) hF ?_
 refine za (.int .i64 _) hF ?_
 refine za (.int .i64 _) hF ?_
 refine zO ?_
 refine W_sub (HSub.sub (Hn := Hm ++ (L4 ++ (L1 ++ L6))) sbA) ?_
 refine W_region_lit (fun ds => ?_)
 refine WS_newS hF rf (y_buildSliceL bs22_2_0_1 rf) (fun sz => ?_)
 refine WS_gen hF rf (y_callL rf rf Tryz.call43 (fun w hw => l8bench_any 17 [3, 5] _ _ w dc)) ?_
 rintro _ _ ⟨z, q, rfl, hz⟩
 obtain ⟨pb, pj, rfl, rfl, pl, ple⟩ := NewRow.head hz dc
 refine WS_back ?_
 refine WS_new hF rf (y_alloc Tryz.zeroValue24 rf) (fun bc => ?_)
 refine WS_store hF (us := [.slice _ _ _, .slice _ _ _, .int .i64 _]) (i := 0) rf rf Tryz.sizeOf24 rf rf rf d20 ?_
 refine zO ?_
 refine W_pull (pb, CB (iv (List.replicate [3, 5].length 0) ++ pj) 3) zu ?_
 refine W_region_lit (fun ds => ?_)
 refine zD hF (y_fieldAddr rf fa24_1) ?_
 refine zD hF (y_load1 rf Tryz.isAgg22 (Mem.own1 1 rf rf)) ?_
 refine zD hF (y_index (k := 0) rf rf r1 d10 Tryz.runUnderlying22 Tryz.sizeOf3) ?_
 refine WS_store hF (us := [.int .i64 _]) (i := 0) rf rf Tryz.sizeOf3 rf rf rf (fit_iv dc) ?_
 refine zO ?_
 rw [show splice (iv (List.replicate [3, 5].length 0) ++ pj) 0 [.int .i64 3] = iv [3, 0] ++ pj from splice_iv _ _ _ 0 dc]
 refine W_region_lit (fun ds => ?_)
 refine zD hF (y_loadN rf Tryz.isAgg24 Tryz.sizeOf24 (Mem.own (us := [.slice _ _ _, .slice _ _ _, .int .i64 _]) 1 rf rf) rf) ?_
 refine zD hF (y_buildL bd47_1 rf) ?_
 refine WS_gen hF rf (y_callL rf rf Tryz.call22 (fun w hw => cbefore_any bef0 _ _ _ _ ⟨0, 1⟩ w (hG.st w hw) dc dc (Ints.mem (rest := []) 2 rf rf dc w hw) (Ints.mem (rest := pj) 0 rf rf (by exact ple) w hw))) ?_
 rintro _ _ ⟨e0, bs, ba, bk, Hr, HX, rfl, hbf, hrow, hrd, hsh, rfl⟩
 obtain ⟨rfl, hbx⟩ := Cn.Bef.uniq hbf k_bef
 obtain ⟨y0, y1, ⟨x2, s2, ks2, i2, ki2⟩, rfl, rfl⟩ := bef_three hbx
 have hrd2 := hrd ⟨⟨18, 2, 0, 0⟩, s2, ks2, i2, ki2⟩ (by simp)
 obtain ⟨bb, rfl⟩ := NewRow.adr hrow (by simp)
 obtain ⟨bi, rfl⟩ : ∃ bi, i2 = some ⟨bi, 0, none⟩ := by
  rcases hrd2.oi with h | ⟨b, vs, h, _⟩
  ·cases (show (2 : Nat) = 0 from h)
  ·exact ⟨b, h⟩
 have hl3 : [y0, y1, (⟨⟨18, 2, 0, 0⟩, s2, ks2, some ⟨bi, 0, none⟩, ki2⟩ : Bl)].length = 3 := rfl
 have hl2 : (bef0.of (⟨⟨18, 2, 0, 0⟩, s2, ks2, some ⟨bi, 0, none⟩, ki2⟩ : Bl).x).inn.length = 2 := rfl
 refine WS_back ?_
 refine zm (.tuple _) hF ?_
 refine zD hF (y_extract (c := .slice _ _ _) rf rf) ?_
 refine zD hF (y_extract (c := .int .i64 _) rf rf) ?_
 refine za (.slice _ _ _) hF ?_
 refine za (.int .i64 _) hF ?_
 refine zO ?_
 refine W_sub (HSub.sub (Hn := Hm ++ (L4 ++ (L1 ++ (L6 ++ (HX ++ Hr))))) sbA) ?_
 refine W_region_lit (fun ds => ?_)
 refine WS_gen hF rf (y_callL rf rf Tryz.call46 (fun w hw => l8log_any w)) ?_
 rintro _ _ ⟨a1, cap1, ae1, cape1, Hp, He, rfl, hrp, hre, rfl⟩
 refine WS_back ?_
 refine WS_newS hF rf (y_buildSliceL bs22_2_0_1 rf) (fun s12 => ?_)
 refine WS_gen hF rf (y_callL rf rf Tryz.call29 (fun w hw => begin_any logL _ _ _ _ _ 2 2 [3, 5] w (hG.st w hw) dc dc (NewRow.ints hrp rfl sbA w hw) (NewRow.rws en_len hre rfl sbA w hw) (Ints.mem (rest := []) 0 rf rf dc w hw))) ?_
 rintro _ _ ⟨_, rfl, hT⟩
 rw [k_begC] at hT
 rw [k_begE]
 obtain ⟨z1, q1, z2, q2, G1, G2, rfl, g1, g2, rfl⟩ := hT
 refine WS_back ?_
 refine zm (.tuple _) hF ?_
 refine zD hF (y_extract (c := .agg _) rf rf) ?_
 refine zD hF (y_extract (c := .int .i64 _) rf rf) ?_
 refine WS_new hF rf (y_alloc Tryz.zeroValue24 rf) (fun bg => ?_)
 refine WS_store hF (us := [.slice _ _ _, .slice _ _ _, .int .i64 _]) (i := 0) rf rf Tryz.sizeOf24 rf rf rf d20 ?_
 refine za (.int .i64 _) hF ?_
 refine zO ?_
 refine W_sub (HSub.sub (Hn := (bg, _) :: (Hm ++ (L4 ++ (L1 ++ (L6 ++ (HX ++ (Hr ++ (G1 ++ G2)))))))) sbA) ?_
 refine W_draw0 hF Tryzmixed [27] dk0 (fun ds => ?_)
 refine P_new rf rf (Over_nil (y_callL rf rf Tryz.call46 (fun w hw => l8log_any w))) ?_
 refine P_det rf (Over_out rf (Over_nil (y_loadN rf Tryz.isAgg24 Tryz.sizeOf24 (Mem.own (us := [.slice _ _ _, .slice _ _ _, .int .i64 _]) 0 rf rf) rf))) ?_
 refine P_new rf rf (Over_out rf (Over_nil (y_buildSliceL bs22_4_0_1_2_3 rf))) ?_
 refine P_new rf rf (Over_in rf (Over_out rf (Over_nil (by rintro _ _ ⟨b2, rfl, rfl⟩; exact (y_callL rf rf Tryz.call44 (fun w hw => l8pours_any wp2 _ _ w dc (Ints.mem (rest := []) 0 rf rf dc w hw))))))) ?_
 refine P_new rf rf (Over_in rf (Over_out rf (Over_in rf (Over_nil (by intro vb4 l100 hb4; obtain ⟨c1, d1, c2, d2, Hp, He, rfl, hrp, hre, rfl⟩ := hb4; intro vb5 l103 hb5; obtain ⟨pa, pk, rfl, hpp⟩ := hb5; obtain ⟨HP, rfl⟩ : ∃ HP, HP = l103 := ⟨_, rfl⟩; exact (y_callL rf rf Tryz.call32 (fun w hw => written_any logL _ _ _ _ bg0 _ _ _ _ wp2 _ _ w (hG.st w hw) dc dc dc (NewRow.ints hrp rfl sbA w hw) (NewRow.rws en_len hre rfl sbA w hw) dc dc (NewRow.ints g1 rfl sbA w hw) (NewRow.ints g2 rfl sbA w hw) (NewRow.rws po_len hpp rfl sbA w hw)))))))) ?_
 refine P_ali [104] (fun e => e 104) rf rf rf (fun _ _ h => h 104 (List.mem_singleton.2 rfl)) (Over_in rf (Over_out rf (Over_out rf (Over_out rf (Over_nil (by intro vb7 l104 hb7; obtain ⟨_, rfl, hTW⟩ := hb7; rw [k_wtL] at hTW; rw [k_wtE]; obtain ⟨e1, f1, e2, f2, U1, U2, rfl, hu1, hu2, rfl⟩ := hTW; obtain ⟨bu, rfl⟩ := NewRow.adr hu2 dc; exact (YD0_of (y_move (c := .tuple _) rf)))))))) ?_
 refine P_ali [99] (fun e => tupAt (e 99) 0) rf rf rf (fun _ _ h => congrArg (tupAt · 0) (h 99 (List.mem_singleton.2 rfl))) (Over_in rf (Over_in rf (Over_out rf (Over_out rf (Over_out rf (Over_nil (by intro vb9 l104 hb9; obtain ⟨_, rfl, hTW⟩ := hb9; rw [k_wtL] at hTW; rw [k_wtE]; obtain ⟨e1, f1, e2, f2, U1, U2, rfl, hu1, hu2, rfl⟩ := hTW; obtain ⟨bu, rfl⟩ := NewRow.adr hu2 dc; rintro vb10 _ ⟨hvb10, rfl⟩; replace hvb10 : vb10 = .tuple _ := hvb10; subst hvb10; exact (YD0_of (y_extract (c := .agg _) rf rf))))))))) ?_
 refine P_ali [99] (fun e => tupAt (e 99) 1) rf rf rf (fun _ _ h => congrArg (tupAt · 1) (h 99 (List.mem_singleton.2 rfl))) (Over_out rf (Over_in rf (Over_in rf (Over_out rf (Over_out rf (Over_out rf (Over_nil (by intro vb12 l104 hb12; obtain ⟨_, rfl, hTW⟩ := hb12; rw [k_wtL] at hTW; rw [k_wtE]; obtain ⟨e1, f1, e2, f2, U1, U2, rfl, hu1, hu2, rfl⟩ := hTW; obtain ⟨bu, rfl⟩ := NewRow.adr hu2 dc; rintro vb13 _ ⟨hvb13, rfl⟩; replace hvb13 : vb13 = .tuple _ := hvb13; subst hvb13; exact (YD0_of (y_extract (c := .int .i64 _) rf rf)))))))))) ?_
 refine P_newSD 105 rf rf rf (Over_out rf (Over_out rf (Over_out rf (Over_out rf (Over_out rf (Over_out rf (Over_out rf (Over_nil (y_alloc Tryz.zeroValue62 rf))))))))) ?_
 refine P_st 27 0 rf rf rf rf rf (Over_out rf (Over_in rf (Over_in rf (Over_in rf (Over_out rf (Over_out rf (Over_out rf (Over_nil (by intro vb15 l104 hb15; obtain ⟨_, rfl, hTW⟩ := hb15; rw [k_wtL] at hTW; rw [k_wtE]; obtain ⟨e1, f1, e2, f2, U1, U2, rfl, hu1, hu2, rfl⟩ := hTW; obtain ⟨bu, rfl⟩ := NewRow.adr hu2 dc; rintro vb16 _ ⟨hvb16, rfl⟩; replace hvb16 : vb16 = .tuple _ := hvb16; subst hvb16; rintro vb17 _ ⟨hvb17, rfl⟩; replace hvb17 : vb17 = .agg _ := hvb17; subst hvb17; exact (st_newD rf rf Tryz.sizeOf62 rf rf d20)))))))))) ?_
 refine P_ali [106] (fun e => e 106) rf rf rf (fun _ _ h => h 106 (List.mem_singleton.2 rfl)) (Over_out rf (Over_in rf (Over_out rf (Over_in rf (Over_in rf (Over_out rf (Over_out rf (Over_out rf (Over_nil (by intro vb18 l104 hb18; obtain ⟨_, rfl, hTW⟩ := hb18; rw [k_wtL] at hTW; rw [k_wtE]; obtain ⟨e1, f1, e2, f2, U1, U2, rfl, hu1, hu2, rfl⟩ := hTW; obtain ⟨bu, rfl⟩ := NewRow.adr hu2 dc; rintro vb19 _ ⟨hvb19, rfl⟩; replace hvb19 : vb19 = .tuple _ := hvb19; subst hvb19; rintro vb20 _ ⟨hvb20, rfl⟩; replace hvb20 : vb20 = .int .i64 _ := hvb20; subst hvb20; exact (YD0_of (y_assign (c := .int .i64 _) rf)))))))))))) ?_
 refine PW_end rf ?_
 refine OverAll_cons (fun w28 l28 => ?_)
 refine OverAll_cons (fun w27 l27 => ?_)
 refine OverAll_cons (fun w106 l106 => ?_)
 refine OverAll_cons (fun w105 l105 => ?_)
 refine OverAll_cons (fun w99 l99 => ?_)
 refine OverAll_cons (fun w104 l104 => ?_)
 refine OverAll_cons (fun w103 l103 => ?_)
 refine OverAll_cons (fun w102 l102 => ?_)
 refine OverAll_cons (fun w100 l100 => ?_)
 refine OverAll_nil ?_
 rintro ⟨⟨⟨⟨⟨⟨⟨⟨⟨-, h28⟩, h27⟩, h106⟩, h105⟩, h99⟩, h104⟩, h103⟩, h102⟩, h100⟩
 obtain ⟨c1, d1, c2, d2, Hp, He, rfl, hrp, hre, rfl⟩ := h100
 obtain ⟨bw, rfl, rfl⟩ := h102
 obtain ⟨pa, pk, rfl, hpp⟩ := h103
 obtain ⟨HP, rfl⟩ : ∃ HP, HP = l103 := ⟨_, rfl⟩
 obtain ⟨_, rfl, hTW⟩ := h104
 rw [k_wtL] at hTW
 rw [k_wtE]
 obtain ⟨e1, f1, e2, f2, U1, U2, rfl, hu1, hu2, rfl⟩ := hTW
 obtain ⟨bu, rfl⟩ := NewRow.adr hu2 dc
 obtain ⟨h99, rfl⟩ := h99
 replace h99 : w99 = .tuple _ := h99
 subst h99
 obtain ⟨h105, rfl⟩ := h105
 replace h105 : w105 = .agg _ := h105
 subst h105
 obtain ⟨h106, rfl⟩ := h106
 replace h106 : w106 = .int .i64 _ := h106
 subst h106
 obtain ⟨h28, rfl⟩ := h28
 replace h28 : w28 = .int .i64 _ := h28
 subst h28
 obtain ⟨bl, rfl, rfl⟩ := h27
 refine Then_normal ?_
 refine W_seq ?_
 refine W_seq ?_
 refine W_pull (bg, CB [.slice z1 bg0.n q1, .slice z2 bg0.inn.length q2, .int .i64 10] 24) zu ?_
 refine W_pull (bl, CB [.slice e1 wrtL.tk.n f1, .int .i64 2, .int .i64 8, .int .i64 20, .int .i64 40, .slice (some ⟨bu, 0, none⟩) wrtL.es.length f2] 62) zu ?_
 refine W_sub (HSub.sub (Hn := (bl, _) :: (bg, _) :: (U2 ++ (Hm ++ (L4 ++ (L1 ++ (L6 ++ (HX ++ Hr))))))) sbA) ?_
 refine W_draw0 hF Tryzmixed [] dk0 (fun ds => ?_)
 refine P_det rf (Over_nil (y_move (c := .int .i64 _) rf)) ?_
 refine P_det rf (Over_nil (y_neqF rf rf)) ?_
 refine P_det rf (Over_nil (y_move (c := .bool _) rf)) ?_
 refine P_det rf (Over_nil (y_fieldAddr rf fa62_2)) ?_
 refine P_det rf (Over_nil (y_load1 rf Tryz.isAgg60 (Mem.own1 0 rf rf))) ?_
 refine P_det rf (Over_nil (y_len rf Tryz.runUnderlying60)) ?_
 refine P_det rf (Over_nil (y_neqF rf rf)) ?_
 refine P_det rf (Over_nil (by first | exact y_pick_t (c := .bool _) rf rf | exact y_pick_f (c := .bool _) rf rf)) ?_
 refine P_det rf (Over_nil (y_move (c := .bool _) rf)) ?_
 refine P_det rf (Over_nil (y_fieldAddr rf fa62_2)) ?_
 refine P_det rf (Over_nil (y_load1 rf Tryz.isAgg60 (Mem.own1 0 rf rf))) ?_
 refine P_det rf (Over_nil (y_index (k := 4) rf rf r1 d10 Tryz.runUnderlying60 Tryz.sizeOf90)) ?_
 refine P_det rf (Over_nil (y_loadN rf Tryz.isAgg90 Tryz.sizeOf90 (fun w hw => (show At w bu (0 + 4 * 4) [.int .i64 5, .int .i64 2, .int .i64 5, .int .i64 5] from (NewRow.rws en_len hu2 rfl sbA w hw).at (k := 4) dc)) rf)) ?_
 refine P_det rf (Over_nil (y_callL rf rf Tryz.call35 (fun w hw => l8span_any _ _ w))) ?_
 refine P_det rf (Over_nil (y_buildL bd90_0_1_2 rf)) ?_
 refine P_det rf (Over_nil (y_neqlAF rf rf neqA90 (by simp only [ieq_self, Bool.and_self, Bool.not_true]))) ?_
 refine P_det rf (Over_nil (by first | exact y_pick_t (c := .bool _) rf rf | exact y_pick_f (c := .bool _) rf rf)) ?_
 refine PW_end rf ?_
 refine OverAll_nil ?_
 rintro -
 refine Then_normal ?_
 refine W_cond rf (fun c14 => ?_) (fun c14 => ?_)
 ·cases c14
 ·
  try simp only [qz1, qz2, qz3, qz4, qz5, qz6, qz7, qz8] at c14
  refine W_skip ?_
  refine zS fun ds => ?_
  refine zm (.int .i64 _) hF ?_
  refine zD hF (y_eqlT rf rf) ?_
  refine zm (.bool _) hF ?_
  refine zm (.int .i64 _) hF ?_
  refine zD hF (y_eqlT rf rf) ?_
  refine zD hF (zpk (.bool _)) ?_
  refine zm (.bool _) hF ?_
  refine zm (.int .i64 _) hF ?_
  refine zD hF (y_eqlT rf rf) ?_
  refine zD hF (zpk (.bool _)) ?_
  refine zm (.bool _) hF ?_
  refine zm (.slice _ _ _) hF ?_
  refine WS_newS hF rf (y_buildSliceL bs22_4_0_1_2_3 rf) (fun k1 => ?_)
  refine zD hF (y_callL rf rf Tryz.call23 (fun w hw => Ct_eq (c' := .bool true) (sameInts2_any _ _ _ _ _ _ [0, 2, 4, 6] [0, 2, 4, 6] w dc (NewRow.ints hm rfl sbA w hw) (Ints.mem (rest := []) 0 rf rf dc w hw)) (by simp))) ?_
  refine zD hF (zpk (.bool _)) ?_
  refine zm (.bool _) hF ?_
  refine zm (.int .i64 _) hF ?_
  refine zD hF (y_eqlT rf rf) ?_
  refine zD hF (zpk (.bool _)) ?_
  refine zm (.bool _) hF ?_
  refine zm (.int .i64 _) hF ?_
  refine zD hF (y_eqlT rf rf) ?_
  refine zD hF (zpk (.bool _)) ?_
  refine zm (.bool _) hF ?_
  refine zm (.int .i64 _) hF ?_
  refine zD hF (y_eqlT rf rf) ?_
  refine zD hF (zpk (.bool _)) ?_
  refine zm (.bool _) hF ?_
  refine zm (.int .i64 _) hF ?_
  refine zD hF (y_eqlT rf rf) ?_
  refine zD hF (zpk (.bool _)) ?_
  refine zm (.bool _) hF ?_
  refine zm (.slice _ _ _) hF ?_
  refine WS_newS hF rf (y_buildSliceL bs22_12_0_1_2_3_4_5_6_7_8_9_10_11 rf) (fun k2 => ?_)
  refine WS_gen hF rf (y_callL rf rf Tryz.call44 (fun w hw => l8pours_any w4.l _ _ w dc (Ints.mem (rest := []) 0 rf rf dc w hw))) ?_
  rintro _ HP ⟨p9, q9, rfl, hpp⟩
  refine WS_back ?_
  refine zD hF (y_callL rf rf Tryz.call45 (fun w hw => samePo_any w4.l _ _ _ _ w dc (hP4 _ _ w sbA hw) (NewRow.rws po_len hpp rfl sbA w hw))) ?_
  refine zD hF (zpk (.bool _)) ?_
  refine zm (.bool _) hF ?_
  refine zm (.int .i64 _) hF ?_
  refine zD hF (y_eqlT rf rf) ?_
  refine zD hF (zpk (.bool _)) ?_
  refine zm (.bool _) hF ?_
  refine zm (.int .i64 _) hF ?_
  refine zD hF (y_eqlT rf rf) ?_
  refine zD hF (zpk (.bool _)) ?_
  refine zm (.bool _) hF ?_
  refine zm (.slice _ _ _) hF ?_
  refine WS_newS hF rf (y_buildSliceL bs22_8_0_1_2_3_4_5_6_7 rf) (fun k3 => ?_)
  refine WS_gen hF rf (y_callL rf rf Tryz.call44 (fun w hw => l8pours_any w1.l _ _ w dc (Ints.mem (rest := []) 0 rf rf dc w hw))) ?_
  rintro _ HP ⟨p9, q9, rfl, hpp⟩
  refine WS_back ?_
  refine zD hF (y_callL rf rf Tryz.call45 (fun w hw => samePo_any w1.l _ _ _ _ w dc (hP1 _ _ w sbA hw) (NewRow.rws po_len hpp rfl sbA w hw))) ?_
  refine zD hF (zpk (.bool _)) ?_
  refine zm (.bool _) hF ?_
  refine zm (.int .i64 _) hF ?_
  refine zD hF (y_eqlT rf rf) ?_
  refine zD hF (zpk (.bool _)) ?_
  refine zm (.bool _) hF ?_
  refine zm (.slice _ _ _) hF ?_
  refine WS_newS hF rf (y_buildSliceL bs22_6_0_1_2_3_4_5 rf) (fun k4 => ?_)
  refine WS_gen hF rf (y_callL rf rf Tryz.call44 (fun w hw => l8pours_any w6.l _ _ w dc (Ints.mem (rest := []) 0 rf rf dc w hw))) ?_
  rintro _ HP ⟨p9, q9, rfl, hpp⟩
  refine WS_back ?_
  refine zD hF (y_callL rf rf Tryz.call45 (fun w hw => samePo_any w6.l _ _ _ _ w dc (hP6 _ _ w sbA hw) (NewRow.rws po_len hpp rfl sbA w hw))) ?_
  refine zD hF (zpk (.bool _)) ?_
  refine zm (.bool _) hF ?_
  refine zm (.int .i64 _) hF ?_
  refine zD hF (y_eqlT rf rf) ?_
  refine zD hF (zpk (.bool _)) ?_
  refine zm (.bool _) hF ?_
  refine zm (.int .i64 _) hF ?_
  refine zD hF (y_eqlT rf rf) ?_
  refine zD hF (zpk (.bool _)) ?_
  refine zm (.bool _) hF ?_
  refine zm (.int .i64 _) hF ?_
  refine zD hF (y_eqlT rf rf) ?_
  refine zD hF (zpk (.bool _)) ?_
  refine zm (.bool _) hF ?_
  refine zm (.int .i64 _) hF ?_
  refine zD hF (y_eqlT rf rf) ?_
  refine zD hF (zpk (.bool _)) ?_
  refine zm (.bool _) hF ?_
  refine zm (.int .i64 _) hF ?_
  refine zD hF (y_eqlT rf rf) ?_
  refine zD hF (zpk (.bool _)) ?_
  refine zm (.bool _) hF ?_
  refine zm (.int .i64 _) hF ?_
  refine zD hF (y_eqlT rf rf) ?_
  refine zD hF (zpk (.bool _)) ?_
  refine zm (.bool _) hF ?_
  refine zm (.int .i64 _) hF ?_
  refine zD hF (y_eqlT rf rf) ?_
  refine zD hF (zpk (.bool _)) ?_
  refine zm (.bool _) hF ?_
  refine zm (.slice _ _ _) hF ?_
  refine zD hF (y_len rf Tryz.runUnderlying34) ?_
  refine zD hF (y_eqlT rf rf) ?_
  refine zD hF (zpk (.bool _)) ?_
  refine zm (.bool _) hF ?_
  refine zm (.slice _ _ _) hF ?_
  refine zD hF (y_index (k := 2) rf rf r1 d10 Tryz.runUnderlying34 Tryz.sizeOf24) ?_
  refine zD hF (y_fieldAddr rf fa24_2) ?_
  refine zD hF (y_load1 rf Tryz.isAgg3 (fun w hw => ⟨((NewRow.rws (bl_len bef0) hrow rfl sbA w hw).at (k := 2) (by simp)).2.2.1, trivial⟩)) ?_
  refine zD hF (y_eqlT rf rf) ?_
  refine zD hF (zpk (.bool _)) ?_
  refine zm (.bool _) hF ?_
  refine zm (.slice _ _ _) hF ?_
  refine zD hF (y_index (k := 2) rf rf r1 d10 Tryz.runUnderlying34 Tryz.sizeOf24) ?_
  refine zD hF (y_fieldAddr rf fa24_1) ?_
  refine zD hF (y_load1 rf Tryz.isAgg22 (fun w hw => ⟨((NewRow.rws (bl_len bef0) hrow rfl sbA w hw).at (k := 2) (by simp)).2.1, trivial⟩)) ?_
  refine zD hF (y_index (k := 0) rf rf rf (show 0 < 2 by decide) Tryz.runUnderlying22 Tryz.sizeOf3) ?_
  refine zD hF (y_load1 rf Tryz.isAgg3 (fun w hw => (hrd2.i _ _ w sbA hw).at (k := 0) om0)) ?_
  refine zD hF (y_eqlT rf rf) ?_
  refine zD hF (zpk (.bool _)) ?_
  refine zm (.bool _) hF ?_
  refine zm (.int .i64 _) hF ?_
  refine zD hF (y_eqlT rf rf) ?_
  refine zD hF (zpk (.bool _)) ?_
  refine zm (.bool _) hF ?_
  refine zD hF (y_fieldAddr rf fa24_2) ?_
  refine zD hF (y_load1 rf Tryz.isAgg3 (Mem.own1 5 rf rf)) ?_
  refine zD hF (y_eqlT rf rf) ?_
  refine zD hF (zpk (.bool _)) ?_
  refine za (.bool _) hF ?_
  refine zN ?_
  refine W_ret ?_
  refine Fin_ret [.bool _] [] Tryz.results13 ⟨by rfl, trivial⟩ HSub.nil ?_
  rfl
theorem AskA.un {o : Option Wy} {e : Int} {v : Value} {Hn : List Blk} (h : AskA e o v Hn) (he : e = 0) : ∃ a k, v = .tuple #[.slice a (fewL o).length k, .int .i64 (fewB o), .int .i64 (fewE o)] ∧ ∀ (C : Ctx) (H : List Blk) (u : World), Hn.Sublist H → St C H u → Pos u a (fewL o).length k (fewL o) := by
 subst he
 obtain ⟨v0, rfl, a, k, rfl, h⟩ := h
 exact ⟨a, k, rfl, h⟩
set_option maxHeartbeats 8000000
theorem bs22_10_0_1_2_3_4_5_6_7_8_9 {x0 : Int} {x1 : Int} {x2 : Int} {x3 : Int} {x4 : Int} {x5 : Int} {x6 : Int} {x7 : Int} {x8 : Int} {x9 : Int} : ∀ w, (Instr.buildSlice 22 10 #[(0, .int .i64 x0), (1, .int .i64 x1), (2, .int .i64 x2), (3, .int .i64 x3), (4, .int .i64 x4), (5, .int .i64 x5), (6, .int .i64 x6), (7, .int .i64 x7), (8, .int .i64 x8), (9, .int .i64 x9)]).run Tryz.prog w = .ok (.slice (some ⟨w.heap.size, 0, none⟩) 10 10) (w.alloc (CB [.int .i64 x0, .int .i64 x1, .int .i64 x2, .int .i64 x3, .int .i64 x4, .int .i64 x5, .int .i64 x6, .int .i64 x7, .int .i64 x8, .int .i64 x9] 3)) := fun w => by kernel_rfl
abbrev b7 : Cn := bench2 7 3 5
theorem cert7 : b7.certB (b7.bfs 12) = true := by decide +kernel
theorem k_few7 {p : Co → Bool} {o : Option Wy} (h : chkW p (b7.bfs 12) o = true) : b7.few p = o := Cn.cert_is dc cert7 h
theorem j_made : b35.mdL = [0, 1, 2, 3, 4, 5] := by
 unfold Cn.mdL
 rw [if_pos dc]
 exact k_made35
theorem j_meas : Value.tuple #[.int .i64 b35.meN, .int .i64 b35.err] = .tuple #[.int .i64 1, .int .i64 0] := by
 rw [show b35.meN = 1 by decide +kernel]; rfl
def w7 : Wy := ⟨[⟨0, 2⟩, ⟨2, 1⟩, ⟨1, 0⟩, ⟨2, 1⟩, ⟨0, 2⟩], 3⟩
def wB : Wy := ⟨[⟨0, 1⟩, ⟨1, 2⟩, ⟨0, 1⟩, ⟨1, 2⟩], 0⟩
def wP : List Po := [⟨0, 2⟩, ⟨2, 1⟩, ⟨1, 0⟩, ⟨2, 1⟩]
theorem j_t7 : b35.few (totP 7) = some w7 := k_few35 dk0
theorem j_bo : b35.few (b35.bothP [1, 5]) = some wB := k_few35 dk0
theorem j_l7 : b7.few (b7.someP 4) = some w4 := k_few7 dk0
theorem j_l46 : b46.few (b46.someP 3) = none := k_few46 dk0
theorem j_e7 : b35.ttE 7 = 0 := by decide +kernel
theorem j_eb : b35.boE [1, 5] = 0 := by decide +kernel
theorem j_el7 : b7.lsE 4 = 0 := by decide +kernel
theorem j_e46 : b46.lsE 3 = 0 := by decide +kernel
theorem j_e21 : b46.lsE 21 = 2 := by decide +kernel
theorem j_e11 : b46.ttE 11 = 2 := by decide +kernel
theorem j_eb1 : b46.boE [1] = 2 := by decide +kernel
abbrev cP : Cn := ⟨[3, 5], [2, 0], 18⟩
theorem j_plC : b35.plC wP = cP := by kernel_rfl
theorem j_plB : b35.plB wP = 3 := by kernel_rfl
theorem j_plA : b35.plA wP = 0 := by kernel_rfl
theorem j_plE : b35.plE wP = 0 := by kernel_rfl
def wQ : List Po := [⟨0, 1⟩, ⟨0, 1⟩]
theorem j_qB : b35.plB wQ = 0 := by kernel_rfl
theorem j_qA : b35.plA wQ = 1 := by kernel_rfl
theorem j_qE : b35.plE wQ = 6 := by kernel_rfl
abbrev odd : Cn := ⟨[3, 5], [4, 0], 20⟩
abbrev three : Cn := ⟨[3, 5, 7], [0, 0, 0], 20⟩
abbrev b4 : Cn := bench2 4 3 5
theorem j_odd : Value.tuple #[.int .i64 odd.maN, .int .i64 odd.err] = .tuple #[.int .i64 0, .int .i64 80] := by
 have h : odd.maN = 0 := by unfold Cn.maN; rw [if_neg dc]
 rw [h]; rfl
theorem j_p1 : b35.poE ⟨1, 1⟩ = 81 := by kernel_rfl
theorem j_p2 : b35.poE ⟨1, 0⟩ = 6 := by kernel_rfl
theorem j_p3 : b4.poE ⟨0, 2⟩ = 6 := by kernel_rfl
theorem j_h3 : three.hpE 4 = 9 := by
 unfold Cn.hpE
 rw [if_pos dc, if_pos dc, if_pos dc]
theorem j_h3v : Value.tuple #[.int .i64 (if three.hpE 4 = 0 then (minH (three.hpL 4 20)).s else 0), .int .i64 (if three.hpE 4 = 0 then (minH (three.hpL 4 20)).m else 0), .int .i64 (three.hpE 4)] = .tuple #[.int .i64 0, .int .i64 0, .int .i64 9] := by
 rw [j_h3]; rfl
theorem j_a3 : three.adE 4 = 9 := by kernel_rfl
theorem j_ao : odd.adE 4 = 80 := by kernel_rfl
theorem j_beg : begE logL [] = 80 := by kernel_rfl
theorem j_wrt : wtE logL odd [] = 80 := by kernel_rfl
theorem j_bef {e : Int} {L : List Co} (h : b35.Bef ⟨3, 0⟩ e L) : e = 81 := by
 unfold Cn.Bef at h
 rw [if_pos dc, if_neg dc] at h
 exact h.1
theorem AskA.no {e e' : Int} {o : Option Wy} {v : Value} {Hn : List Blk} (h : AskA e o v Hn) (he : e = e') (h0 : e' ≠ 0) : ∃ a n k, v = .tuple #[.slice a n k, .int .i64 0, .int .i64 e'] := by
 subst he
 obtain ⟨v0, rfl, a, k, rfl, h⟩ := h
 refine ⟨a, (if e = 0 then fewL o else []).length, k, ?_⟩
 rw [if_neg h0, if_neg h0, if_neg h0]
theorem AskA.non {e : Int} {v : Value} {Hn : List Blk} (h : AskA e none v Hn) (he : e = 0) : ∃ a n k m, v = .tuple #[.slice a n k, .int .i64 m, .int .i64 6] := by
 subst he
 obtain ⟨v0, rfl, a, k, rfl, h⟩ := h
 exact ⟨a, _, k, _, rfl⟩
theorem canExamples_any (w : World) (hG : Gv w) : Ct Tryz.prog 12 #[] w fun v _ => v = .bool true := by
 have hF := wide_wide
 refine Ct_start (args := []) Tryz.func12 rf Tryz.ntmps12 rf ?_
 refine zR fun ds => ?_
 refine za (.bool _) hF ?_
 refine zO ?_
 refine zR fun ds => ?_
 refine zm (.bool _) hF ?_
 refine zD hF (y_callL rf rf Tryz.call13 (fun w hw => calive_any w (hG.st w hw))) ?_
 refine zD hF (y_not rf) ?_
 refine zD hF (zpk (.bool _)) ?_
 refine zN ?_
 refine W_cond rf (fun c1 => ?_) (fun c1 => ?_)
 ·cases c1
 ·
  try simp only [qz1, qz2, qz3, qz4, qz5, qz6, qz7, qz8] at c1
  refine W_skip ?_
  refine zS fun ds => ?_
  refine WS_newS hF rf (y_buildSliceL bs22_2_0_1 rf) (fun sz => ?_)
  refine WS_gen hF rf (y_callL rf rf Tryz.call43 (fun w hw => l8bench_any 20 [3, 5] _ _ w dc)) ?_
  rintro _ Hz ⟨z, q, rfl, hz⟩
  refine WS_back ?_
  refine WS_gen hF rf (y_callL rf rf Tryz.call15 (fun w hw => made_any b35 _ _ _ _ w (hG.st w hw) dc dc (Ints.mem (rest := []) 0 rf rf dc w hw) (NewRow.ints hz rfl sbA w hw))) ?_
  rintro _ Hm ⟨ma, mc, rfl, hm⟩
  rw [j_made] at hm ⊢
  rw [show b35.err = 0 from rfl]
  refine WS_back ?_
  refine zm (.tuple _) hF ?_
  refine zD hF (y_extract (c := .slice _ _ _) rf rf) ?_
  refine zD hF (y_extract (c := .int .i64 _) rf rf) ?_
  refine za (.slice _ _ _) hF ?_
  refine za (.int .i64 _) hF ?_
  refine zO ?_
  refine W_sub (HSub.sub (Hn := Hm) sbA) ?_
  refine W_region_lit (fun ds => ?_)
  refine WS_newS hF rf (y_buildSliceL bs22_2_0_1 rf) (fun sz => ?_)
  refine WS_gen hF rf (y_callL rf rf Tryz.call43 (fun w hw => l8bench_any 20 [3, 5] _ _ w dc)) ?_
  rintro _ Hz ⟨z, q, rfl, hz⟩
  refine WS_back ?_
  refine zD hF (y_callL rf rf Tryz.call21 (fun w hw => Ct_eq (measure_any b35 _ _ _ _ w (hG.st w hw) dc dc (Ints.mem (rest := []) 0 rf rf dc w hw) (NewRow.ints hz rfl sbA w hw)) j_meas)) ?_
  refine zm (.tuple _) hF ?_
  refine zD hF (y_extract (c := .int .i64 _) rf rf) ?_
  refine zD hF (y_extract (c := .int .i64 _) rf rf) ?_
  refine za (.int .i64 _) hF ?_
  refine za (.int .i64 _) hF ?_
  refine zO ?_
  refine W_sub (HSub.sub (Hn := Hm) sbA) ?_
  refine W_region_lit (fun ds => ?_)
  refine WS_newS hF rf (y_buildSliceL bs22_2_0_1 rf) (fun sz => ?_)
  refine WS_gen hF rf (y_callL rf rf Tryz.call43 (fun w hw => l8bench_any 20 [3, 5] _ _ w dc)) ?_
  rintro _ Hz ⟨z, q, rfl, hz⟩
  refine WS_back ?_
  refine WS_gen hF rf (y_callL rf rf Tryz.call40 (fun w hw => ctotal_any b35 _ _ _ _ 7 w (hG.st w hw) dc dc (Ints.mem (rest := []) 0 rf rf dc w hw) (NewRow.ints hz rfl sbA w hw))) ?_
  rintro _ L7 hA
  obtain ⟨la7, lk7, rfl, hP7⟩ := hA.lit j_e7 j_t7
  refine WS_back ?_
  refine zm (.tuple _) hF ?_
  refine zD hF (y_extract (c := .slice _ _ _) rf rf) ?_
  refine zD hF (y_extract (c := .int .i64 _) rf rf) ?_
  refine zD hF (y_extract (c := .int .i64 _) rf rf) ?_
  refine za (.slice _ _ _) hF ?_
  refine za (.int .i64 _) hF ?_
  refine za (.int .i64 _) hF ?_
  refine zO ?_
  refine W_sub (HSub.sub (Hn := Hm ++ L7) sbA) ?_
  refine W_region_lit (fun ds => ?_)
  refine WS_newS hF rf (y_buildSliceL bs22_2_0_1 rf) (fun sz => ?_)
  refine WS_gen hF rf (y_callL rf rf Tryz.call43 (fun w hw => l8bench_any 20 [3, 5] _ _ w dc)) ?_
  rintro _ Hz ⟨z, q, rfl, hz⟩
  refine WS_back ?_
  refine WS_newS hF rf (y_buildSliceL bs22_2_0_1 rf) (fun wn => ?_)
  refine WS_gen hF rf (y_callL rf rf Tryz.call41 (fun w hw => cboth_any b35 _ _ _ _ _ _ [1, 5] w (hG.st w hw) dc dc (Ints.mem (rest := []) 1 rf rf dc w hw) (NewRow.ints hz rfl sbA w hw) dc (Ints.mem (rest := []) 0 rf rf dc w hw))) ?_
  rintro _ LB hA
  obtain ⟨laB, lkB, rfl, hPB⟩ := hA.lit j_eb j_bo
  refine WS_back ?_
  refine zm (.tuple _) hF ?_
  refine zD hF (y_extract (c := .slice _ _ _) rf rf) ?_
  refine zD hF (y_extract (c := .int .i64 _) rf rf) ?_
  refine zD hF (y_extract (c := .int .i64 _) rf rf) ?_
  refine za (.slice _ _ _) hF ?_
  refine za (.int .i64 _) hF ?_
  refine za (.int .i64 _) hF ?_
  refine zO ?_
  refine W_sub (HSub.sub (Hn := Hm ++ (L7 ++ LB)) sbA) ?_
  refine W_region_lit (fun ds => ?_)
  refine WS_newS hF rf (y_buildSliceL bs22_2_0_1 rf) (fun sz => ?_)
  refine WS_gen hF rf (y_callL rf rf Tryz.call43 (fun w hw => l8bench_any 7 [3, 5] _ _ w dc)) ?_
  rintro _ Hz ⟨z, q, rfl, hz⟩
  refine WS_back ?_
  refine WS_gen hF rf (y_callL rf rf Tryz.call19 (fun w hw => cleast_any b7 _ _ _ _ 4 w (hG.st w hw) dc dc (Ints.mem (rest := []) 0 rf rf dc w hw) (NewRow.ints hz rfl sbA w hw))) ?_
  rintro _ L4 hA
  obtain ⟨la4, lk4, rfl, _⟩ := hA.lit j_el7 j_l7
  rw [show (w4.l.length) = 6 from rfl]
  refine WS_back ?_
  refine zm (.tuple _) hF ?_
  refine zD hF (y_extract (c := .slice _ _ _) rf rf) ?_
  refine zD hF (y_extract (c := .int .i64 _) rf rf) ?_
  refine zD hF (y_extract (c := .int .i64 _) rf rf) ?_
  refine za (.slice _ _ _) hF ?_
  refine za (.int .i64 _) hF ?_
  refine za (.int .i64 _) hF ?_
  refine zO ?_
  refine W_sub (HSub.sub (Hn := Hm ++ (L7 ++ LB)) sbA) ?_
  refine W_region_lit (fun ds => ?_)
  refine WS_newS hF rf (y_buildSliceL bs22_2_0_1 rf) (fun sz => ?_)
  refine WS_gen hF rf (y_callL rf rf Tryz.call43 (fun w hw => l8bench_any 20 [3, 5] _ _ w dc)) ?_
  rintro _ Hz ⟨z, q, rfl, hz⟩
  refine WS_back ?_
  refine WS_newS hF rf (y_buildSliceL bs22_8_0_1_2_3_4_5_6_7 rf) (fun b1 => ?_)
  refine WS_gen hF rf (y_callL rf rf Tryz.call44 (fun w hw => l8pours_any wP _ _ w dc (Ints.mem (rest := []) 0 rf rf dc w hw))) ?_
  rintro _ HP ⟨pa, pk, rfl, hpp⟩
  refine WS_back ?_
  refine WS_gen hF rf (y_callL rf rf Tryz.call39 (fun w hw => play_any b35 _ _ _ _ wP _ _ w (hG.st w hw) dc dc dc (Ints.mem (rest := []) 1 rf rf dc w hw) (NewRow.ints hz rfl sbA w hw) (NewRow.rws po_len hpp rfl sbA w hw))) ?_
  rintro _ _ ⟨_, rfl, hT⟩
  rw [j_plC] at hT
  rw [j_plB, j_plA, j_plE]
  obtain ⟨z1, q1, z2, q2, G1, G2, rfl, g1, g2, rfl⟩ := hT
  refine WS_back ?_
  refine zm (.tuple _) hF ?_
  refine zD hF (y_extract (c := .agg _) rf rf) ?_
  refine zD hF (y_extract (c := .int .i64 _) rf rf) ?_
  refine zD hF (y_extract (c := .int .i64 _) rf rf) ?_
  refine zD hF (y_extract (c := .int .i64 _) rf rf) ?_
  refine WS_new hF rf (y_alloc Tryz.zeroValue24 rf) (fun bp => ?_)
  refine WS_store hF (us := [.slice _ _ _, .slice _ _ _, .int .i64 _]) (i := 0) rf rf Tryz.sizeOf24 rf rf rf d20 ?_
  refine za (.int .i64 _) hF ?_
  refine za (.int .i64 _) hF ?_
  refine za (.int .i64 _) hF ?_
  refine zO ?_
  refine W_seq ?_
  refine W_sub (HSub.sub (Hn := (bp, _) :: (Hm ++ (L7 ++ (LB ++ G2)))) sbA) ?_
  refine W_region_lit (fun ds => ?_)
  refine zm (.int .i64 _) hF ?_
  refine zD hF (y_neqF rf rf) ?_
  refine zm (.bool _) hF ?_
  refine zm (.slice _ _ _) hF ?_
  refine WS_newS hF rf (y_buildSliceL bs22_6_0_1_2_3_4_5 rf) (fun k1 => ?_)
  refine zD hF (y_callL rf rf Tryz.call23 (fun w hw => Ct_eq (c' := .bool true) (sameInts2_any _ _ _ _ _ _ [0, 1, 2, 3, 4, 5] [0, 1, 2, 3, 4, 5] w dc (NewRow.ints hm rfl sbA w hw) (Ints.mem (rest := []) 0 rf rf dc w hw)) (by simp))) ?_
  refine zD hF (y_not rf) ?_
  refine zD hF (zpk (.bool _)) ?_
  refine zm (.bool _) hF ?_
  refine zm (.int .i64 _) hF ?_
  refine zD hF (y_neqF rf rf) ?_
  refine zD hF (zpk (.bool _)) ?_
  refine zm (.bool _) hF ?_
  refine zm (.int .i64 _) hF ?_
  refine zD hF (y_neqF rf rf) ?_
  refine zD hF (zpk (.bool _)) ?_
  refine zm (.bool _) hF ?_
  refine zm (.int .i64 _) hF ?_
  refine zD hF (y_neqF rf rf) ?_
  refine zD hF (zpk (.bool _)) ?_
  refine zm (.bool _) hF ?_
  refine zm (.int .i64 _) hF ?_
  refine zD hF (y_neqF rf rf) ?_
  refine zD hF (zpk (.bool _)) ?_
  refine zm (.bool _) hF ?_
  refine zm (.slice _ _ _) hF ?_
  refine WS_newS hF rf (y_buildSliceL bs22_10_0_1_2_3_4_5_6_7_8_9 rf) (fun k2 => ?_)
  refine WS_gen hF rf (y_callL rf rf Tryz.call44 (fun w hw => l8pours_any w7.l _ _ w dc (Ints.mem (rest := []) 0 rf rf dc w hw))) ?_
  rintro _ HP ⟨p9, q9, rfl, hpp⟩
  refine WS_back ?_
  refine zD hF (y_callL rf rf Tryz.call45 (fun w hw => samePo_any w7.l _ _ _ _ w dc (hP7 _ _ w sbA hw) (NewRow.rws po_len hpp rfl sbA w hw))) ?_
  refine zD hF (y_not rf) ?_
  refine zD hF (zpk (.bool _)) ?_
  refine zm (.bool _) hF ?_
  refine zm (.int .i64 _) hF ?_
  refine zD hF (y_neqF rf rf) ?_
  refine zD hF (zpk (.bool _)) ?_
  refine zm (.bool _) hF ?_
  refine zm (.slice _ _ _) hF ?_
  refine WS_newS hF rf (y_buildSliceL bs22_8_0_1_2_3_4_5_6_7 rf) (fun k3 => ?_)
  refine WS_gen hF rf (y_callL rf rf Tryz.call44 (fun w hw => l8pours_any wB.l _ _ w dc (Ints.mem (rest := []) 0 rf rf dc w hw))) ?_
  rintro _ HP ⟨p9, q9, rfl, hpp⟩
  refine WS_back ?_
  refine zD hF (y_callL rf rf Tryz.call45 (fun w hw => samePo_any wB.l _ _ _ _ w dc (hPB _ _ w sbA hw) (NewRow.rws po_len hpp rfl sbA w hw))) ?_
  refine zD hF (y_not rf) ?_
  refine zD hF (zpk (.bool _)) ?_
  refine zm (.bool _) hF ?_
  refine zm (.int .i64 _) hF ?_
  refine zD hF (y_neqF rf rf) ?_
  refine zD hF (zpk (.bool _)) ?_
  refine zm (.bool _) hF ?_
  refine zm (.int .i64 _) hF ?_
  refine zD hF (y_neqF rf rf) ?_
  refine zD hF (zpk (.bool _)) ?_
  refine zm (.bool _) hF ?_
  refine zm (.slice _ _ _) hF ?_
  refine zD hF (y_len rf Tryz.runUnderlying35) ?_
  refine zD hF (y_neqF rf rf) ?_
  refine zD hF (zpk (.bool _)) ?_
  refine zm (.bool _) hF ?_
  refine zm (.int .i64 _) hF ?_
  refine zD hF (y_neqF rf rf) ?_
  refine zD hF (zpk (.bool _)) ?_
  refine zm (.bool _) hF ?_
  refine zm (.int .i64 _) hF ?_
  refine zD hF (y_neqF rf rf) ?_
  refine zD hF (zpk (.bool _)) ?_
  refine zm (.bool _) hF ?_
  refine zm (.int .i64 _) hF ?_
  refine zD hF (y_neqF rf rf) ?_
  refine zD hF (zpk (.bool _)) ?_
  refine zm (.bool _) hF ?_
  refine zD hF (y_fieldAddr rf fa24_2) ?_
  refine zD hF (y_load1 rf Tryz.isAgg3 (Mem.own1 3 rf rf)) ?_
  refine zD hF (y_neqF rf rf) ?_
  refine zD hF (zpk (.bool _)) ?_
  refine zm (.bool _) hF ?_
  refine zD hF (y_fieldAddr rf fa24_1) ?_
  refine zD hF (y_load1 rf Tryz.isAgg22 (Mem.own1 3 rf rf)) ?_
  refine WS_newS hF rf (y_buildSliceL bs22_2_0_1 rf) (fun k4 => ?_)
  refine zD hF (y_callL rf rf Tryz.call23 (fun w hw => Ct_eq (c' := .bool true) (sameInts2_any _ _ _ _ _ _ [2, 0] [2, 0] w dc (NewRow.ints g2 rfl sbA w hw) (Ints.mem (rest := []) 0 rf rf dc w hw)) (by simp))) ?_
  refine zD hF (y_not rf) ?_
  refine zD hF (zpk (.bool _)) ?_
  refine zN ?_
  refine W_cond rf (fun c9 => ?_) (fun c9 => ?_)
  ·cases c9
  ·
   try simp only [qz1, qz2, qz3, qz4, qz5, qz6, qz7, qz8] at c9
   refine zU ?_
   refine W_seq ?_
   refine W_sub HSub.nil ?_
   refine W_region_lit (fun ds => ?_)
   refine WS_newS hF rf (y_buildSliceL bs22_2_0_1 rf) (fun so => ?_)
   refine WS_gen hF rf (y_callL rf rf Tryz.call43 (fun w hw => l8bench_any 20 [3, 5] _ _ w dc)) ?_
   rintro _ _ ⟨z, q0, rfl, hz⟩
   obtain ⟨pb, pj, rfl, rfl, pl, ple⟩ := NewRow.head hz dc
   refine WS_back ?_
   refine WS_newS hF rf (y_buildSliceL bs22_3_0_1_2 rf) (fun s3 => ?_)
   refine WS_gen hF rf (y_callL rf rf Tryz.call43 (fun w hw => l8bench_any 20 [3, 5, 7] _ _ w dc)) ?_
   rintro _ Hz3 ⟨z3, q3, rfl, hz3⟩
   refine WS_back ?_
   refine WS_new hF rf (y_alloc Tryz.zeroValue24 rf) (fun bo => ?_)
   refine WS_new hF rf (y_alloc Tryz.zeroValue24 rf) (fun bt => ?_)
   refine WS_store hF (us := [.slice _ _ _, .slice _ _ _, .int .i64 _]) (i := 1) rf rf Tryz.sizeOf24 rf rf rf d20 ?_
   refine WS_store hF (us := [.slice _ _ _, .slice _ _ _, .int .i64 _]) (i := 0) rf rf Tryz.sizeOf24 rf rf rf d20 ?_
   refine zO ?_
   refine W_pull (pb, CB (iv (List.replicate [3, 5].length 0) ++ pj) 3) zu ?_
   refine W_region_lit (fun ds => ?_)
   refine zD hF (y_fieldAddr rf fa24_1) ?_
   refine zD hF (y_load1 rf Tryz.isAgg22 (Mem.own1 2 rf rf)) ?_
   refine zD hF (y_index (k := 0) rf rf r1 d10 Tryz.runUnderlying22 Tryz.sizeOf3) ?_
   refine WS_store hF (us := [.int .i64 _]) (i := 0) rf rf Tryz.sizeOf3 rf rf rf (fit_iv dc) ?_
   refine zO ?_
   rw [show splice (iv (List.replicate [3, 5].length 0) ++ pj) 0 [.int .i64 4] = iv [4, 0] ++ pj from splice_iv _ _ _ 0 dc]
   refine W_region_lit (fun ds => ?_)
   refine zD hF (y_loadN rf Tryz.isAgg24 Tryz.sizeOf24 (Mem.own (us := [.slice _ _ _, .slice _ _ _, .int .i64 _]) 2 rf rf) rf) ?_
   refine zD hF (y_callL rf rf Tryz.call16 (fun w hw => Ct_eq (many_any odd _ _ _ _ w (hG.st w hw) dc dc (Ints.mem (rest := []) 4 rf rf dc w hw) (Ints.mem (rest := pj) 0 rf rf (by exact ple) w hw)) j_odd)) ?_
   refine zm (.tuple _) hF ?_
   refine zD hF (y_extract (c := .int .i64 _) rf rf) ?_
   refine zD hF (y_extract (c := .int .i64 _) rf rf) ?_
   refine za (.int .i64 _) hF ?_
   refine zP fun ds => ?_
   refine WS_newS hF rf (y_buildSliceL bs22_2_0_1 rf) (fun sz => ?_)
   refine WS_gen hF rf (y_callL rf rf Tryz.call43 (fun w hw => l8bench_any 20 [3, 5] _ _ w dc)) ?_
   rintro _ Hz ⟨z, q, rfl, hz⟩
   refine WS_back ?_
   refine zD hF (y_buildL bd47_0_1 rf) ?_
   refine WS_gen hF rf (y_callL rf rf Tryz.call38 (fun w hw => pour_any b35 _ _ _ _ ⟨1, 1⟩ w (hG.st w hw) dc dc (Ints.mem (rest := []) 0 rf rf dc w hw) (NewRow.ints hz rfl sbA w hw))) ?_
   rintro _ HZ ⟨_, rfl, ⟨y1, k1, y2, k2, _, _, rfl, _⟩⟩
   refine WS_back ?_
   rw [j_p1]
   refine zm (.tuple _) hF ?_
   refine zD hF (y_extract (c := .agg _) rf rf) ?_
   refine zD hF (y_extract (c := .int .i64 _) rf rf) ?_
   refine za (.int .i64 _) hF ?_
   refine zO ?_
   refine W_sub (HSub.sub (Hn := (pb, _) :: (bt, _) :: (bo, _) :: (s3, _) :: (so, _) :: Hz3) sbA) ?_
   refine W_region_lit (fun ds => ?_)
   refine WS_newS hF rf (y_buildSliceL bs22_2_0_1 rf) (fun sz => ?_)
   refine WS_gen hF rf (y_callL rf rf Tryz.call43 (fun w hw => l8bench_any 20 [3, 5] _ _ w dc)) ?_
   rintro _ Hz ⟨z, q, rfl, hz⟩
   refine WS_back ?_
   refine zD hF (y_buildL bd47_0 rf) ?_
   refine WS_gen hF rf (y_callL rf rf Tryz.call38 (fun w hw => pour_any b35 _ _ _ _ ⟨1, 0⟩ w (hG.st w hw) dc dc (Ints.mem (rest := []) 0 rf rf dc w hw) (NewRow.ints hz rfl sbA w hw))) ?_
   rintro _ HZ ⟨_, rfl, ⟨y1, k1, y2, k2, _, _, rfl, _⟩⟩
   refine WS_back ?_
   rw [j_p2]
   refine zm (.tuple _) hF ?_
   refine zD hF (y_extract (c := .agg _) rf rf) ?_
   refine zD hF (y_extract (c := .int .i64 _) rf rf) ?_
   refine za (.int .i64 _) hF ?_
   refine zO ?_
   refine W_sub (HSub.sub (Hn := (pb, _) :: (bt, _) :: (bo, _) :: (s3, _) :: (so, _) :: Hz3) sbA) ?_
   refine W_region_lit (fun ds => ?_)
   refine WS_newS hF rf (y_buildSliceL bs22_2_0_1 rf) (fun sz => ?_)
   refine WS_gen hF rf (y_callL rf rf Tryz.call43 (fun w hw => l8bench_any 4 [3, 5] _ _ w dc)) ?_
   rintro _ Hz ⟨z, q, rfl, hz⟩
   refine WS_back ?_
   refine zD hF (y_buildL bd47_1 rf) ?_
   refine WS_gen hF rf (y_callL rf rf Tryz.call38 (fun w hw => pour_any b4 _ _ _ _ ⟨0, 2⟩ w (hG.st w hw) dc dc (Ints.mem (rest := []) 0 rf rf dc w hw) (NewRow.ints hz rfl sbA w hw))) ?_
   rintro _ HZ ⟨_, rfl, ⟨y1, k1, y2, k2, _, _, rfl, _⟩⟩
   refine WS_back ?_
   rw [j_p3]
   refine zm (.tuple _) hF ?_
   refine zD hF (y_extract (c := .agg _) rf rf) ?_
   refine zD hF (y_extract (c := .int .i64 _) rf rf) ?_
   refine za (.int .i64 _) hF ?_
   refine zO ?_
   refine W_sub (HSub.sub (Hn := (pb, _) :: (bt, _) :: (bo, _) :: (s3, _) :: (so, _) :: Hz3) sbA) ?_
   refine W_region_lit (fun ds => ?_)
   refine WS_newS hF rf (y_buildSliceL bs22_2_0_1 rf) (fun sz => ?_)
   refine WS_gen hF rf (y_callL rf rf Tryz.call43 (fun w hw => l8bench_any 20 [3, 5] _ _ w dc)) ?_
   rintro _ Hz ⟨z, q, rfl, hz⟩
   refine WS_back ?_
   refine WS_newS hF rf (y_buildSliceL bs22_4_0_1_2_3 rf) (fun b2 => ?_)
   refine WS_gen hF rf (y_callL rf rf Tryz.call44 (fun w hw => l8pours_any wQ _ _ w dc (Ints.mem (rest := []) 0 rf rf dc w hw))) ?_
   rintro _ HP ⟨pa, pk, rfl, hpp⟩
   refine WS_back ?_
   refine WS_gen hF rf (y_callL rf rf Tryz.call39 (fun w hw => play_any b35 _ _ _ _ wQ _ _ w (hG.st w hw) dc dc dc (Ints.mem (rest := []) 1 rf rf dc w hw) (NewRow.ints hz rfl sbA w hw) (NewRow.rws po_len hpp rfl sbA w hw))) ?_
   rintro _ HZ ⟨_, rfl, ⟨y1, k1, y2, k2, _, _, rfl, _⟩⟩
   refine WS_back ?_
   rw [j_qB, j_qA, j_qE]
   refine zm (.tuple _) hF ?_
   refine zD hF (y_extract (c := .agg _) rf rf) ?_
   refine zD hF (y_extract (c := .int .i64 _) rf rf) ?_
   refine zD hF (y_extract (c := .int .i64 _) rf rf) ?_
   refine zD hF (y_extract (c := .int .i64 _) rf rf) ?_
   refine za (.int .i64 _) hF ?_
   refine za (.int .i64 _) hF ?_
   refine zO ?_
   refine W_sub (HSub.sub (Hn := (pb, _) :: (bt, _) :: (bo, _) :: (s3, _) :: (so, _) :: Hz3) sbA) ?_
   refine W_region_lit (fun ds => ?_)
   refine WS_newS hF rf (y_buildSliceL bs22_2_0_1 rf) (fun sz => ?_)
   refine WS_gen hF rf (y_callL rf rf Tryz.call43 (fun w hw => l8bench_any 20 [4, 6] _ _ w dc)) ?_
   rintro _ Hz ⟨z, q, rfl, hz⟩
   refine WS_back ?_
   refine WS_gen hF rf (y_callL rf rf Tryz.call19 (fun w hw => cleast_any b46 _ _ _ _ 3 w (hG.st w hw) dc dc (Ints.mem (rest := []) 0 rf rf dc w hw) (NewRow.ints hz rfl sbA w hw))) ?_
   rintro _ HZ hA
   rw [j_l46] at hA
   obtain ⟨x1, x2, x3, x4, rfl⟩ := hA.non j_e46
   refine WS_back ?_
   refine zm (.tuple _) hF ?_
   refine zD hF (y_extract (c := .slice _ _ _) rf rf) ?_
   refine zD hF (y_extract (c := .int .i64 _) rf rf) ?_
   refine zD hF (y_extract (c := .int .i64 _) rf rf) ?_
   refine za (.int .i64 _) hF ?_
   refine zO ?_
   refine W_sub (HSub.sub (Hn := (pb, _) :: (bt, _) :: (bo, _) :: (s3, _) :: (so, _) :: Hz3) sbA) ?_
   refine W_region_lit (fun ds => ?_)
   refine WS_newS hF rf (y_buildSliceL bs22_2_0_1 rf) (fun sz => ?_)
   refine WS_gen hF rf (y_callL rf rf Tryz.call43 (fun w hw => l8bench_any 20 [4, 6] _ _ w dc)) ?_
   rintro _ Hz ⟨z, q, rfl, hz⟩
   refine WS_back ?_
   refine WS_gen hF rf (y_callL rf rf Tryz.call19 (fun w hw => cleast_any b46 _ _ _ _ 21 w (hG.st w hw) dc dc (Ints.mem (rest := []) 0 rf rf dc w hw) (NewRow.ints hz rfl sbA w hw))) ?_
   rintro _ HZ hA
   obtain ⟨x1, x2, x3, rfl⟩ := hA.no j_e21 dc
   refine WS_back ?_
   refine zm (.tuple _) hF ?_
   refine zD hF (y_extract (c := .slice _ _ _) rf rf) ?_
   refine zD hF (y_extract (c := .int .i64 _) rf rf) ?_
   refine zD hF (y_extract (c := .int .i64 _) rf rf) ?_
   refine za (.slice _ _ _) hF ?_
   refine za (.int .i64 _) hF ?_
   refine za (.int .i64 _) hF ?_
   refine zO ?_
   refine W_sub (HSub.sub (Hn := (pb, _) :: (bt, _) :: (bo, _) :: (s3, _) :: (so, _) :: Hz3) sbA) ?_
   refine W_region_lit (fun ds => ?_)
   refine WS_newS hF rf (y_buildSliceL bs22_2_0_1 rf) (fun sz => ?_)
   refine WS_gen hF rf (y_callL rf rf Tryz.call43 (fun w hw => l8bench_any 20 [4, 6] _ _ w dc)) ?_
   rintro _ Hz ⟨z, q, rfl, hz⟩
   refine WS_back ?_
   refine WS_gen hF rf (y_callL rf rf Tryz.call40 (fun w hw => ctotal_any b46 _ _ _ _ 11 w (hG.st w hw) dc dc (Ints.mem (rest := []) 0 rf rf dc w hw) (NewRow.ints hz rfl sbA w hw))) ?_
   rintro _ HZ hA
   obtain ⟨x1, x2, x3, rfl⟩ := hA.no j_e11 dc
   refine WS_back ?_
   refine zm (.tuple _) hF ?_
   refine zD hF (y_extract (c := .slice _ _ _) rf rf) ?_
   refine zD hF (y_extract (c := .int .i64 _) rf rf) ?_
   refine zD hF (y_extract (c := .int .i64 _) rf rf) ?_
   refine za (.slice _ _ _) hF ?_
   refine za (.int .i64 _) hF ?_
   refine za (.int .i64 _) hF ?_
   refine zO ?_
   refine W_sub (HSub.sub (Hn := (pb, _) :: (bt, _) :: (bo, _) :: (s3, _) :: (so, _) :: Hz3) sbA) ?_
   refine W_region_lit (fun ds => ?_)
   refine WS_newS hF rf (y_buildSliceL bs22_2_0_1 rf) (fun sz => ?_)
   refine WS_gen hF rf (y_callL rf rf Tryz.call43 (fun w hw => l8bench_any 20 [4, 6] _ _ w dc)) ?_
   rintro _ Hz ⟨z, q, rfl, hz⟩
   refine WS_back ?_
   refine WS_newS hF rf (y_buildSliceL bs22_1_0 rf) (fun wn => ?_)
   refine WS_gen hF rf (y_callL rf rf Tryz.call41 (fun w hw => cboth_any b46 _ _ _ _ _ _ [1] w (hG.st w hw) dc dc (Ints.mem (rest := []) 1 rf rf dc w hw) (NewRow.ints hz rfl sbA w hw) dc (Ints.mem (rest := []) 0 rf rf dc w hw))) ?_
   rintro _ HZ hA
   obtain ⟨x1, x2, x3, rfl⟩ := hA.no j_eb1 dc
   refine WS_back ?_
   refine zm (.tuple _) hF ?_
   refine zD hF (y_extract (c := .slice _ _ _) rf rf) ?_
   refine zD hF (y_extract (c := .int .i64 _) rf rf) ?_
   refine zD hF (y_extract (c := .int .i64 _) rf rf) ?_
   refine za (.slice _ _ _) hF ?_
   refine za (.int .i64 _) hF ?_
   refine za (.int .i64 _) hF ?_
   refine zO ?_
   refine W_sub (HSub.sub (Hn := (pb, _) :: (bt, _) :: (bo, _) :: (s3, _) :: (so, _) :: Hz3) sbA) ?_
   refine W_region_lit (fun ds => ?_)
   refine zD hF (y_loadN rf Tryz.isAgg24 Tryz.sizeOf24 (Mem.own (us := [.slice _ _ _, .slice _ _ _, .int .i64 _]) 1 rf rf) rf) ?_
   refine zD hF (y_callL rf rf Tryz.call36 (fun w hw => Ct_eq (help_any three _ _ _ _ 4 w (hG.st w hw) dc dc (Ints.mem (rest := []) 3 rf rf dc w hw) (NewRow.ints hz3 rfl sbA w hw)) j_h3v)) ?_
   refine zm (.tuple _) hF ?_
   refine zD hF (y_extract (c := .int .i64 _) rf rf) ?_
   refine zD hF (y_extract (c := .int .i64 _) rf rf) ?_
   refine zD hF (y_extract (c := .int .i64 _) rf rf) ?_
   refine za (.int .i64 _) hF ?_
   refine za (.int .i64 _) hF ?_
   refine za (.int .i64 _) hF ?_
   refine zP fun ds => ?_
   refine zD hF (y_loadN rf Tryz.isAgg24 Tryz.sizeOf24 (Mem.own (us := [.slice _ _ _, .slice _ _ _, .int .i64 _]) 1 rf rf) rf) ?_
   refine WS_gen hF rf (y_callL rf rf Tryz.call37 (fun w hw => caddC_any three _ _ _ _ 4 w (hG.st w hw) dc dc (Ints.mem (rest := []) 3 rf rf dc w hw) (NewRow.ints hz3 rfl sbA w hw))) ?_
   rintro _ HZ ⟨_, rfl, ⟨y1, k1, y2, k2, _, _, rfl, _⟩⟩
   refine WS_back ?_
   rw [j_a3]
   refine zm (.tuple _) hF ?_
   refine zD hF (y_extract (c := .agg _) rf rf) ?_
   refine zD hF (y_extract (c := .int .i64 _) rf rf) ?_
   refine WS_new hF rf (y_alloc Tryz.zeroValue24 rf) (fun x1 => ?_)
   refine WS_store hF (us := [.slice _ _ _, .slice _ _ _, .int .i64 _]) (i := 0) rf rf Tryz.sizeOf24 rf rf rf d20 ?_
   refine za (.int .i64 _) hF ?_
   refine zO ?_
   refine W_sub (HSub.sub (Hn := (pb, _) :: (bt, _) :: (bo, _) :: (s3, _) :: (so, _) :: Hz3) sbA) ?_
   refine W_region_lit (fun ds => ?_)
   refine zD hF (y_loadN rf Tryz.isAgg24 Tryz.sizeOf24 (Mem.own (us := [.slice _ _ _, .slice _ _ _, .int .i64 _]) 2 rf rf) rf) ?_
   refine WS_gen hF rf (y_callL rf rf Tryz.call37 (fun w hw => caddC_any odd _ _ _ _ 4 w (hG.st w hw) dc dc (Ints.mem (rest := []) 4 rf rf dc w hw) (Ints.mem (rest := pj) 0 rf rf (by exact ple) w hw))) ?_
   rintro _ HZ ⟨_, rfl, ⟨y1, k1, y2, k2, _, _, rfl, _⟩⟩
   refine WS_back ?_
   rw [j_ao]
   refine zm (.tuple _) hF ?_
   refine zD hF (y_extract (c := .agg _) rf rf) ?_
   refine zD hF (y_extract (c := .int .i64 _) rf rf) ?_
   refine WS_new hF rf (y_alloc Tryz.zeroValue24 rf) (fun x2 => ?_)
   refine WS_store hF (us := [.slice _ _ _, .slice _ _ _, .int .i64 _]) (i := 0) rf rf Tryz.sizeOf24 rf rf rf d20 ?_
   refine za (.int .i64 _) hF ?_
   refine zO ?_
   refine W_sub (HSub.sub (Hn := (pb, _) :: (bt, _) :: (bo, _) :: (s3, _) :: (so, _) :: Hz3) sbA) ?_
   refine W_region_lit (fun ds => ?_)
   refine WS_gen hF rf (y_callL rf rf Tryz.call46 (fun w hw => l8log_any w)) ?_
   rintro _ _ ⟨a1, cap1, ae1, cape1, Hp, He, rfl, hrp, hre, rfl⟩
   refine WS_back ?_
   refine WS_gen hF rf (y_callL rf rf Tryz.call29 (fun w hw => begin_any logL _ _ _ _ none 0 0 [] w (hG.st w hw) dc dc (NewRow.ints hrp rfl sbA w hw) (NewRow.rws en_len hre rfl sbA w hw) (Ints.nil _ _ _))) ?_
   rintro _ HZ ⟨_, rfl, ⟨y1, k1, y2, k2, _, _, rfl, _⟩⟩
   refine WS_back ?_
   rw [j_beg]
   refine zm (.tuple _) hF ?_
   refine zD hF (y_extract (c := .agg _) rf rf) ?_
   refine zD hF (y_extract (c := .int .i64 _) rf rf) ?_
   refine WS_new hF rf (y_alloc Tryz.zeroValue24 rf) (fun x3 => ?_)
   refine WS_store hF (us := [.slice _ _ _, .slice _ _ _, .int .i64 _]) (i := 0) rf rf Tryz.sizeOf24 rf rf rf d20 ?_
   refine za (.int .i64 _) hF ?_
   refine zO ?_
   refine W_sub (HSub.sub (Hn := (pb, _) :: (bt, _) :: (bo, _) :: (s3, _) :: (so, _) :: Hz3) sbA) ?_
   have no : NewRow 3 1 odd.n (iv odd.sz) (.slice (some ⟨so, 0, none⟩) odd.n 2) [(so, CB [.int .i64 3, .int .i64 5] 3)] := ⟨_, _, rfl, by decide, .inl ⟨by decide, so, [], rfl, rfl, rfl⟩⟩
   have np : NewRow 3 1 odd.inn.length (iv odd.inn) (.slice (some ⟨pb, 0, none⟩) odd.inn.length q0) [(pb, CB (iv [4, 0] ++ pj) 3)] := ⟨_, _, rfl, ple, .inl ⟨by decide, pb, pj, rfl, rfl, pl⟩⟩
   refine W_draw0 hF Tryzmixed [38] dk0 (fun ds => ?_)
   refine P_new rf rf (Over_nil (y_callL rf rf Tryz.call46 (fun w hw => l8log_any w))) ?_
   refine P_det rf (Over_out rf (Over_nil (y_loadN rf Tryz.isAgg24 Tryz.sizeOf24 (Mem.own (us := [.slice _ _ _, .slice _ _ _, .int .i64 _]) 2 rf rf) rf))) ?_
   refine P_new rf rf (Over_in rf (Over_nil (by intro vb4 l263 hb4; obtain ⟨c1, d1, c2, d2, Hp, He, rfl, hrp, hre, rfl⟩ := hb4; exact (y_callL rf rf Tryz.call32 (fun w hw => written_any logL _ _ _ _ odd _ _ _ _ [] none 0 w (hG.st w hw) dc dc dc (NewRow.ints hrp rfl sbA w hw) (NewRow.rws en_len hre rfl sbA w hw) dc dc (NewRow.ints no rfl sbA w hw) (NewRow.ints np rfl sbA w hw) (Rws.nil _ _ _)))))) ?_
   refine P_ali [265] (fun e => e 265) rf rf rf (fun _ _ h => h 265 (List.mem_singleton.2 rfl)) (Over_in rf (Over_out rf (Over_nil (by intro vb6 l265 hb6; obtain ⟨_, rfl, hTW⟩ := hb6; rw [j_wrt]; obtain ⟨e1, f1, e2, f2, U1, U2, rfl, hu1, hu2, rfl⟩ := hTW; exact (YD0_of (y_move (c := .tuple _) rf)))))) ?_
   refine P_ali [262] (fun e => tupAt (e 262) 0) rf rf rf (fun _ _ h => congrArg (tupAt · 0) (h 262 (List.mem_singleton.2 rfl))) (Over_in rf (Over_in rf (Over_out rf (Over_nil (by intro vb8 l265 hb8; obtain ⟨_, rfl, hTW⟩ := hb8; rw [j_wrt]; obtain ⟨e1, f1, e2, f2, U1, U2, rfl, hu1, hu2, rfl⟩ := hTW; rintro vb9 _ ⟨hvb9, rfl⟩; replace hvb9 : vb9 = .tuple _ := hvb9; subst hvb9; exact (YD0_of (y_extract (c := .agg _) rf rf))))))) ?_
   refine P_ali [262] (fun e => tupAt (e 262) 1) rf rf rf (fun _ _ h => congrArg (tupAt · 1) (h 262 (List.mem_singleton.2 rfl))) (Over_out rf (Over_in rf (Over_in rf (Over_out rf (Over_nil (by intro vb11 l265 hb11; obtain ⟨_, rfl, hTW⟩ := hb11; rw [j_wrt]; obtain ⟨e1, f1, e2, f2, U1, U2, rfl, hu1, hu2, rfl⟩ := hTW; rintro vb12 _ ⟨hvb12, rfl⟩; replace hvb12 : vb12 = .tuple _ := hvb12; subst hvb12; exact (YD0_of (y_extract (c := .int .i64 _) rf rf)))))))) ?_
   refine P_newSD 266 rf rf rf (Over_out rf (Over_out rf (Over_out rf (Over_out rf (Over_out rf (Over_nil (y_alloc Tryz.zeroValue62 rf))))))) ?_
   refine P_st 38 0 rf rf rf rf rf (Over_out rf (Over_in rf (Over_in rf (Over_in rf (Over_out rf (Over_nil (by intro vb14 l265 hb14; obtain ⟨_, rfl, hTW⟩ := hb14; rw [j_wrt]; obtain ⟨e1, f1, e2, f2, U1, U2, rfl, hu1, hu2, rfl⟩ := hTW; rintro vb15 _ ⟨hvb15, rfl⟩; replace hvb15 : vb15 = .tuple _ := hvb15; subst hvb15; rintro vb16 _ ⟨hvb16, rfl⟩; replace hvb16 : vb16 = .agg _ := hvb16; subst hvb16; exact (st_newD rf rf Tryz.sizeOf62 rf rf d20)))))))) ?_
   refine P_ali [267] (fun e => e 267) rf rf rf (fun _ _ h => h 267 (List.mem_singleton.2 rfl)) (Over_out rf (Over_in rf (Over_out rf (Over_in rf (Over_in rf (Over_out rf (Over_nil (by intro vb17 l265 hb17; obtain ⟨_, rfl, hTW⟩ := hb17; rw [j_wrt]; obtain ⟨e1, f1, e2, f2, U1, U2, rfl, hu1, hu2, rfl⟩ := hTW; rintro vb18 _ ⟨hvb18, rfl⟩; replace hvb18 : vb18 = .tuple _ := hvb18; subst hvb18; rintro vb19 _ ⟨hvb19, rfl⟩; replace hvb19 : vb19 = .int .i64 _ := hvb19; subst hvb19; exact (YD0_of (y_assign (c := .int .i64 _) rf)))))))))) ?_
   refine PW_end rf ?_
   refine OverAll_cons (fun w39 l39 => ?_)
   refine OverAll_cons (fun w38 l38 => ?_)
   refine OverAll_cons (fun w267 l267 => ?_)
   refine OverAll_cons (fun w266 l266 => ?_)
   refine OverAll_cons (fun w262 l262 => ?_)
   refine OverAll_cons (fun w265 l265 => ?_)
   refine OverAll_cons (fun w263 l263 => ?_)
   refine OverAll_nil ?_
   rintro ⟨⟨⟨⟨⟨⟨⟨-, h39⟩, h38⟩, h267⟩, h266⟩, h262⟩, h265⟩, h263⟩
   obtain ⟨c1, d1, c2, d2, Hp, He, rfl, hrp, hre, rfl⟩ := h263
   obtain ⟨_, rfl, hTW⟩ := h265
   rw [j_wrt]
   obtain ⟨e1, f1, e2, f2, U1, U2, rfl, hu1, hu2, rfl⟩ := hTW
   obtain ⟨h262, rfl⟩ := h262
   replace h262 : w262 = .tuple _ := h262
   subst h262
   obtain ⟨h266, rfl⟩ := h266
   replace h266 : w266 = .agg _ := h266
   subst h266
   obtain ⟨h267, rfl⟩ := h267
   replace h267 : w267 = .int .i64 _ := h267
   subst h267
   obtain ⟨h39, rfl⟩ := h39
   replace h39 : w39 = .int .i64 _ := h39
   subst h39
   obtain ⟨x4, rfl, rfl⟩ := h38
   refine Then_normal ?_
   refine W_seq ?_
   refine W_sub (HSub.sub (Hn := (pb, _) :: (bt, _) :: (bo, _) :: (s3, _) :: (so, _) :: Hz3) sbA) ?_
   refine W_region_lit (fun ds => ?_)
   refine WS_newS hF rf (y_buildSliceL bs22_2_0_1 rf) (fun sz => ?_)
   refine WS_gen hF rf (y_callL rf rf Tryz.call43 (fun w hw => l8bench_any 20 [3, 5] _ _ w dc)) ?_
   rintro _ Hz ⟨z, q, rfl, hz⟩
   refine WS_back ?_
   refine zD hF (y_buildL bd47_0 rf) ?_
   refine WS_gen hF rf (y_callL rf rf Tryz.call22 (fun w hw => cbefore_any b35 _ _ _ _ ⟨3, 0⟩ w (hG.st w hw) dc dc (Ints.mem (rest := []) 0 rf rf dc w hw) (NewRow.ints hz rfl sbA w hw))) ?_
   rintro _ _ ⟨e0, bs, ba, bk, Hr, HX, rfl, hbf, hrow, hrd, hsh, rfl⟩
   obtain rfl := j_bef hbf
   refine WS_back ?_
   refine zm (.tuple _) hF ?_
   refine zD hF (y_extract (c := .slice _ _ _) rf rf) ?_
   refine zD hF (y_extract (c := .int .i64 _) rf rf) ?_
   refine za (.slice _ _ _) hF ?_
   refine za (.int .i64 _) hF ?_
   refine zP fun ds => ?_
   refine zm (.int .i64 _) hF ?_
   refine zD hF (y_eqlT rf rf) ?_
   refine zm (.bool _) hF ?_
   refine zm (.int .i64 _) hF ?_
   refine zD hF (y_eqlT rf rf) ?_
   refine zD hF (zpk (.bool _)) ?_
   refine zm (.bool _) hF ?_
   refine zm (.int .i64 _) hF ?_
   refine zD hF (y_eqlT rf rf) ?_
   refine zD hF (zpk (.bool _)) ?_
   refine zm (.bool _) hF ?_
   refine zm (.int .i64 _) hF ?_
   refine zD hF (y_eqlT rf rf) ?_
   refine zD hF (zpk (.bool _)) ?_
   refine zm (.bool _) hF ?_
   refine zm (.int .i64 _) hF ?_
   refine zD hF (y_eqlT rf rf) ?_
   refine zD hF (zpk (.bool _)) ?_
   refine zm (.bool _) hF ?_
   refine zm (.int .i64 _) hF ?_
   refine zD hF (y_eqlT rf rf) ?_
   refine zD hF (zpk (.bool _)) ?_
   refine zm (.bool _) hF ?_
   refine zm (.int .i64 _) hF ?_
   refine zD hF (y_eqlT rf rf) ?_
   refine zD hF (zpk (.bool _)) ?_
   refine zm (.bool _) hF ?_
   refine zm (.int .i64 _) hF ?_
   refine zD hF (y_eqlT rf rf) ?_
   refine zD hF (zpk (.bool _)) ?_
   refine zm (.bool _) hF ?_
   refine zm (.int .i64 _) hF ?_
   refine zD hF (y_eqlT rf rf) ?_
   refine zD hF (zpk (.bool _)) ?_
   refine zm (.bool _) hF ?_
   refine zm (.int .i64 _) hF ?_
   refine zD hF (y_eqlT rf rf) ?_
   refine zD hF (zpk (.bool _)) ?_
   refine zm (.bool _) hF ?_
   refine zm (.int .i64 _) hF ?_
   refine zD hF (y_eqlT rf rf) ?_
   refine zD hF (zpk (.bool _)) ?_
   refine zm (.bool _) hF ?_
   refine zm (.int .i64 _) hF ?_
   refine zD hF (y_eqlT rf rf) ?_
   refine zD hF (zpk (.bool _)) ?_
   refine zm (.bool _) hF ?_
   refine zm (.int .i64 _) hF ?_
   refine zD hF (y_eqlT rf rf) ?_
   refine zD hF (zpk (.bool _)) ?_
   refine zm (.bool _) hF ?_
   refine zm (.int .i64 _) hF ?_
   refine zD hF (y_eqlT rf rf) ?_
   refine zD hF (zpk (.bool _)) ?_
   refine zm (.bool _) hF ?_
   refine zm (.int .i64 _) hF ?_
   refine zD hF (y_eqlT rf rf) ?_
   refine zD hF (zpk (.bool _)) ?_
   refine zm (.bool _) hF ?_
   refine zm (.int .i64 _) hF ?_
   refine zD hF (y_eqlT rf rf) ?_
   refine zD hF (zpk (.bool _)) ?_
   refine zm (.bool _) hF ?_
   refine zD hF (y_loadN rf Tryz.isAgg24 Tryz.sizeOf24 (Mem.own (us := [.slice _ _ _, .slice _ _ _, .int .i64 _]) 3 rf rf) rf) ?_
   refine zD hF (y_callL rf rf Tryz.call47 (fun w hw => Ct_eq (c' := .int .i64 80) (ccheck_any odd _ _ _ _ w (hG.st w hw) dc dc (Ints.mem (rest := []) 5 rf rf dc w hw) (Ints.mem (rest := pj) 1 rf rf (by exact ple) w hw)) rf)) ?_
   refine zD hF (y_eqlT rf rf) ?_
   refine zD hF (zpk (.bool _)) ?_
   refine za (.bool _) hF ?_
   refine zN ?_
   refine W_ret ?_
   refine Fin_ret [.bool _] [] Tryz.results12 ⟨by rfl, trivial⟩ HSub.nil ?_
   rfl
end Go.Proofs.YtjekjehgmljbgaaGreatDoor.T
namespace Go.Proofs.YtjekjehgmljbgaaGreatDoor.T
open Go.RowKit Go.Proofs Go.Eng Go.ChangeShapes Go.WideShapes Go.ChangeAt Go.Joins Go.Deep
set_option maxRecDepth 100000
set_option maxHeartbeats 1000000
section
variable {H : Type} {enc : TypeId × Value → H} {w : World} {base : Nat} {spare : Nat → Bool} {held : Bool}
end
theorem own : ownKnob Tryz.prog.godebug = none := by kernel_rfl
set_option maxRecDepth 100000
set_option maxHeartbeats 1000000
section
variable {H : Type} {enc : TypeId × Value → H} {w : World} {base : Nat} {spare : Nat → Bool} {held : Bool}
end
def laidC : List (String × DataW Unit) := [("oilcake/can.checks", Rows.laid_oilcake_can_checks)]
theorem gChecks : Tryz.prog.globalNamed "oilcake/can.checks" = some 0 := by kernel_rfl
theorem tChecks : (Tryz.prog.globals[0]?).map (·.type) = some 159 := by kernel_rfl
theorem door_met (os : Os) (args : Array Value) : laidMetH Tryz.prog laidC ((World.doorLaid Tryz.prog 400 os).forCall (fun _ _ => 0) ⟨#[], args, []⟩).memory :=
 laidMetH_of_parts3 (fuel := 8) (laidMet_of_run' 8 (by kernel_rfl) (by kernel_rfl)) (by kernel_rfl) (by kernel_rfl)
theorem cellsChk : Tryz.prog.cellsOf 158 = 1 := by kernel_rfl
theorem cellsChk3 : Tryz.prog.cellsOf 159 = 3 := by kernel_rfl
theorem cellsFn : Tryz.prog.cellsOf 27 = 1 := by kernel_rfl
theorem chk_fn {W : World} {sp : Nat → Bool} {fuel : Nat} {v : Value} {x : DataW (List UInt8) × List MemPlace} {b : UInt8} {r : List UInt8} {f0 : FuncId}
  (hone : ((List.range Tryz.prog.funcs.size).filter fun f => (Tryz.prog.funcs[f]?).any (·.name.toUTF8.data.toList == b :: r)) = [f0])
  (h : DataW.trod (funcToken Tryz.prog) Tryz.prog W 0 sp true fuel 158 [v] = some x) (hx : x.1 = .agg [.held (b :: r)]) : v = .func (.func f0) #[] #[] := by
 obtain ⟨y0, n, rfl, _, h0⟩ := trod_struct1 Tryz.underlying158 h
 obtain ⟨y, q⟩ := y0
 simp only [DataW.agg.injEq, List.cons.injEq, and_true] at hx
 subst hx
 simp only [cellsFn, List.drop_zero, List.take_succ_cons, List.take_zero] at h0
 exact func_of_trod Tryz.underlying27 hone h0
theorem of_laid {W : World} (h : laidMetH Tryz.prog laidC W) : Gv W := by
 obtain ⟨g, t, cs, fuel, p, hg, ht, hv, hd⟩ := h.funcs (List.mem_singleton.2 rfl)
 obtain rfl := Option.some.inj (gChecks.symm.trans hg)
 obtain rfl := Option.some.inj (tChecks.symm.trans ht)
 have hd' : DataW.trod (funcToken Tryz.prog) Tryz.prog W 0 (fun _ => true) true fuel 159 cs.toList = some (.agg [.agg [.held [111, 105, 108, 99, 97, 107, 101, 47, 99, 97, 110, 46, 99, 104, 101, 99, 107, 115, 36, 49]], .agg [.held [111, 105, 108, 99, 97, 107, 101, 47, 99, 97, 110, 46, 99, 104, 101, 99, 107, 115, 36, 50]], .agg [.held [111, 105, 108, 99, 97, 107, 101, 47, 99, 97, 110, 46, 99, 104, 101, 99, 107, 115, 36, 51]]], p) := hd
 obtain ⟨xs, m1, rfl, hx1, hlen, hn3, hel⟩ := DataW.trod_array Tryz.underlying159 hd'
 simp only [Prod.mk.injEq, DataW.agg.injEq] at hx1
 rw [cellsChk3] at hlen
 have hc := fun i => World.var?_cell hg hv i
 obtain ⟨cl⟩ := cs
 match xs, hn3, hx1, cl, hlen, hel, hc with
 | [x0, x1, x2], _, hx1, [c0, c1, c2], _, hel, hc =>
  simp only [List.map_cons, List.map_nil, List.cons.injEq, and_true] at hx1
  have e0 := hel 0 dc
  have e1 := hel 1 dc
  have e2 := hel 2 dc
  simp only [cellsChk, Nat.zero_mul, Nat.one_mul, Nat.mul_one, List.drop_zero, List.drop_succ_cons, List.take_succ_cons, List.take_zero, List.getElem?_cons_zero, List.getElem?_cons_succ] at e0 e1 e2
  obtain rfl := chk_fn (f0 := 190) (by kernel_rfl) e0 hx1.1.1.symm
  obtain rfl := chk_fn (f0 := 191) (by kernel_rfl) e1 hx1.1.2.1.symm
  obtain rfl := chk_fn (f0 := 192) (by kernel_rfl) e2 hx1.1.2.2.symm
  exact ⟨hc 0, hc 1, hc 2, trivial⟩
set_option maxRecDepth 100000
set_option maxHeartbeats 1000000
section
variable {H : Type} {enc : TypeId × Value → H} {w : World} {base : Nat} {spare : Nat → Bool} {held : Bool}
end
end Go.Proofs.YtjekjehgmljbgaaGreatDoor.T
namespace Go.Proofs.YtjekjehgmljbgaaGreatDoor.T
open Go.RowKit Go.Proofs Go.Eng Go.ChangeShapes Go.WideShapes Go.ChangeAt Go.Joins
set_option maxRecDepth 100000
set_option maxHeartbeats 1000000
section
variable {H : Type} {enc : TypeId × Value → H} {w : World} {base : Nat} {spare : Nat → Bool} {held : Bool}
end
end Go.Proofs.YtjekjehgmljbgaaGreatDoor.T
namespace Go.Proofs.YtjekjehgmljbgaaGreatDoor.T
open Go.RowKit Go.Proofs Go.Eng Go.ChangeShapes Go.WideShapes Go.ChangeAt Go.Joins Go.Deep
set_option maxRecDepth 100000
set_option maxHeartbeats 1000000
section
variable {H : Type} {enc : TypeId × Value → H} {w : World} {base : Nat} {spare : Nat → Bool} {held : Bool}
end
end Go.Proofs.YtjekjehgmljbgaaGreatDoor.T
namespace Go.Proofs.YtjekjehgmljbgaaGreatDoor
open Go.RowKit Go.Proofs Go.Eng Go.ChangeShapes Go.WideShapes Go.ChangeAt Go.Joins T
set_option maxRecDepth 100000
set_option maxHeartbeats 1000000
theorem walkCanExamples (W : World) (hG : Gv W)  :
  Calls Tryz.prog 12 #[] W fun e W' => e = .returned (.bool true) ∧ Below W.heap.size W W' := by
 refine Calls.mono (canExamples_any  W hG ) ?_
 rintro e W' ⟨v, rfl, Hn, hb, _, rfl⟩
 exact ⟨rfl, hb⟩
theorem liftCanExamples (os : Os) (started : os.Started) (H : Type) (enc : TypeId × Value → H) :
  ReturnsInHanded {} Tryz.checked os 12 .any (fun w args => (Rows.canExamplesSpec.pre enc Tryz.prog Tryz.f12 [] false w args ∧ laidMetH Tryz.prog laidC w) ∧ sizedMet enc Tryz.prog Tryz.f12 (OpenSpec.ofChange Rows.canExamplesSpec) false w args) (Rows.canExamplesSpec.post enc Tryz.prog Tryz.f12 false true false false) := by
 refine returnsInHanded_of_change_and (C := Tryz.checked) (X := fun w _ => laidMetH Tryz.prog laidC w) (fun _ _ _ hh h => h.of_heap hh) own started (by kernel_rfl) Tryz.func12
  (ChangeSpec.witness_shaped (enc := enc) (C := Tryz.checked) (os := os) (X := fun w _ => laidMetH Tryz.prog laidC w) false (World.doorLaid Tryz.prog 400 os) #[] 8 rfl (World.shaped_of_RefB (by kernel_rfl) (by kernel_rfl)) (by kernel_rfl) (by kernel_rfl) (by kernel_rfl) (door_met os _)) ?_
 intro W base args ds gs before hval0 hW _ _ hL _
 have hval : ∀ (j : Nat) t v, Tryz.f12.params[j]? = some t → args[j]? = some v → Value.okWide Tryz.prog W .any base t v := hval0
 have hW' := hW
 obtain ⟨p, q, hA0, hV, rfl, hfz, hnd⟩ := hW
 have hA : DataW.TrodAll enc Tryz.prog W 0 (fun _ => true) true Tryz.f12.params.toList args.toList ds p := hA0
 rw [Tryz.params12] at hA hval
 obtain ⟨hargs, rfl, rfl⟩ := trodAll_nil hA
 obtain rfl : args = #[] := by cases args; simp_all
 obtain ⟨rfl, rfl⟩ := trodVars_none hV
 clear hA0 hval0
 refine (walkCanExamples  W (of_laid hL) ).mono fun e W' ⟨he, bel⟩ => ?_
 subst he
 exact ⟨_, rfl, _, _, _, [], _, [], hW', trodAll_mk1 (shut_bool Tryz.underlying4 _),
  trodAll_mk0, rfl, bel.frame _, fun h => by cases h⟩
theorem canExamplesH : Rows.CanExamplesSaid :=
 OpenClaim.holds_of_wide 12 Tryz.f12 rfl rfl rfl rfl rfl rfl rfl ⟨rfl, rfl, rfl, rfl, rfl⟩ rfl rfl rfl rfl rfl (by kernel_rfl) Tryz.func12 (by kernel_rfl)
  (of_decide_eq_true (by kernel_rfl)) (by unfold Func.isWrapper; first | (rw [if_pos dk0]; kernel_rfl) | (rw [if_neg dk0]; exact ⟨rfl, rfl⟩))
  (fun os started H enc _ => liftCanExamples os started H enc)
theorem canExamples : Rows.CanExamplesCardSaid :=
 Claim7.holds_tied_plain_at .later [] [.funcs] true (true, "114ba46d525c684db3e97d3e5daf22351e8b02d0b87f957e3b74fac149e509e6") false
  canExamplesH (fun _ h => by cases h) (by kernel_rfl) (fun _ h => by cases h) canExamples_row_tie rfl ⟨rfl, rfl⟩ (by kernel_rfl) rfl
  (fun f fn hf hfn => by
   obtain rfl : f = 12 := Option.some.inj ((show Tryz.prog.funcNamed "oilcake/oilcakelaw08.CanExamples" = some 12 by kernel_rfl).symm.trans hf) |>.symm
   obtain rfl : fn = Tryz.f12 := (Option.some.inj (Tryz.func12.symm.trans hfn)).symm
   exact ⟨by kernel_rfl, fun j t ht => by
    rw [Tryz.params12] at ht
    have hm : t ∈ [] := by simpa using Array.mem_of_getElem? ht
    have hall : ([].all fun u => !Tryz.prog.wantsStandIn u) = true := by kernel_rfl
    exact (show Tryz.prog.wantsStandIn t = false by simpa using List.all_eq_true.1 hall t hm)⟩)
  (by kernel_rfl)
end Go.Proofs.YtjekjehgmljbgaaGreatDoor
