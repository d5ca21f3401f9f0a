/- Certificates: a list of contents with their best ways, checked by running; pure. -/
import Derived.Test.YtjekjehgmljbgaaGreatDoorMb5
import Derived.Shelf.RegionOpenPlain
import Derived.WalkKit
import Derived.Deep.LoopGhost
import Derived.Deep.Draws
import Derived.Deep.QuietTactic
import Derived.BigQuiet
import Derived.Lib.Walk
import Derived.Lib.Small
import Derived.Sort.Grow
import Derived.Shelf.SortG.Plain
import Derived.Shelf.SlicesG.CompactI
import Derived.Shelf.SlSortCmp.WholeK
set_option linter.unusedVariables false
set_option linter.unusedSimpArgs false
namespace Go.Proofs.YtjekjehgmljbgaaGreatDoor.T
open Go.RowKit Go.Proofs Go.Eng Go.Lib
set_option maxRecDepth 100000
theorem isNaN_w (x : Int) (w : World) : Calls Tryz.prog 118 #[.int .i64 x] w fun e w' => e = .returned (.bool false) ∧ w' = w := by
 go_enter Tryz.func118, Tryz.ntmps118
 go_wp2
 go_ret
 exact ⟨by simp, rfl⟩
set_option maxHeartbeats 1000000 in
theorem compare_w (x y : Int) (w : World) : Calls Tryz.prog 86 #[.int .i64 x, .int .i64 y] w fun e w' => e = .returned (.int .i64 (Lib.compareInt x y)) ∧ w' = w := by
 go_enter Tryz.func86, Tryz.ntmps86
 go_wp2_with (go_at_call 118; refine (isNaN_w _ _).mono ?_; rintro e w' ⟨rfl, hw⟩; rw [hw])
 all_goals (go_ret; refine ⟨?_, rfl⟩; unfold Lib.compareInt; (repeat' split) <;> first | rfl | (exfalso; omega))
def cmpF (f g : Nat → Int) : Nat → Nat → Int
 | _, 0 => 0
 | k, m + 1 => if Lib.compareInt (f k) (g k) = 0 then cmpF f g (k + 1) m else Lib.compareInt (f k) (g k)
theorem cmpF_skip {f g : Nat → Int} : ∀ (k i m : Nat), (∀ j, i ≤ j → j < i + k → Lib.compareInt (f j) (g j) = 0) → cmpF f g i (k + m) = cmpF f g (i + k) m
 | 0, i, m, _ => by rw [Nat.zero_add, Nat.add_zero]
 | k + 1, i, m, h => by
  rw [show k + 1 + m = (k + m) + 1 by omega]
  simp only [cmpF]
  rw [if_pos (h i (Nat.le_refl _) om0), cmpF_skip k (i + 1) m fun j h1 h2 => h j om0 om0, show i + 1 + k = i + (k + 1) by omega]
set_option maxHeartbeats 2000000 in
theorem sCompare_w (b1 o1 c b2 o2 d n : Nat) (f g : Nat → Int) (w : World) (hn : n ≤ 1000) (hc1 : ∀ j, j < n → w.cell? ⟨b1, o1 + j, none⟩ = some (.int .i64 (f j))) (hc2 : ∀ j, j < n → w.cell? ⟨b2, o2 + j, none⟩ = some (.int .i64 (g j))) :
  Calls Tryz.prog 63 #[.slice (some ⟨b1, o1, none⟩) n c, .slice (some ⟨b2, o2, none⟩) n d] w fun e w' => e = .returned (.int .i64 (cmpF f g 0 n)) ∧ w' = w := by
 go_enter Tryz.func63, Tryz.ntmps63
 go_wp2
 go_loopg [11] n (fun q s11 wr => ∃ k : Nat, k ≤ n ∧ n - k ≤ q ∧ s11 = .int .i64 k ∧ wr = w ∧ ∀ j, j < k → Lib.compareInt (f j) (g j) = 0)
 case atStart => exact ⟨0, Nat.zero_le _, by omega, rfl, rfl, fun j hj => absurd hj (Nat.not_lt_zero _)⟩
 case round =>
  obtain ⟨k, hk, hg, rfl, rfl, heq⟩ := hrel
  by_cases hlt : k < n
  ·have g1 := hc1 k hlt
   have g2 := hc2 k hlt
   have A : Aside (∀ j, j < k → Lib.compareInt (f j) (g j) = 0) := heq
   clear heq hc1 hc2
   have hcon := fun w' => compare_w (f k) (g k) w'
   generalize hxk : f k = x at g1 hcon
   generalize hyk : g k = y at g2 hcon
   have B : Aside (f k = x ∧ g k = y) := ⟨hxk, hyk⟩
   clear hxk hyk
   generalize hr : Lib.compareInt x y = r at hcon
   have R : Aside (Lib.compareInt x y = r) := hr
   clear hr
   by_cases h0 : r = 0
   ·subst h0
    go_wp2_with (go_at_call 86; refine (hcon _).mono ?_; rintro e w' ⟨rfl, rfl⟩)
    go_roundg (n - (k + 1))
    case measure => omega
    case rel =>
     refine ⟨k + 1, by omega, by omega, by go_num, rfl, fun j hj => ?_⟩
     by_cases e : j = k
     ·subst e
      rw [B.out.1, B.out.2]; exact R.out
     ·exact A.out j om0
   ·go_wp2_with (go_at_call 86; refine (hcon _).mono ?_; rintro e w' ⟨rfl, rfl⟩)
    go_ret
    refine ⟨?_, rfl⟩
    obtain ⟨m, hm⟩ : ∃ m, n = k + (m + 1) := ⟨n - k - 1, by omega⟩
    rw [hm, cmpF_skip k 0 (m + 1) fun j _ h2 => A.out j om0, Nat.zero_add]
    simp only [cmpF]
    rw [B.out.1, B.out.2, R.out, if_neg h0]
    rfl
  ·obtain rfl : k = n := by omega
   clear hc1 hc2
   have A : Aside (∀ j, j < k → Lib.compareInt (f j) (g j) = 0) := heq
   clear heq
   go_wp2
   go_ret
   refine ⟨?_, rfl⟩
   have := cmpF_skip k 0 0 fun j _ h2 => A.out j om0
   rw [Nat.add_zero] at this
   rw [this]
   rfl
set_option maxHeartbeats 1000000 in
theorem ins0_w (a : Option Addr) (cap : Nat) (fv : Value) (w : World) : Calls Tryz.prog 126 #[.slice a 0 cap, .int .i64 0, .int .i64 0, fv] w fun e w' => e = .returned (.tuple #[]) ∧ w' = w := by
 go_enter Tryz.func126, Tryz.ntmps126
 go_wp2
 go_loopg [8] 0 (fun _ s8 wr => s8 = .int .i64 1 ∧ wr = w)
 case atStart => exact ⟨rfl, rfl⟩
 case round =>
  obtain ⟨rfl, rfl⟩ := hrel
  go_wp2
  go_end0
  exact ⟨rfl, rfl⟩
set_option maxHeartbeats 1000000 in
theorem pdq0_w (a : Option Addr) (cap : Nat) (lim : Int) (fv : Value) (w : World) : Calls Tryz.prog 103 #[.slice a 0 cap, .int .i64 0, .int .i64 0, .int .i64 lim, fv] w fun e w' => e = .returned (.tuple #[]) ∧ w' = w := by
 go_enter Tryz.func103, Tryz.ntmps103
 go_wp2
 go_loopg [1, 2] 0 (fun _ s1 s2 wr => s1 = .int .i64 0 ∧ s2 = .int .i64 0 ∧ wr = w)
 case atStart => exact ⟨rfl, rfl, rfl⟩
 case round =>
  obtain ⟨rfl, rfl, rfl⟩ := hrel
  go_wp2_with (go_at_call 126; refine (ins0_w _ _ _ _).mono ?_; rintro e w' ⟨rfl, rfl⟩)
  (try simp only [Exit.inBlock, Exit.then]); refine bodyPost_ret (results_none rfl _ _ _) rfl ?_
  exact ⟨rfl, rfl⟩
set_option maxHeartbeats 1000000 in
theorem sort0_w (hl : ∀ w, Calls Tryz.prog 104 #[.int .u64 0] w fun e w' => (∃ n : Int, e = .returned (.int .i64 n)) ∧ w' = w) (a : Option Addr) (cap : Nat) (fv : Value) (w : World) : Calls Tryz.prog 61 #[.slice a 0 cap, fv] w fun e w' => e = .returned (.tuple #[]) ∧ w' = w := by
 go_enter Tryz.func61, Tryz.ntmps61
 go_wp2_with (first | (go_at_call 104; refine (hl _).mono ?_; rintro e w' ⟨⟨n, rfl⟩, rfl⟩) | (go_at_call 103; refine (pdq0_w _ _ _ _ _).mono ?_; rintro e w' ⟨rfl, rfl⟩))
 go_end0
 exact ⟨rfl, rfl⟩
def coF (x : Co) (j : Nat) : Int := x.g (j + 1)
def cmpC (x y : Co) : Int := cmpF (coF x) (coF y) 0 3
theorem two_first (W : World) (xs ys : Array Value) (T T' n i : Nat) (fr fr' : Nat × Nat) : (((W.alloc (.cells xs T fr)).alloc (.cells ys T' fr')).drewN n).cell? ⟨W.heap.size, i, none⟩ = xs[i]? := by
 unfold World.cell? World.drewN World.alloc
 simp [Array.getElem?_push]
theorem two_second (W : World) (xs ys : Array Value) (T T' n i : Nat) (fr fr' : Nat × Nat) : (((W.alloc (.cells xs T fr)).alloc (.cells ys T' fr')).drewN n).cell? ⟨W.heap.size + 1, i, none⟩ = ys[i]? := by
 have h : (((W.alloc (.cells xs T fr)).alloc (.cells ys T' fr')).drewN n).heap[W.heap.size + 1]? = some (.cells ys T' fr') := by
  show ((W.heap.push _).push _)[W.heap.size + 1]? = _
  rw [Array.getElem?_push, if_pos (by simp)]
 unfold World.cell?
 simp only [h]
 rfl
theorem co_at (x : Co) (j : Nat) (h : j < 3) : (#[Value.int .i64 x.a, .int .i64 x.b, .int .i64 x.c, .int .i64 x.d] : Array Value)[1 + j]? = some (.int .i64 (coF x j)) := by
 obtain rfl | rfl | rfl : j = 0 ∨ j = 1 ∨ j = 2 := by omega
 all_goals rfl
set_option maxHeartbeats 2000000 in
theorem before1_w (x y : Co) (W : World) : Calls Tryz.prog 62 #[.agg x.cells.toArray, .agg y.cells.toArray] W fun e w' => e = .returned (.int .i64 (cmpC x y)) ∧ ∃ q os', w' = Sort.grow (W.drewN q) os' := by
 have hcon := fun b1 b2 w' h1 h2 => sCompare_w b1 1 3 b2 1 3 3 (coF x) (coF y) w' dc h1 h2
 change ∀ b1 b2 w' h1 h2, Calls _ _ _ _ (fun e w'' => e = .returned (.int .i64 (cmpC x y)) ∧ _) at hcon
 generalize cmpC x y = r at hcon ⊢
 unfold Co.cells
 go_enter Tryz.func62, Tryz.ntmps62
 go_wp2
 go_quiet ((go_at_call 63; exact Calls.quiet_of_same (hcon _ _ _ (fun j hj => (two_first _ _ _ _ _ _ _ _ _).trans (co_at x j hj)) (fun j hj => (two_second _ _ _ _ _ _ _ _ _).trans (co_at y j hj)))))
 go_wp2
 go_ret
 exact ⟨rfl, nq, _, by rw [Sort.alloc_eq_grow, Sort.alloc_eq_grow, Sort.grow_grow]; rfl⟩
end Go.Proofs.YtjekjehgmljbgaaGreatDoor.T
namespace Go.Proofs.YtjekjehgmljbgaaGreatDoor.T
open Go.RowKit Go.Proofs Go.Eng
set_option maxRecDepth 100000
set_option maxHeartbeats 1000000
def Co.lt (x y : Co) : Prop := x.b < y.b ∨ x.b = y.b ∧ (x.c < y.c ∨ x.c = y.c ∧ x.d < y.d)
instance (x y : Co) : Decidable (x.lt y) := by unfold Co.lt; infer_instance
theorem Co.lt_irr (x : Co) : ¬ x.lt x := by unfold Co.lt; omega
theorem Co.lt_tr {x y z : Co} (h : x.lt y) (h' : y.lt z) : x.lt z := by unfold Co.lt at *; omega
theorem cL_lt {x y : Int} : Lib.compareInt x y < 0 ↔ x < y := by
 unfold Lib.compareInt; (repeat' split) <;> omega
theorem cL_z {x y : Int} : Lib.compareInt x y = 0 ↔ x = y := by
 unfold Lib.compareInt; (repeat' split) <;> omega
theorem cmpC_lt {x y : Co} : cmpC x y < 0 ↔ x.lt y := by
 unfold cmpC Co.lt
 simp only [cmpF]
 show (if Lib.compareInt x.b y.b = 0 then (if Lib.compareInt x.c y.c = 0 then (if Lib.compareInt x.d y.d = 0 then 0 else Lib.compareInt x.d y.d) else Lib.compareInt x.c y.c) else Lib.compareInt x.b y.b) < 0 ↔ _
 simp only [cL_z]
 split
 ·split
  ·split
   ·omega
   ·rw [cL_lt]; omega
  ·rw [cL_lt]; omega
 ·rw [cL_lt]; omega
theorem co_ext : ∀ {l m : List Co}, l.Pairwise Co.lt → m.Pairwise Co.lt → (∀ x, x ∈ l ↔ x ∈ m) → l = m
 | [], [], _, _, _ => rfl
 | [], y :: m, _, _, h => by have := (h y).2 List.mem_cons_self; cases this
 | x :: l, [], _, _, h => by have := (h x).1 List.mem_cons_self; cases this
 | x :: l, y :: m, h1, h2, h => by
  rw [List.pairwise_cons] at h1 h2
  have hxy : x = y := by
   rcases List.mem_cons.1 ((h x).1 List.mem_cons_self) with h3 | h3
   ·exact h3
   ·rcases List.mem_cons.1 ((h y).2 List.mem_cons_self) with h4 | h4
    ·exact h4.symm
    ·exact absurd (Co.lt_tr (h1.1 y h4) (h2.1 x h3)) (Co.lt_irr x)
  subst hxy
  rw [co_ext h1.2 h2.2 fun z => ?_]
  have hz := h z
  simp only [List.mem_cons] at hz
  constructor
  ·intro h3
   rcases hz.1 (.inr h3) with h4 | h4
   ·subst h4; exact absurd (h1.1 _ h3) (Co.lt_irr _)
   ·exact h4
  ·intro h3
   rcases hz.2 (.inr h3) with h4 | h4
   ·subst h4; exact absurd (h2.1 _ h3) (Co.lt_irr _)
   ·exact h4
structure Cn.IsBef (c : Cn) (f t : Nat) (x : Co) : Prop where
 inn : c.In x
 can : c.canB x f t = true
 to : c.to x f t = c.co
structure Cn.Fp (c : Cn) (f t : Nat) : Prop where
 fb : f ≤ c.n
 tb : t ≤ c.n
 ne : f ≠ t
theorem Cn.IsBef.gs {c : Cn} {f t : Nat} {x : Co} (h : c.IsBef f t x) (hok : c.Ok) (hp : c.Fp f t) : c.co.g t = x.g t + c.amt x f t ∧ c.co.g f = x.g f - c.amt x f t ∧ ∀ k, k < 4 → k ≠ f → k ≠ t → c.co.g k = x.g k := by
 have h3 := hok.n3
 have h1 := hp.fb
 have h2 := hp.tb
 have hne := hp.ne
 refine ⟨?_, ?_, fun k hk h4 h5 => ?_⟩
 ·rw [← h.to, c.to_g x om0 om0 om0, if_pos rfl]
 ·rw [← h.to, c.to_g x om0 om0 om0, if_neg hne, if_pos rfl]
 ·rw [← h.to, c.to_g x om0 om0 hk, if_neg h5, if_neg h4]
theorem Cn.IsBef.amt {c : Cn} {f t : Nat} {x : Co} (h : c.IsBef f t x) (hok : c.Ok) (hp : c.Fp f t) : 0 < c.amt x f t ∧ c.amt x f t ≤ 20 := by
 have h3 := hok.n3
 have h1 := hp.fb
 have h2 := hp.tb
 have hne := hp.ne
 refine ⟨(Cn.canB_iff.1 h.can).2, ?_⟩
 unfold Cn.amt Cn.lack
 by_cases hf : f = 0
 ·have := h.inn.lo t om0
  obtain ⟨t', rfl⟩ : ∃ t', t = t' + 1 := ⟨t - 1, by omega⟩
  rw [c.room_s]
  have := hok.s t' om0
  omega
 ·have := h.inn.hi f h1
  obtain ⟨f', rfl⟩ : ∃ f', f = f' + 1 := ⟨f - 1, by omega⟩
  rw [c.room_s] at this
  have := hok.s f' om0
  omega
theorem Co.sm_g (x : Co) : x.sm = x.g 0 + x.g 1 + x.g 2 + x.g 3 := rfl
theorem Cn.IsBef.sm {c : Cn} {f t : Nat} {x : Co} (h : c.IsBef f t x) (hok : c.Ok) (hp : c.Fp f t) : x.sm = c.co.sm := by
 have h3 := hok.n3
 have h1 := hp.fb
 have h2 := hp.tb
 have hne := hp.ne
 obtain ⟨ht, hf, hk⟩ := h.gs hok hp
 have hk0 := hk 0 dc
 have hk1 := hk 1 dc
 have hk2 := hk 2 dc
 have hk3 := hk 3 dc
 have hf4 := lt4 (show f < 4 by omega)
 have ht4 := lt4 (show t < 4 by omega)
 rw [Co.sm_g, Co.sm_g]
 rcases hf4 with rfl | rfl | rfl | rfl <;> rcases ht4 with rfl | rfl | rfl | rfl <;> first | exact absurd rfl hne | (simp at hk0 hk1 hk2 hk3; omega)
theorem Cn.IsBef.tot {c : Cn} {f t : Nat} {x y : Co} (h : c.IsBef f t x) (h' : c.IsBef f t y) (hok : c.Ok) (hp : c.Fp f t) (hne : x ≠ y) : x.lt y ∨ y.lt x := by
 have h1 := (h.sm hok hp).trans (h'.sm hok hp).symm
 obtain ⟨a, b, c1, d⟩ := x
 obtain ⟨a', b', c', d'⟩ := y
 have h2 : ¬ (b = b' ∧ c1 = c' ∧ d = d') := by
  rintro ⟨rfl, rfl, rfl⟩
  refine hne ?_
  have : a = a' := by simp only [Co.sm] at h1; omega
  rw [this]
 unfold Co.lt
 simp only
 omega
structure Cn.BefS (c : Cn) (f t : Nat) (L : List Co) : Prop where
 srt : L.Pairwise Co.lt
 mem : ∀ x, x ∈ L ↔ c.IsBef f t x
def Cn.Bef (c : Cn) (p : Po) (e : Int) (L : List Co) : Prop := if c.okB = true then (if c.vldB p = true then e = 0 ∧ c.BefS p.f.toNat p.t.toNat L else e = 81 ∧ L = []) else e = 80 ∧ L = []
theorem Cn.Bef.uniq {c : Cn} {p : Po} {e e' : Int} {L L' : List Co} (h : c.Bef p e L) (h' : c.Bef p e' L') : e = e' ∧ L = L' := by
 unfold Cn.Bef at h h'
 by_cases h1 : c.okB = true
 ·rw [if_pos h1] at h h'
  by_cases h2 : c.vldB p = true
  ·rw [if_pos h2] at h h'
   exact ⟨h.1.trans h'.1.symm, co_ext h.2.srt h'.2.srt fun x => (h.2.mem x).trans (h'.2.mem x).symm⟩
  ·rw [if_neg h2] at h h'
   exact ⟨h.1.trans h'.1.symm, h.2.trans h'.2.symm⟩
 ·rw [if_neg h1] at h h'
  exact ⟨h.1.trans h'.1.symm, h.2.trans h'.2.symm⟩
def Cn.old (c : Cn) (f t n : Nat) : Co := (c.co.w f (c.co.g f + (n : Int))).w t (c.co.g t - (n : Int))
theorem Cn.old_g (c : Cn) (n : Nat) {f t k : Nat} (hf : f < 4) (ht : t < 4) (hk : k < 4) : (c.old f t n).g k = if k = t then c.co.g t - n else if k = f then c.co.g f + n else c.co.g k := by
 unfold Cn.old
 rw [Co.g_w _ _ ht hk, Co.g_w _ _ hf hk]
theorem Cn.IsBef.old {c : Cn} {f t : Nat} {x : Co} (h : c.IsBef f t x) (hok : c.Ok) (hp : c.Fp f t) : x = c.old f t (c.amt x f t).toNat := by
 have h3 := hok.n3
 have h1 := hp.fb
 have h2 := hp.tb
 have hne := hp.ne
 have ha := h.amt hok hp
 obtain ⟨ht, hf, hk⟩ := h.gs hok hp
 refine Co.ext4 fun k hk4 => ?_
 rw [c.old_g _ om0 om0 hk4]
 split
 ·rename_i e; subst e; omega
 ·split
  ·rename_i e; subst e; omega
  ·exact (hk k hk4 (by assumption) (by assumption)).symm
theorem Cn.old_inj {c : Cn} {f t n m : Nat} (hok : c.Ok) (hp : c.Fp f t) (h : c.old f t n = c.old f t m) : n = m := by
 have h3 := hok.n3
 have h1 := hp.fb
 have h2 := hp.tb
 have e : (c.old f t n).g t = (c.old f t m).g t := by rw [h]
 rw [c.old_g _ om0 om0 om0, c.old_g _ om0 om0 om0, if_pos rfl, if_pos rfl] at e
 omega
theorem Cn.old_in {c : Cn} {f t n : Nat} (hok : c.Ok) (hp : c.Fp f t) (h : ∀ k, k ≤ c.n → 0 ≤ (c.old f t n).g k ∧ (c.old f t n).g k ≤ c.room k) : c.In (c.old f t n) := by
 have h3 := hok.n3
 have h1 := hp.fb
 have h2 := hp.tb
 have hz : ∀ k, c.n < k → k < 4 → (c.old f t n).g k = 0 := fun k hk hk4 => by
  rw [c.old_g _ om0 om0 hk4, if_neg om0, if_neg om0]
  exact hok.co_in.z k hk hk4
 exact ⟨fun k hk => by
  by_cases hkn : k ≤ c.n
  ·exact (h k hkn).1
  ·rw [hz k om0 hk]; exact Int.le_refl _, fun k hk => (h k hk).2, hz⟩
structure Cn.BefI (c : Cn) (f t m : Nat) (L : List Co) : Prop where
 len : L.length ≤ m
 nd : L.Nodup
 mem : ∀ x, x ∈ L ↔ c.IsBef f t x ∧ ∃ n, n < m ∧ x = c.old f t n
theorem Cn.BefI.nil (c : Cn) (f t : Nat) : c.BefI f t 0 [] := ⟨Nat.le_refl _, List.nodup_nil, fun x => ⟨fun h => (by cases h), fun ⟨_, n, h, _⟩ => om0⟩⟩
theorem Cn.BefI.skip {c : Cn} {f t m : Nat} {L : List Co} (h : c.BefI f t m L) (hn : ¬ c.IsBef f t (c.old f t m)) : c.BefI f t (m + 1) L := ⟨by have := h.len; omega, h.nd, fun x => (h.mem x).trans ⟨fun ⟨h1, n, h2, h3⟩ => ⟨h1, n, by omega, h3⟩, fun ⟨h1, n, h2, h3⟩ => by
 by_cases hnm : n = m
 ·subst hnm; rw [h3] at h1; exact absurd h1 hn
 ·exact ⟨h1, n, by omega, h3⟩⟩⟩
theorem Cn.BefI.add {c : Cn} {f t m : Nat} {L : List Co} (hok : c.Ok) (hp : c.Fp f t) (h : c.BefI f t m L) (hn : c.IsBef f t (c.old f t m)) : c.BefI f t (m + 1) (L ++ [c.old f t m]) := by
 refine ⟨by have := h.len; rw [List.length_append]; simp only [List.length_singleton]; omega, ?_, fun x => ?_⟩
 ·rw [List.nodup_append]
  refine ⟨h.nd, by simp, fun x hx y hy e => ?_⟩
  simp only [List.mem_singleton] at hy
  subst hy
  obtain ⟨_, n, h2, h3⟩ := (h.mem x).1 hx
  rw [h3] at e
  have := c.old_inj hok hp e
  omega
 ·rw [List.mem_append, List.mem_singleton, h.mem x]
  constructor
  ·rintro (⟨h1, n, h2, h3⟩ | rfl)
   ·exact ⟨h1, n, by omega, h3⟩
   ·exact ⟨hn, m, by omega, rfl⟩
  ·rintro ⟨h1, n, h2, h3⟩
   by_cases hnm : n = m
   ·subst hnm; exact .inr h3
   ·exact .inl ⟨h1, n, by omega, h3⟩
theorem Cn.BefI.done {c : Cn} {f t : Nat} {L M : List Co} (hok : c.Ok) (hp : c.Fp f t) (h : c.BefI f t 21 L) (hm : M.Perm L) (hs : ∀ i j, i < j → j < M.length → ¬ (M.getD j Co.z).lt (M.getD i Co.z)) : c.BefS f t M := by
 have hmem : ∀ x, x ∈ M ↔ c.IsBef f t x := fun x => by
  rw [hm.mem_iff, h.mem x]
  refine ⟨fun h => h.1, fun h => ⟨h, _, ?_, h.old hok hp⟩⟩
  have := h.amt hok hp
  omega
 refine ⟨?_, hmem⟩
 rw [List.pairwise_iff_getElem]
 intro i j hi hj hij
 have h1 := hs i j hij hj
 simp only [List.getD_eq_getElem?_getD, hi, hj, List.getElem?_eq_getElem, Option.getD_some] at h1
 have hne : M[i] ≠ M[j] := fun e => by
  have hnd : M.Nodup := hm.nodup_iff.2 h.nd
  rw [List.nodup_iff_pairwise_ne, List.pairwise_iff_getElem] at hnd
  exact hnd i j hi hj hij e
 rcases ((hmem _).1 (List.getElem_mem hi)).tot ((hmem _).1 (List.getElem_mem hj)) hok hp hne with h2 | h2
 ·exact h2
 ·exact absurd h2 h1
def bE (b : Bool) : List Value := [.bool b]
def bRow (F : Nat → Bool) : List Value := rowOf bE F 21
def setF (F : Nat → Bool) (n : Nat) : Nat → Bool := fun k => if k = n then true else F k
def FlI (c : Cn) (rs : List Rl) (k : Nat) (F : Nat → Bool) : Prop := ∀ n, n < 21 → (F n = true ↔ ∃ j r, j < k ∧ rs[j]? = some r ∧ (n : Int) ∈ (c.of r.x).inn)
def FlJ (F0 : Nat → Bool) (xs : List Int) (i : Nat) (F : Nat → Bool) : Prop := ∀ n, n < 21 → (F n = true ↔ F0 n = true ∨ ∃ t, t < i ∧ xs.getD t 0 = (n : Int))
theorem FlJ.zero (F0 : Nat → Bool) (xs : List Int) : FlJ F0 xs 0 F0 := fun n _ => ⟨.inl, fun h => h.elim id fun ⟨t, h, _⟩ => absurd h (Nat.not_lt_zero _)⟩
theorem FlJ.step {F0 F : Nat → Bool} {xs : List Int} {i z : Nat} (h : FlJ F0 xs i F) (hz : xs.getD i 0 = (z : Int)) : FlJ F0 xs (i + 1) (setF F z) := fun n hn => by
 unfold setF
 by_cases he : n = z
 ·subst he
  simp only [if_pos, true_iff]
  exact .inr ⟨i, Nat.lt_succ_self _, hz⟩
 ·rw [if_neg he, h n hn]
  constructor
  ·rintro (h1 | ⟨t, h1, h2⟩)
   ·exact .inl h1
   ·exact .inr ⟨t, by omega, h2⟩
  ·rintro (h1 | ⟨t, h1, h2⟩)
   ·exact .inl h1
   ·by_cases ht : t = i
    ·subst ht; rw [hz] at h2; exact absurd om0 he
    ·exact .inr ⟨t, by omega, h2⟩
theorem FlI.step {c : Cn} {rs : List Rl} {k : Nat} {r : Rl} {F F2 : Nat → Bool} (h : FlI c rs k F) (hr : rs[k]? = some r) (h2 : FlJ F (c.of r.x).inn (c.of r.x).inn.length F2) : FlI c rs (k + 1) F2 := fun n hn => by
 rw [h2 n hn, h n hn]
 constructor
 ·rintro (⟨j, r', h1, h3, h4⟩ | ⟨t, h1, h3⟩)
  ·exact ⟨j, r', by omega, h3, h4⟩
  ·refine ⟨k, r, Nat.lt_succ_self _, hr, ?_⟩
   rw [← h3, List.getD_eq_getElem?_getD, List.getElem?_eq_getElem h1]
   exact List.getElem_mem _
 ·rintro ⟨j, r', h1, h3, h4⟩
  by_cases hj : j = k
  ·subst hj
   rw [hr] at h3
   cases h3
   obtain ⟨t, ht, he⟩ := List.getElem_of_mem h4
   exact .inr ⟨t, ht, by rw [List.getD_eq_getElem?_getD, List.getElem?_eq_getElem ht]; exact he⟩
  ·exact .inl ⟨j, r', by omega, h3, h4⟩
theorem FlI.made {c : Cn} {rs : List Rl} {F : Nat → Bool} (h : FlI c rs rs.length F) (hR : c.Rcd (rs.map Rl.zz)) {n : Nat} (hn : n < 21) : F n = true ↔ c.mkP (n : Int) := by
 rw [h n hn]
 constructor
 ·rintro ⟨j, r, _, h2, h3⟩
  exact ⟨r.w, r.x, hR.best _ (List.mem_of_getElem? (zz_at h2)), h3⟩
 ·rintro ⟨w, y, hb, hm⟩
  obtain ⟨j, hj⟩ := List.getElem?_of_mem (hR.all y w hb)
  obtain ⟨r, hr, hx, _⟩ := zz_of hj
  simp only at hx
  exact ⟨j, r, (List.getElem?_eq_some_iff.1 hr).1, hr, by rw [hx]; exact hm⟩
open Classical in
noncomputable def Cn.madeK (c : Cn) (n : Nat) : List Int := ((List.range n).map fun (k : Nat) => (k : Int)).filter fun n => decide (c.mkP n)
noncomputable def Cn.mdL (c : Cn) : List Int := if c.okB then c.madeL else []
def MadeV (c : Cn) (v : Value) (Hn : List Blk) : Prop := ∃ a cap, v = .tuple #[.slice a c.mdL.length cap, .int .i64 c.err] ∧ NewRow 3 1 c.mdL.length (iv c.mdL) (.slice a c.mdL.length cap) Hn
theorem MadeV.bad {c : Cn} (h : c.okB = false) : MadeV c (.tuple #[.slice none 0 0, .int .i64 80]) [] := by
 have h1 : c.mdL = [] := by unfold Cn.mdL; rw [h]; rfl
 have h2 : c.err = 80 := by unfold Cn.err; rw [h]; rfl
 unfold MadeV
 rw [h1, h2]
 exact ⟨none, 0, rfl, none, 0, rfl, Nat.le_refl _, .inr ⟨rfl, rfl, rfl⟩⟩
theorem MadeV.ok {c : Cn} {a : Option Addr} {cap : Nat} {Hn : List Blk} (h : c.okB = true) (hr : NewRow 3 1 c.madeL.length (iv c.madeL) (.slice a c.madeL.length cap) Hn) : MadeV c (.tuple #[.slice a c.madeL.length cap, .int .i64 0]) Hn := by
 have h1 : c.mdL = c.madeL := by unfold Cn.mdL; rw [h]; rfl
 have h2 : c.err = 0 := by unfold Cn.err; rw [h]; rfl
 unfold MadeV
 rw [h1, h2]
 exact ⟨a, cap, rfl, hr⟩
noncomputable def Cn.fl (c : Cn) (n : Int) : Int := match c.few (c.someP n) with | some w => (w.l.length : Int) | none => 0
noncomputable def Cn.farS (c : Cn) (b : Int × Int) (n : Int) : Int × Int := if b.2 < c.fl n then (n, c.fl n) else b
noncomputable def Cn.farT (c : Cn) (k : Nat) : Int × Int := (c.madeL.take k).foldl c.farS (0, -1)
theorem Cn.farT_succ {c : Cn} {k : Nat} (h : k < c.madeL.length) : c.farT (k + 1) = c.farS (c.farT k) (c.madeL.getD k 0) := by
 unfold Cn.farT
 rw [List.take_add_one, List.getElem?_eq_getElem h]
 simp only [Option.toList_some]
 rw [List.foldl_append]
 simp [List.getD_eq_getElem?_getD, h]
def FarV (c : Cn) (v : Value) : Prop := v = .tuple #[.int .i64 (if c.okB then (c.farT c.madeL.length).1 else 0), .int .i64 (if c.okB then (c.farT c.madeL.length).2 else 0), .int .i64 c.err]
theorem FarV.bad {c : Cn} {e : Int} (h : c.okB = false) (he : c.err = e) : FarV c (.tuple #[.int .i64 0, .int .i64 0, .int .i64 e]) := by
 unfold FarV
 rw [h, he]
 rfl
theorem FarV.ok {c : Cn} (h : c.okB = true) (he : c.err = 0) : FarV c (.tuple #[.int .i64 (c.farT c.madeL.length).1, .int .i64 (c.farT c.madeL.length).2, .int .i64 0]) := by
 unfold FarV
 rw [h, he]
 rfl
theorem Cn.someP_iff {c : Cn} {n : Int} {x : Co} : c.someP n x = true ↔ n ∈ (c.of x).inn := by unfold Cn.someP; exact decide_eq_true_iff
theorem Cn.made_pos {c : Cn} (hok : c.Ok) : 0 < c.madeL.length := by
 obtain ⟨n, hn⟩ := Cn.made_ne hok
 exact List.length_pos_of_mem ((Cn.madeL_mem hok).2 hn)
theorem Cn.made_at {c : Cn} (hok : c.Ok) {k : Nat} (hk : k < c.madeL.length) : c.mkP (c.madeL.getD k 0) := by
 rw [List.getD_eq_getElem?_getD, List.getElem?_eq_getElem hk]
 exact (Cn.madeL_mem hok).1 (List.getElem_mem hk)
end Go.Proofs.YtjekjehgmljbgaaGreatDoor.T
namespace Go.Eng
open Go.RowKit
section
variable {C : Ctx} {F : Fence} {n : Nat} {ds : List Deferred} {ops : Array Oper} {fuel : Nat} {listed : Array Bool} {e : Env} {H H' H0 M' L : List Blk} {M : Env → List Blk → Prop} {x : Blk}
theorem St.hsub {w : World} (hs : HSub H H') (hw : St C H w) : St C H' w := ⟨hw.1, hs _ _ hw.2, hw.3⟩
theorem WH_sub (hs : HSub H H') (h0 : HSub H' H0) (h : WH C F n ds ops M H0 fuel listed e H') : WH C F n ds ops M H0 fuel listed e H :=
 ⟨fun _ hw => St.hsub h0 (St.hsub hs hw), fun w hw => h.2 w (St.hsub hs hw)⟩
theorem WH_pull (x : Blk) (hp : H.Perm (x :: M')) (h : WH C F n ds ops M H0 fuel listed e (x :: M')) : WH C F n ds ops M H0 fuel listed e H :=
 ⟨fun w hw => h.1 w ⟨hw.1, hw.2.perm hp.symm, hw.3⟩, fun w hw => h.2 w ⟨hw.1, hw.2.perm hp.symm, hw.3⟩⟩
theorem WH_pullL (L : List Blk) (hp : H.Perm (L ++ M')) (h : WH C F n ds ops M H0 fuel listed e (L ++ M')) : WH C F n ds ops M H0 fuel listed e H :=
 ⟨fun w hw => h.1 w ⟨hw.1, hw.2.perm hp.symm, hw.3⟩, fun w hw => h.2 w ⟨hw.1, hw.2.perm hp.symm, hw.3⟩⟩
theorem WH_as (h : ∀ X : Nat → Array Bool → Env → List Blk → Prop, X = WH C F n ds ops M H0 → X fuel listed e H) : WH C F n ds ops M H0 fuel listed e H := h _ rfl
theorem WH_of {X : Nat → Array Bool → Env → List Blk → Prop} {fuel' : Nat} {listed' : Array Bool} (hX : X = WH C F n ds ops M H0) (hf : fuel = fuel') (hl : listed = listed') (h : X fuel' listed' e H) : WH C F n ds ops M H0 fuel listed e H := by subst hX hf hl; exact h
theorem PulL.base : (L ++ M').Perm (L ++ M') := List.Perm.refl _
theorem PulL.base1 : L.Perm (L ++ []) := by rw [List.append_nil]
theorem PulL.cons {y : Blk} (h : H.Perm (L ++ M')) : (y :: H).Perm (L ++ (y :: M')) := (h.cons y).trans List.perm_middle.symm
theorem PulL.app {X : List Blk} (h : H.Perm (L ++ M')) : (X ++ H).Perm (L ++ (X ++ M')) := (h.append_left X).trans (by rw [← List.append_assoc, ← List.append_assoc]; exact List.perm_append_comm.append_right M')
theorem PulE.one : L.Perm ([] ++ L) := List.Perm.refl _
theorem PulE.hd {M : List Blk} : (L ++ M).Perm (M ++ L) := List.perm_append_comm
theorem PulE.snd {X : List Blk} : (X ++ L).Perm (X ++ L) := List.Perm.refl _
theorem PulE.cons {y : Blk} (h : H.Perm (M' ++ L)) : (y :: H).Perm ((y :: M') ++ L) := h.cons y
theorem PulE.app {X : List Blk} (h : H.Perm (M' ++ L)) : (X ++ H).Perm ((X ++ M') ++ L) := by rw [List.append_assoc]; exact h.append_left X
theorem WS_pullE {all : Array Oper} {Q : Exit → Env → List Blk → Prop} {rest : List Oper} (L : List Blk) (hp : H.Perm (M' ++ L)) (h : WS C F n ds all Q rest e (M' ++ L)) : WS C F n ds all Q rest e H := fun w hw a ha => h w ⟨hw.1, hw.2.perm hp.symm, hw.3⟩ a ha
end
end Go.Eng
namespace Go.Proofs.YtjekjehgmljbgaaGreatDoor.T
open Go.RowKit Go.Proofs Go.Eng Go.Shelf
set_option maxRecDepth 100000
set_option maxHeartbeats 1000000
def soR : Go.Shelf.Ren := ⟨fun n => match n with
 | 53 => 90
 | 59 => 150
 | 63 => 119
 | 64 => 104
 | 68 => 118
 | 70 => 144
 | 71 => 145
 | 72 => 146
 | 73 => 147
 | 74 => 148
 | 75 => 149
 | 76 => 151
 | 77 => 152
 | 78 => 134
 | 79 => 135
 | 88 => 165
 | 89 => 154
 | 90 => 155
 | 91 => 166
 | 92 => 167
 | 96 => 170
 | _ => 0, fun n => match n with
 | 0 => 0
 | 3 => 3
 | 4 => 4
 | 5 => 5
 | 9 => 9
 | 22 => 22
 | 23 => 3
 | 44 => 201
 | 51 => 176
 | 60 => 196
 | 61 => 197
 | 67 => 169
 | 69 => 205
 | 75 => 223
 | 79 => 227
 | 83 => 232
 | 84 => 233
 | _ => 0, fun x => x⟩
theorem soL : SlLaysN.n53 Tryz.prog soR where
 mixed := by kernel_rfl
 f53 := ⟨Tryz.f90.name, by kernel_rfl, (Tryz.func90).trans (congrArg some (by kernel_rfl))⟩
 f59 := ⟨Tryz.f150.name, by kernel_rfl, (Tryz.func150).trans (congrArg some (by kernel_rfl))⟩
 f63 := ⟨Tryz.f119.name, by kernel_rfl, (Tryz.func119).trans (congrArg some (by kernel_rfl))⟩
 f64 := (Tryz.func104).trans (congrArg some (by kernel_rfl))
 f68 := ⟨Tryz.f118.name, by kernel_rfl, (Tryz.func118).trans (congrArg some (by kernel_rfl))⟩
 f70 := ⟨Tryz.f144.name, by kernel_rfl, (Tryz.func144).trans (congrArg some (by kernel_rfl))⟩
 f71 := ⟨Tryz.f145.name, by kernel_rfl, (Tryz.func145).trans (congrArg some (by kernel_rfl))⟩
 f72 := ⟨Tryz.f146.name, by kernel_rfl, (Tryz.func146).trans (congrArg some (by kernel_rfl))⟩
 f73 := ⟨Tryz.f147.name, by kernel_rfl, (Tryz.func147).trans (congrArg some (by kernel_rfl))⟩
 f74 := ⟨Tryz.f148.name, by kernel_rfl, (Tryz.func148).trans (congrArg some (by kernel_rfl))⟩
 f75 := ⟨Tryz.f149.name, by kernel_rfl, (Tryz.func149).trans (congrArg some (by kernel_rfl))⟩
 f76 := ⟨Tryz.f151.name, by kernel_rfl, (Tryz.func151).trans (congrArg some (by kernel_rfl))⟩
 f77 := ⟨Tryz.f152.name, by kernel_rfl, (Tryz.func152).trans (congrArg some (by kernel_rfl))⟩
 f78 := (Tryz.func134).trans (congrArg some (by kernel_rfl))
 f79 := (Tryz.func135).trans (congrArg some (by kernel_rfl))
 f88 := ⟨Tryz.f165.name, by kernel_rfl, (Tryz.func165).trans (congrArg some (by kernel_rfl))⟩
 f89 := (Tryz.func154).trans (congrArg some (by kernel_rfl))
 f90 := (Tryz.func155).trans (congrArg some (by kernel_rfl))
 f91 := ⟨Tryz.f166.name, by kernel_rfl, (Tryz.func166).trans (congrArg some (by kernel_rfl))⟩
 f92 := ⟨Tryz.f167.name, by kernel_rfl, (Tryz.func167).trans (congrArg some (by kernel_rfl))⟩
 f96 := ⟨Tryz.f170.name, by kernel_rfl, (Tryz.func170).trans (congrArg some (by kernel_rfl))⟩
 t0 := by kernel_rfl
 a0 := fun w => by kernel_rfl
 z0 := fun w => by kernel_rfl
 v0 := fun w => by kernel_rfl
 t3 := by kernel_rfl
 a3 := fun w => by kernel_rfl
 z3 := fun w => by kernel_rfl
 v3 := fun w => by kernel_rfl
 t4 := by kernel_rfl
 a4 := fun w => by kernel_rfl
 z4 := fun w => by kernel_rfl
 v4 := fun w => by kernel_rfl
 t5 := by kernel_rfl
 a5 := fun w => by kernel_rfl
 z5 := fun w => by kernel_rfl
 v5 := fun w => by kernel_rfl
 t9 := by kernel_rfl
 a9 := fun w => by kernel_rfl
 z9 := fun w => by kernel_rfl
 v9 := fun w => by kernel_rfl
 t22 := by kernel_rfl
 a22 := fun w => by kernel_rfl
 z22 := fun w => by kernel_rfl
 v22 := fun w => by kernel_rfl
 t23 := by kernel_rfl
 a23 := fun w => by kernel_rfl
 z23 := fun w => by kernel_rfl
 v23 := fun w => by kernel_rfl
 t44 := by kernel_rfl
 a44 := fun w => by kernel_rfl
 z44 := fun w => by kernel_rfl
 v44 := fun w => by kernel_rfl
 t51 := by kernel_rfl
 a51 := fun w => by kernel_rfl
 z51 := fun w => by kernel_rfl
 v51 := fun w => by kernel_rfl
 t60 := by kernel_rfl
 a60 := fun w => by kernel_rfl
 z60 := fun w => by kernel_rfl
 v60 := fun w => by kernel_rfl
 t61 := by kernel_rfl
 a61 := fun w => by kernel_rfl
 z61 := fun w => by kernel_rfl
 v61 := fun w => by kernel_rfl
 t67 := by kernel_rfl
 a67 := fun w => by kernel_rfl
 z67 := fun w => by kernel_rfl
 v67 := fun w => by kernel_rfl
 t69 := by kernel_rfl
 a69 := fun w => by kernel_rfl
 z69 := fun w => by kernel_rfl
 v69 := fun w => by kernel_rfl
 t75 := by kernel_rfl
 a75 := fun w => by kernel_rfl
 z75 := fun w => by kernel_rfl
 v75 := fun w => by kernel_rfl
 t79 := by kernel_rfl
 a79 := fun w => by kernel_rfl
 z79 := fun w => by kernel_rfl
 v79 := fun w => by kernel_rfl
 t83 := by kernel_rfl
 a83 := fun w => by kernel_rfl
 z83 := fun w => by kernel_rfl
 v83 := fun w => by kernel_rfl
 t84 := by kernel_rfl
 a84 := fun w => by kernel_rfl
 z84 := fun w => by kernel_rfl
 v84 := fun w => by kernel_rfl
def coR : Go.Shelf.Ren := ⟨fun n => match n with
 | 43 => 91
 | _ => 0, fun n => match n with
 | 0 => 0
 | 3 => 3
 | 4 => 4
 | 22 => 22
 | 23 => 3
 | _ => 0, fun x => x⟩
theorem coL : SlLaysN.n43 Tryz.prog coR where
 mixed := by kernel_rfl
 f43 := ⟨Tryz.f91.name, by kernel_rfl, (Tryz.func91).trans (congrArg some (by kernel_rfl))⟩
 t0 := by kernel_rfl
 a0 := fun w => by kernel_rfl
 z0 := fun w => by kernel_rfl
 v0 := fun w => by kernel_rfl
 t3 := by kernel_rfl
 a3 := fun w => by kernel_rfl
 z3 := fun w => by kernel_rfl
 v3 := fun w => by kernel_rfl
 t4 := by kernel_rfl
 a4 := fun w => by kernel_rfl
 z4 := fun w => by kernel_rfl
 v4 := fun w => by kernel_rfl
 t22 := by kernel_rfl
 a22 := fun w => by kernel_rfl
 z22 := fun w => by kernel_rfl
 v22 := fun w => by kernel_rfl
 t23 := by kernel_rfl
 a23 := fun w => by kernel_rfl
 z23 := fun w => by kernel_rfl
 v23 := fun w => by kernel_rfl
 i23 := by kernel_rfl
theorem swap_map {w : World} {b T : Nat} {vs us : List Value} {f : Array Value → Array Value} (h : w.heap[b]? = some (CB vs T)) (hf : f vs.toArray = us.toArray) : Swap [(b, CB vs T)] [(b, CB us T)] w (Sort.mapBlock w b f) :=
 ⟨rfl, rfl, rfl, rfl, by simp [Sort.mapBlock], fun k hk => by
  have hk' : b ≠ k := fun e => hk (by simp [e])
  simp [Sort.mapBlock, Array.getElem?_modify, hk'], fun x hx => by
  simp only [List.mem_singleton] at hx
  subst hx
  simp only [Sort.mapBlock, Array.getElem?_modify, if_pos, h]
  show some (Sort.onCells f (CB vs T)) = some (CB us T)
  unfold CB
  simp only [Sort.onCells, hf], fun x hx => by
  simp only [List.mem_singleton] at hx
  subst hx
  unfold CB
  simp⟩
theorem st_mapRow {C : Ctx} {X : List Blk} {w : World} {b T : Nat} {vs us : List Value} {f : Array Value → Array Value} (h : St C ((b, CB vs T) :: X) w) (hf : f vs.toArray = us.toArray) : St C ((b, CB us T) :: X) (Sort.mapBlock w b f) := by
 have hs := swap_map (f := f) (h.get (i := 0) rfl) hf
 exact ⟨swap_below (X := X) hs h.2 h.1, swap_ok (X := X) hs h.2, swap_marks (X := X) hs h.2 h.3⟩
theorem st_ahead {C : Ctx} {H : List Blk} {w : World} (h : St C H w) : ∀ n, St C H (Sort.ahead w n)
 | 0 => h
 | n + 1 => by rw [← Sort.ahead_drew]; exact (st_ahead h n).drew
theorem st_more {C : Ctx} {H : List Blk} {w : World} (h : St C H w) (os : Array Obj) : St C H (Sort.grow w os) := by
 have hb : Below w.heap.size w (Sort.grow w os) := ⟨rfl, rfl, rfl, by simp [Sort.grow], fun k hk => by simp [Sort.grow, Array.getElem?_append_left hk]⟩
 exact h.grow (Hn := []) hb (HOk.nil _ _)
theorem put_iv {xs zs : List Int} {junk : List Value} (hl : zs.length = xs.length) : Sort.putCells (Value.int .i64) 0 zs.toArray (iv xs ++ junk).toArray = (iv zs ++ junk).toArray := by
 have hix : (iv xs).length = xs.length := List.length_map _
 have hiz : (iv zs).length = zs.length := List.length_map _
 apply Array.ext
 ·simp [Sort.putCells, hix, hiz, hl]
 ·intro k h1 h2
  simp only [Sort.putCells, Array.getElem_mapIdx, List.getElem_toArray, List.size_toArray, Nat.zero_add, Nat.zero_le, true_and, Nat.sub_zero]
  by_cases hk : k < zs.length
  ·rw [if_pos hk, List.getElem_append_left om0]
   simp [iv, hk]
  ·rw [if_neg hk, List.getElem_append_right om0, List.getElem_append_right om0]
   congr 1
   omega
theorem holds_iv {w : World} {b T : Nat} {xs : List Int} {junk : List Value} (h : w.heap[b]? = some (CB (iv xs ++ junk) T)) : Sort.Holds (Value.int .i64) w b 0 xs.toArray := fun j hj => by
 simp only [List.size_toArray] at hj
 have h2 : At w b 0 (iv xs) := at_block (rest := junk) h rfl
 refine ⟨?_, ?_⟩
 ·have := h2.get j (.int .i64 xs[j]) (by simp [iv, hj])
  simpa [hj] using this
 ·unfold World.frozen?
  rw [h]
  unfold CB
  simp
theorem sort_cs (w0 : World) (ds0 out0 : List Deferred) (b T cap : Nat) (xs : List Int) (junk : List Value) (G : List Blk) (hn : xs.length ≤ 1000000) :
  Cs ⟨Tryz.prog, w0, ds0, out0⟩ 90 #[.slice (some ⟨b, 0, none⟩) xs.length cap] ((b, CB (iv xs ++ junk) T) :: G) fun v Hn => v = .tuple #[] ∧ Hn = (b, CB (iv (sortL xs) ++ junk) T) :: G := fun w hw => by
 have hh := hw.get (i := 0) rfl
 refine Calls.mono (AnyG.slices_Sort_int soL b 0 cap xs w (holds_iv hh) (Array.getElem?_eq_some_iff.1 hh).1 om0) ?_
 rintro e w' ⟨rfl, n, os, rfl⟩
 exact ⟨_, _, rfl, st_more (st_mapRow (st_ahead hw n) (put_iv (by simp))) os, rfl, rfl⟩
theorem compact_cs (w0 : World) (ds0 out0 : List Deferred) (b T cap : Nat) (xs : List Int) (junk : List Value) (G : List Blk) (hn : xs.length ≤ 1000000) (hc : xs.length ≤ cap) :
  Cs ⟨Tryz.prog, w0, ds0, out0⟩ 91 #[.slice (some ⟨b, 0, none⟩) xs.length cap] ((b, CB (iv xs ++ junk) T) :: G) fun v Hn => v = .slice (some ⟨b, 0, none⟩) (Lib.compact xs).length cap ∧ ∃ j2 : List Value, j2.length = junk.length + (xs.length - (Lib.compact xs).length) ∧ Hn = (b, CB (iv (Lib.compact xs) ++ j2) T) :: G := fun w hw => by
 have hh := hw.get (i := 0) rfl
 refine Calls.mono (AnyG.slices_Compact_int coL b 0 cap xs w (holds_iv hh) om0 hc) ?_
 rintro e w' ⟨rfl, q, rfl⟩
 have hcl : (Lib.compact xs).length ≤ xs.length := by
  unfold Lib.compact Lib.compactUpTo
  rw [List.length_map]
  refine Nat.le_trans (List.length_filter_le _ _) ?_
  simp
 have h1 := st_mapRow (st_ahead hw q) (put_iv (xs := xs) (zs := Lib.compact xs ++ List.replicate (xs.length - (Lib.compact xs).length) 0) (junk := junk) (by rw [List.length_append, List.length_replicate]; omega))
 refine ⟨_, _, rfl, h1, rfl, iv (List.replicate (xs.length - (Lib.compact xs).length) 0) ++ junk, ?_, ?_⟩
 ·rw [List.length_append]
  simp only [iv, List.length_map, List.length_replicate]
  omega
 ·rw [show iv (Lib.compact xs ++ List.replicate (xs.length - (Lib.compact xs).length) 0) = iv (Lib.compact xs) ++ iv (List.replicate (xs.length - (Lib.compact xs).length) 0) from List.map_append, List.append_assoc]
end Go.Proofs.YtjekjehgmljbgaaGreatDoor.T
namespace Go.Proofs.YtjekjehgmljbgaaGreatDoor.T
open Go.RowKit Go.Proofs Go.Eng Go.Shelf Go.Sort
set_option maxRecDepth 100000
set_option maxHeartbeats 1000000
def sfR : Go.Shelf.Ren := ⟨fun n => match n with
 | 6 => 61
 | 14 => 103
 | 15 => 104
 | 20 => 126
 | 21 => 127
 | 22 => 128
 | 23 => 129
 | 24 => 130
 | 25 => 131
 | 26 => 132
 | 27 => 133
 | 28 => 134
 | 29 => 135
 | 46 => 153
 | 47 => 154
 | 48 => 155
 | 49 => 156
 | 50 => 157
 | 57 => 168
 | _ => 0, fun n => match n with
 | 0 => 0
 | 3 => 3
 | 4 => 4
 | 5 => 5
 | 9 => 9
 | 22 => 108
 | 24 => 106
 | 25 => 114
 | 39 => 176
 | 45 => 196
 | 46 => 197
 | 50 => 201
 | 53 => 169
 | 55 => 205
 | 66 => 223
 | 70 => 227
 | 76 => 232
 | 77 => 233
 | _ => 0, fun x => x⟩
theorem sfL : SlLaysF0.n6 Tryz.prog sfR where
 mixed := by kernel_rfl
 f6 := ⟨Tryz.f61.name, by kernel_rfl, (Tryz.func61).trans (congrArg some (by kernel_rfl))⟩
 f14 := ⟨Tryz.f103.name, by kernel_rfl, (Tryz.func103).trans (congrArg some (by kernel_rfl))⟩
 f15 := (Tryz.func104).trans (congrArg some (by kernel_rfl))
 f20 := ⟨Tryz.f126.name, by kernel_rfl, (Tryz.func126).trans (congrArg some (by kernel_rfl))⟩
 f21 := ⟨Tryz.f127.name, by kernel_rfl, (Tryz.func127).trans (congrArg some (by kernel_rfl))⟩
 f22 := ⟨Tryz.f128.name, by kernel_rfl, (Tryz.func128).trans (congrArg some (by kernel_rfl))⟩
 f23 := ⟨Tryz.f129.name, by kernel_rfl, (Tryz.func129).trans (congrArg some (by kernel_rfl))⟩
 f24 := ⟨Tryz.f130.name, by kernel_rfl, (Tryz.func130).trans (congrArg some (by kernel_rfl))⟩
 f25 := ⟨Tryz.f131.name, by kernel_rfl, (Tryz.func131).trans (congrArg some (by kernel_rfl))⟩
 f26 := ⟨Tryz.f132.name, by kernel_rfl, (Tryz.func132).trans (congrArg some (by kernel_rfl))⟩
 f27 := ⟨Tryz.f133.name, by kernel_rfl, (Tryz.func133).trans (congrArg some (by kernel_rfl))⟩
 f28 := (Tryz.func134).trans (congrArg some (by kernel_rfl))
 f29 := (Tryz.func135).trans (congrArg some (by kernel_rfl))
 f46 := ⟨Tryz.f153.name, by kernel_rfl, (Tryz.func153).trans (congrArg some (by kernel_rfl))⟩
 f47 := (Tryz.func154).trans (congrArg some (by kernel_rfl))
 f48 := (Tryz.func155).trans (congrArg some (by kernel_rfl))
 f49 := ⟨Tryz.f156.name, by kernel_rfl, (Tryz.func156).trans (congrArg some (by kernel_rfl))⟩
 f50 := ⟨Tryz.f157.name, by kernel_rfl, (Tryz.func157).trans (congrArg some (by kernel_rfl))⟩
 f57 := ⟨Tryz.f168.name, by kernel_rfl, (Tryz.func168).trans (congrArg some (by kernel_rfl))⟩
 t0 := by kernel_rfl
 a0 := fun w => by kernel_rfl
 z0 := fun w => by kernel_rfl
 v0 := fun w => by kernel_rfl
 t3 := by kernel_rfl
 a3 := fun w => by kernel_rfl
 z3 := fun w => by kernel_rfl
 v3 := fun w => by kernel_rfl
 t4 := by kernel_rfl
 a4 := fun w => by kernel_rfl
 z4 := fun w => by kernel_rfl
 v4 := fun w => by kernel_rfl
 t5 := by kernel_rfl
 a5 := fun w => by kernel_rfl
 z5 := fun w => by kernel_rfl
 v5 := fun w => by kernel_rfl
 t9 := by kernel_rfl
 a9 := fun w => by kernel_rfl
 z9 := fun w => by kernel_rfl
 v9 := fun w => by kernel_rfl
 t22 := by kernel_rfl
 a22 := fun w => by kernel_rfl
 z22 := fun w => by kernel_rfl
 v22 := fun w => by kernel_rfl
 t25 := by kernel_rfl
 a25 := fun w => by kernel_rfl
 z25 := fun w => by kernel_rfl
 v25 := fun w => by kernel_rfl
 t39 := by kernel_rfl
 a39 := fun w => by kernel_rfl
 z39 := fun w => by kernel_rfl
 v39 := fun w => by kernel_rfl
 t45 := by kernel_rfl
 a45 := fun w => by kernel_rfl
 z45 := fun w => by kernel_rfl
 v45 := fun w => by kernel_rfl
 t46 := by kernel_rfl
 a46 := fun w => by kernel_rfl
 z46 := fun w => by kernel_rfl
 v46 := fun w => by kernel_rfl
 t50 := by kernel_rfl
 a50 := fun w => by kernel_rfl
 z50 := fun w => by kernel_rfl
 v50 := fun w => by kernel_rfl
 t53 := by kernel_rfl
 a53 := fun w => by kernel_rfl
 z53 := fun w => by kernel_rfl
 v53 := fun w => by kernel_rfl
 t55 := by kernel_rfl
 a55 := fun w => by kernel_rfl
 z55 := fun w => by kernel_rfl
 v55 := fun w => by kernel_rfl
 t66 := by kernel_rfl
 a66 := fun w => by kernel_rfl
 z66 := fun w => by kernel_rfl
 v66 := fun w => by kernel_rfl
 t70 := by kernel_rfl
 a70 := fun w => by kernel_rfl
 z70 := fun w => by kernel_rfl
 v70 := fun w => by kernel_rfl
 t76 := by kernel_rfl
 a76 := fun w => by kernel_rfl
 z76 := fun w => by kernel_rfl
 v76 := fun w => by kernel_rfl
 t77 := by kernel_rfl
 a77 := fun w => by kernel_rfl
 z77 := fun w => by kernel_rfl
 v77 := fun w => by kernel_rfl
instance : Inhabited Co := ⟨Co.z⟩
def cRow (xs : List Co) : List Value := rowOf Co.cells (fun k => xs.getD k Co.z) xs.length
theorem co_len4 : ∀ x : Co, (Co.cells x).length = 4 := fun _ => rfl
theorem cRow_len (xs : List Co) : (cRow xs).length = xs.length * 4 := rowOf_len co_len4 _ _
theorem row_range (f : Nat → Co) : ∀ m, rowOf Co.cells f m = (List.range (m * 4)).map fun t => ((f (t / 4)).cells)[t % 4]!
 | 0 => rfl
 | m + 1 => by
  rw [rowOf_succ, row_range f m, show (m + 1) * 4 = m * 4 + 1 + 1 + 1 + 1 by omega]
  simp only [List.range_succ, List.map_append, List.map_cons, List.map_nil, List.append_assoc]
  congr 1
  rw [show m * 4 / 4 = m by omega, show (m * 4 + 1) / 4 = m by omega, show (m * 4 + 1 + 1) / 4 = m by omega, show (m * 4 + 1 + 1 + 1) / 4 = m by omega, show m * 4 % 4 = 0 by omega, show (m * 4 + 1) % 4 = 1 by omega, show (m * 4 + 1 + 1) % 4 = 2 by omega, show (m * 4 + 1 + 1 + 1) % 4 = 3 by omega]
  rfl
theorem toArr_get (xs : List Co) (k : Nat) : xs.toArray[k]! = xs.getD k Co.z := by
 by_cases h : k < xs.length
 ·simp [h, List.getD_eq_getElem?_getD]
 ·simp [h, List.getD_eq_getElem?_getD]; rfl
theorem flat_cRow (xs : List Co) : flatK Co.cells 4 xs.toArray = (cRow xs).toArray := by
 apply Array.ext'
 unfold flatK cRow
 rw [row_range]
 simp only [Array.toList_map, Array.toList_range, List.size_toArray, toArr_get]
theorem put_row {us vs junk : List Value} (h : vs.length = us.length) : Sort.putCells (id : Value → Value) 0 vs.toArray (us ++ junk).toArray = (vs ++ junk).toArray := by
 apply Array.ext
 ·simp [Sort.putCells, h]
 ·intro k h1 h2
  simp only [Sort.putCells, Array.getElem_mapIdx, List.getElem_toArray, List.size_toArray, Nat.zero_add, Nat.zero_le, true_and, Nat.sub_zero]
  by_cases hk : k < vs.length
  ·rw [if_pos hk, List.getElem_append_left om0]
   simp [hk]
  ·rw [if_neg hk, List.getElem_append_right om0, List.getElem_append_right om0]
   congr 1
   omega
theorem holds_row {w : World} {b T : Nat} {us junk : List Value} (h : w.heap[b]? = some (CB (us ++ junk) T)) : Sort.Holds (id : Value → Value) w b 0 us.toArray := fun j hj => by
 simp only [List.size_toArray] at hj
 have h2 : At w b 0 us := at_block (rest := junk) h rfl
 refine ⟨?_, ?_⟩
 ·have := h2.get j us[j] (by simp [hj])
  simpa [hj] using this
 ·unfold World.frozen?
  rw [h]
  unfold CB
  simp
theorem swoC : Sort.SWO (ltOf cmpC) where
 irrefl x := by simp only [ltOf, decide_eq_false_iff_not, cmpC_lt]; exact Co.lt_irr x
 trans x y z h1 h2 := by simp only [ltOf, decide_eq_true_eq, cmpC_lt] at *; exact Co.lt_tr h1 h2
 ntrans x y z h1 h2 := by simp only [ltOf, decide_eq_false_iff_not, cmpC_lt] at *; unfold Co.lt at *; omega
theorem co_one : ∀ x, ∀ v ∈ Co.cells x, v.oneCell' = true := fun x v hv => by
 simp only [Co.cells, List.mem_cons, List.not_mem_nil, or_false] at hv
 rcases hv with rfl | rfl | rfl | rfl <;> rfl
theorem sortF_cs (w0 : World) (ds0 out0 : List Deferred) (b T cap : Nat) (xs : List Co) (junk : List Value) (G : List Blk) (hn : xs.length ≤ 1000000) :
  Cs ⟨Tryz.prog, w0, ds0, out0⟩ 61 #[.slice (some ⟨b, 0, none⟩) xs.length cap, .func (.func 62) #[] #[]] ((b, CB (cRow xs ++ junk) T) :: G) fun v Hn => v = .tuple #[] ∧ ∃ ys, ys.Perm xs ∧ (∀ i j, i < j → j < ys.length → ¬ (ys.getD j Co.z).lt (ys.getD i Co.z)) ∧ Hn = (b, CB (cRow ys ++ junk) T) :: G := fun w hw => by
 have hh := hw.get (i := 0) rfl
 have hblk : b < w.heap.size := (Array.getElem?_eq_some_iff.1 hh).1
 have hH : HoldsK Co.cells 4 w b 0 xs.toArray := by unfold HoldsK; rw [flat_cRow]; exact holds_row hh
 refine Calls.mono (AnyQ.slices_SortFunc sfL 4 (fun w => by kernel_rfl) (fun w => by kernel_rfl) Co.cells co_len4 co_one cmpC swoC 62 #[] b 0 cap xs.toArray w Tryz.call62 (fun _ _ _ _ x y => before1_w x y _) hH hblk (by simp only [List.size_toArray]; omega)) ?_
 rintro e w' ⟨rfl, d', n, os, hp, hs, rfl⟩
 obtain ⟨ys, rfl⟩ : ∃ ys : List Co, d' = ys.toArray := ⟨d'.toList, by simp⟩
 obtain ⟨hsz, _, hpm⟩ := hp
 simp only [List.size_toArray] at hsz hs
 have hperm : ys.Perm xs := by
  simp only [List.size_toArray] at hpm
  rw [show xs.toArray.extract 0 xs.length = xs.toArray by simp, show ys.toArray.extract 0 xs.length = ys.toArray by rw [← hsz]; simp] at hpm
  simpa using hpm
 refine ⟨_, _, rfl, st_more (st_mapRow (us := cRow ys ++ junk) (st_ahead hw n) ?_) os, rfl, ys, hperm, fun i j hij hj => ?_, rfl⟩
 ·rw [flat_cRow]
  exact put_row (by rw [cRow_len, cRow_len, hsz])
 ·have := hs i j (Nat.zero_le _) hij om0
  rw [toArr_get, toArr_get] at this
  simpa only [ltOf, decide_eq_false_iff_not, cmpC_lt] using this
theorem cRow_snoc (xs : List Co) (y : Co) : cRow (xs ++ [y]) = cRow xs ++ y.cells := by
 unfold cRow
 rw [List.length_append, List.length_singleton, rowOf_succ]
 congr 1
 ·exact rowOf_congr _ fun k hk => by simp [List.getD_eq_getElem?_getD, List.getElem?_append_left hk]
 ·simp [List.getD_eq_getElem?_getD]
theorem bits0 (w : World) : Calls Tryz.prog 104 #[.int .u64 0] w fun e w' => (∃ n : Int, e = .returned (.int .i64 n)) ∧ w' = w :=
 (Any.bits_Len (SlLaysF0.n15.bits (P := Tryz.prog) (ρ := sfR) { sfL with }) 0 w om0 om0).mono fun _ _ ⟨h1, h2⟩ => ⟨⟨_, h1⟩, h2⟩
theorem sortN_cs (w0 : World) (ds0 out0 : List Deferred) (a : Option Addr) (cap : Nat) (xs : List Co) (Hr G : List Blk) (hn : xs.length ≤ 1000000) (hrow : NewRow 106 4 xs.length (cRow xs) (.slice a xs.length cap) Hr) :
  Cs ⟨Tryz.prog, w0, ds0, out0⟩ 61 #[.slice a xs.length cap, .func (.func 62) #[] #[]] (Hr ++ G) fun v Hn => v = .tuple #[] ∧ ∃ (ys : List Co) (H2 : List Blk), ys.Perm xs ∧ (∀ i j, i < j → j < ys.length → ¬ (ys.getD j Co.z).lt (ys.getD i Co.z)) ∧ NewRow 106 4 ys.length (cRow ys) (.slice a ys.length cap) H2 ∧ Hn = H2 ++ G := fun w hw => by
 by_cases h0 : xs.length = 0
 ·obtain rfl : xs = [] := List.length_eq_zero_iff.1 h0
  refine Calls.mono (sort0_w bits0 a cap _ w) ?_
  rintro e w' ⟨rfl, rfl⟩
  exact ⟨_, _, rfl, hw, rfl, [], Hr, List.Perm.refl _, fun i j _ h => absurd h (Nat.not_lt_zero _), hrow, rfl⟩
 ·obtain ⟨b, junk, rfl, rfl, hl, hc⟩ := NewRow.head hrow om0
  refine Calls.mono (sortF_cs w0 ds0 out0 b _ cap xs junk G hn w hw) ?_
  rintro e w' ⟨v, H', rfl, hst, rfl, ys, hp, hs, rfl⟩
  refine ⟨_, _, rfl, hst, rfl, ys, _, hp, hs, NewRow.mk rfl ?_ (by rw [hp.length_eq]; exact hc) (by rw [hp.length_eq]; omega), rfl⟩
  rw [← hl, List.length_append, List.length_append, cRow_len, cRow_len, hp.length_eq]
end Go.Proofs.YtjekjehgmljbgaaGreatDoor.T
namespace Go.Proofs.YtjekjehgmljbgaaGreatDoor.T
open Go.RowKit Go.Proofs Go.Eng
set_option maxRecDepth 100000
set_option maxHeartbeats 1000000
theorem bs108_1_0 {x0_0 : Int} {x0_1 : Int} {x0_2 : Int} {x0_3 : Int} : ∀ w, (Instr.buildSlice 108 1 #[(0, .agg #[.int .i64 x0_0, .int .i64 x0_1, .int .i64 x0_2, .int .i64 x0_3])]).run Tryz.prog w = .ok (.slice (some ⟨w.heap.size, 0, none⟩) 1 1) (w.alloc (CB [.int .i64 x0_0, .int .i64 x0_1, .int .i64 x0_2, .int .i64 x0_3] 106)) := fun w => by kernel_rfl
theorem bs34_1_0 {x0_0a : Option Addr} {x0_0l x0_0c : Nat} {x0_1a : Option Addr} {x0_1l x0_1c : Nat} {x0_2 : Int} : ∀ w, (Instr.buildSlice 34 1 #[(0, .agg #[.slice x0_0a x0_0l x0_0c, .slice x0_1a x0_1l x0_1c, .int .i64 x0_2])]).run Tryz.prog w = .ok (.slice (some ⟨w.heap.size, 0, none⟩) 1 1) (w.alloc (CB [.slice x0_0a x0_0l x0_0c, .slice x0_1a x0_1l x0_1c, .int .i64 x0_2] 24)) := fun w => by kernel_rfl
structure Bl where
 x : Co
 s : Option Addr
 ks : Nat
 i : Option Addr
 ki : Nat
def Bl.z : Bl := ⟨Co.z, none, 0, none, 0⟩
def Bl.cells (c : Cn) (b : Bl) : List Value := [.slice b.s c.n b.ks, .slice b.i (c.of b.x).inn.length b.ki, .int .i64 b.x.a]
theorem bl_len (c : Cn) : ∀ b, (Bl.cells c b).length = 3 := fun _ => rfl
structure Bl.RdH (c : Cn) (HH : List Blk) (b : Bl) : Prop where
 s : ∀ (C : Ctx) (H : List Blk) (w : World), HH.Sublist H → St C H w → Ints w b.s c.n b.ks c.sz
 i : ∀ (C : Ctx) (H : List Blk) (w : World), HH.Sublist H → St C H w → Ints w b.i (c.of b.x).inn.length b.ki (c.of b.x).inn
 os : OwnR HH 3 1 b.s c.n
 oi : OwnR HH 3 1 b.i (c.of b.x).inn.length
theorem ownR_mono {S0 S1 : List Blk} {T : TypeId} {sz n : Nat} {a : Option Addr} (h : OwnR S0 T sz a n) (hs : ∀ x ∈ S0, x ∈ S1) : OwnR S1 T sz a n := by
 rcases h with h | ⟨b, vs, h1, h2, h3⟩
 ·exact .inl h
 ·exact .inr ⟨b, vs, h1, hs _ h2, h3⟩
theorem Bl.RdH.mono {c : Cn} {HH HH' : List Blk} {b : Bl} (h : b.RdH c HH) (hs : HH.Sublist HH') : b.RdH c HH' :=
 ⟨fun C H w h1 hw => h.s C H w (hs.trans h1) hw, fun C H w h1 hw => h.i C H w (hs.trans h1) hw, ownR_mono h.os fun x hx => hs.mem hx, ownR_mono h.oi fun x hx => hs.mem hx⟩
theorem Bl.RdH.new {c : Cn} {x : Co} {z1 z2 : Option Addr} {q1 q2 : Nat} {H1 H2 HX : List Blk} (h1 : NewRow 3 1 c.n (iv c.sz) (.slice z1 c.n q1) H1) (h2 : NewRow 3 1 (c.of x).inn.length (iv (c.of x).inn) (.slice z2 (c.of x).inn.length q2) H2) : (⟨x, z1, q1, z2, q2⟩ : Bl).RdH c (HX ++ (H1 ++ H2)) :=
 ⟨fun C H w h hw => NewRow.ints h1 rfl (((List.sublist_append_left _ _).trans (List.sublist_append_right _ _)).trans h) w hw, fun C H w h hw => NewRow.ints h2 rfl (((List.sublist_append_right _ _).trans (List.sublist_append_right _ _)).trans h) w hw, h1.own fun y hy => List.mem_append_right _ (List.mem_append_left _ hy), h2.own fun y hy => List.mem_append_right _ (List.mem_append_right _ hy)⟩
def blRow (c : Cn) (bs : List Bl) : List Value := rowOf (Bl.cells c) (fun k => bs.getD k Bl.z) bs.length
theorem blRow_len (c : Cn) (bs : List Bl) : (blRow c bs).length = bs.length * 3 := rowOf_len (bl_len c) _ _
theorem blRow_snoc (c : Cn) (bs : List Bl) (y : Bl) : blRow c (bs ++ [y]) = blRow c bs ++ y.cells c := by
 unfold blRow
 rw [List.length_append, List.length_singleton, rowOf_succ]
 congr 1
 ·exact rowOf_congr _ fun k hk => by simp [List.getD_eq_getElem?_getD, List.getElem?_append_left hk]
 ·simp [List.getD_eq_getElem?_getD]
def BefV (c : Cn) (p : Po) (v : Value) (Hn : List Blk) : Prop := ∃ (e : Int) (bs : List Bl) (a : Option Addr) (cap : Nat) (Hr HX : List Blk), v = .tuple #[.slice a bs.length cap, .int .i64 e] ∧ c.Bef p e (bs.map Bl.x) ∧ NewRow 24 3 bs.length (blRow c bs) (.slice a bs.length cap) Hr ∧ (∀ b ∈ bs, b.RdH c HX) ∧ Shp HX HX ∧ Hn = HX ++ Hr
theorem BefV.emp {c : Cn} {p : Po} {e : Int} (h : c.Bef p e []) : BefV c p (.tuple #[.slice none 0 0, .int .i64 e]) [] :=
 ⟨e, [], none, 0, [], [], rfl, h, ⟨none, 0, rfl, Nat.le_refl _, .inr ⟨rfl, rfl, rfl⟩⟩, fun b h => (by cases h), .nil, rfl⟩
theorem infCo : (Tryz.prog.info? 106).map (fun i => (i.zero, i.size, i.bytes)) = some (some (.agg #[.int .i64 0, .int .i64 0, .int .i64 0, .int .i64 0]), 4, 32) := by kernel_rfl
theorem infCans : (Tryz.prog.info? 24).map (fun i => (i.zero, i.size, i.bytes)) = some (some (.agg #[.slice none 0 0, .slice none 0 0, .int .i64 0]), 3, 56) := by kernel_rfl
theorem map_take_snoc {α β : Type} {f : α → β} {bs : List α} {ys : List β} {y : α} {i : Nat} {z : β} (h : bs.map f = ys.take i) (hi : i < ys.length) (hy : f y = ys.getD i z) : (bs ++ [y]).map f = ys.take (i + 1) := by
 rw [List.map_append, h, List.take_succ_eq_append_getElem hi, List.map_cons, List.map_nil, hy]
 congr 2
 simp [List.getD_eq_getElem?_getD, hi]
theorem a_pc0 {u : Co} : ∀ w, (part 3 u.cells.toArray 0).run Tryz.prog w = .ok (.int .i64 u.a) w := fun w => by kernel_rfl
theorem a_pc1 {u : Co} : ∀ w, (part 3 u.cells.toArray 1).run Tryz.prog w = .ok (.int .i64 u.b) w := fun w => by kernel_rfl
theorem a_pc2 {u : Co} : ∀ w, (part 3 u.cells.toArray 2).run Tryz.prog w = .ok (.int .i64 u.c) w := fun w => by kernel_rfl
theorem a_pc3 {u : Co} : ∀ w, (part 3 u.cells.toArray 3).run Tryz.prog w = .ok (.int .i64 u.d) w := fun w => by kernel_rfl
theorem eqI_co {u v : Co} : ∀ w, (Op.equalIn Op.maxDepth 106 (.agg u.cells.toArray) (.agg v.cells.toArray)).run Tryz.prog w = .ok (ieq u.a v.a && (ieq u.b v.b && (ieq u.c v.c && ieq u.d v.d))) w := fun w => by
 unfold Op.maxDepth Op.equalIn
 rw [Sem.run_bind, Tryz.runUnderlying106]
 simp [List.range', Tryz.sizeOf3, a_pc0, a_pc1, a_pc2, a_pc3, eq_int (d := 9998) Tryz.runUnderlying3]
 generalize ieq u.a v.a = b0
 generalize ieq u.b v.b = b1
 generalize ieq u.c v.c = b2
 generalize ieq u.d v.d = b3
 cases b0 <;> cases b1 <;> cases b2 <;> cases b3 <;> simp
theorem a_gco {x y : Operand} {u v : Co} : ∀ w, (eqGuard .eql 106 x y (.agg u.cells.toArray) (.agg v.cells.toArray)).run Tryz.prog w = .ok () w := fun w => by kernel_rfl
theorem ieq_co (u v : Co) : (ieq u.a v.a && (ieq u.b v.b && (ieq u.c v.c && ieq u.d v.d))) = decide (u = v) := by
 obtain ⟨a, b, c, d⟩ := u
 obtain ⟨a', b', c', d'⟩ := v
 unfold ieq
 rw [Bool.eq_iff_iff]
 simp
theorem eqOp_co {x y : Operand} {u v : Co} : ∀ w, ((do eqGuard .eql 106 x y (.agg u.cells.toArray) (.agg v.cells.toArray); binOp .eql 106 (.agg u.cells.toArray) (.agg v.cells.toArray)) : Sem Value).run Tryz.prog w = .ok (.bool (decide (u = v))) w := eq_top a_gco (by rw [← ieq_co]; exact eqI_co)
theorem perm_3 {HX Ha H1 H2 : List Blk} : ((HX ++ Ha).append (H1 ++ H2)).Perm (HX ++ (H1 ++ (H2 ++ Ha))) := by
 show ((HX ++ Ha) ++ (H1 ++ H2)).Perm _
 rw [List.append_assoc]
 refine List.Perm.append_left HX ?_
 rw [← List.append_assoc H1 H2 Ha]
 exact List.perm_append_comm
theorem cbefore_any (c : Cn) (a1 : Option Addr) (p1 : Nat) (a2 : Option Addr) (p2 : Nat) (p : Po) (w : World) (hG : Gv w) (hn : c.n ≤ 1000000) (hm : c.inn.length ≤ 1000000) (h1 : Ints w a1 c.n p1 c.sz) (h2 : Ints w a2 c.inn.length p2 c.inn) : Ct Tryz.prog 22 #[.agg #[.slice a1 c.n p1, .slice a2 c.inn.length p2, .int .i64 c.st], .agg p.cells.toArray] w (BefV c p) := by
 obtain ⟨pf, pt⟩ := p
 have hF := wide_wide
 refine Ct_start (args := [_, _]) Tryz.func22 rf Tryz.ntmps22 rf ?_
 refine zR fun ds => ?_
 refine WS_new hF rf (y_box rf) (fun b1 => ?_)
 refine WS_new hF rf (y_box rf) (fun b2 => ?_)
 refine za (.slice _ _ _) hF ?_
 refine za (.int .i64 _) hF ?_
 refine zN ?_
 refine W_scope ?_
 refine W_seq ?_
 refine zR fun ds => ?_
 refine zD hF (y_loadN rf Tryz.isAgg24 Tryz.sizeOf24 (Mem.own (us := [.slice _ _ _, .slice _ _ _, .int .i64 _]) 1 rf rf) rf) ?_
 refine zD hF (y_callL rf rf Tryz.call47 (fun w hw => ccheck_any c a1 p1 a2 p2 w (hG.st w hw) hn hm (h1.st w hw) (h2.st w hw))) ?_
 refine za (.int .i64 _) hF ?_
 refine zP fun ds => ?_
 refine zm (.int .i64 _) hF ?_
 refine zD hF (y_neq rf rf) ?_
 refine zN ?_
 refine W_cond rf (fun c2 => ?_) (fun c2 => ?_)
 ·
  try simp only [qz1, qz2, qz3, qz4, qz5, qz6, qz7, qz8] at c2
  refine zR fun ds => ?_
  refine zm (.int .i64 _) hF ?_
  refine za (.slice _ _ _) hF ?_
  refine za (.int .i64 _) hF ?_
  refine zN ?_
  refine W_ret ?_
  refine Then_ret ?_
  refine NoG_ret ?_
  refine Fin_ret [.slice _ _ _, .int .i64 _] [] Tryz.results22 ⟨by rfl, by rfl, trivial⟩ HSub.nil ?_
  obtain ⟨h3, h4⟩ := Cn.err_no c2
  rw [h4]
  exact BefV.emp (by unfold Cn.Bef; rw [if_neg (by rw [h3]; decide)]; exact ⟨rfl, rfl⟩)
 ·
  try simp only [qz1, qz2, qz3, qz4, qz5, qz6, qz7, qz8] at c2
  have hokB := Cn.err_iff.1 c2
  have hok := Cn.ok_iff.1 hokB
  have hn3 := hok.n3
  have hlen := hok.len
  refine W_skip ?_
  refine zS fun ds => ?_
  refine zD hF (y_loadN rf Tryz.isAgg24 Tryz.sizeOf24 (Mem.own (us := [.slice _ _ _, .slice _ _ _, .int .i64 _]) 1 rf rf) rf) ?_
  refine zD hF (y_buildL bd92_0 rf) ?_
  refine WS_new hF rf (y_alloc Tryz.zeroValue92 rf) (fun bb => ?_)
  refine WS_store hF (us := [.slice _ _ _, .slice _ _ _, .int .i64 _]) (i := 0) rf rf Tryz.sizeOf92 rf rf rf d20 ?_
  refine zO ?_
  refine zR fun ds => ?_
  refine zD hF (y_loadN rf Tryz.isAgg92 Tryz.sizeOf92 (Mem.own (us := [.slice _ _ _, .slice _ _ _, .int .i64 _]) 0 rf rf) rf) ?_
  refine zD hF (y_loadN rf Tryz.isAgg47 Tryz.sizeOf47 (Mem.own (us := [.int .i64 _, .int .i64 _]) 1 rf rf) rf) ?_
  refine zD hF (y_callL rf rf Tryz.call57 (fun w hw => bvalid_any c a1 p1 a2 p2 ⟨pf, pt⟩ w)) ?_
  refine zD hF (y_not rf) ?_
  refine zN ?_
  refine W_cond rf (fun c5 => ?_) (fun c5 => ?_)
  ·
   try simp only [qz1, qz2, qz3, qz4, qz5, qz6, qz7, qz8] at c5
   refine zR fun ds => ?_
   refine za (.slice _ _ _) hF ?_
   refine za (.int .i64 _) hF ?_
   refine zN ?_
   refine W_ret ?_
   refine Then_ret ?_
   refine NoG_ret ?_
   refine Fin_ret [.slice _ _ _, .int .i64 _] [] Tryz.results22 ⟨by rfl, by rfl, trivial⟩ HSub.nil ?_
   exact BefV.emp (by unfold Cn.Bef; rw [if_pos hokB, if_neg (by rw [c5]; decide)]; exact ⟨rfl, rfl⟩)
  ·
   try simp only [qz1, qz2, qz3, qz4, qz5, qz6, qz7, qz8] at c5
   have hvB := c5
   obtain ⟨⟨hf0, hf1⟩, ⟨ht0, ht1⟩, hne⟩ := Cn.vld_iff.1 c5
   simp only at hf0 hf1 ht0 ht1 hne
   obtain ⟨f, rfl⟩ := Int.eq_ofNat_of_zero_le hf0
   obtain ⟨t, rfl⟩ := Int.eq_ofNat_of_zero_le ht0
   have hf : f ≤ c.n := by omega
   have ht : t ≤ c.n := by omega
   have hft : f ≠ t := by omega
   have hp : c.Fp f t := ⟨hf, ht, hft⟩
   obtain ⟨e1, hd1⟩ := c.co.drop (k := f) om0
   have hci := hok.co_in
   have hl1 := hci.lo f om0
   have hl2 := hci.lo t om0
   have hr : ∀ k, k ≤ c.n → 0 ≤ c.room k ∧ c.room k ≤ 600 := fun k hk => by
    cases k with
    | zero => exact ⟨by show (0 : Int) ≤ 600; omega, by show (600 : Int) ≤ 600; omega⟩
    | succ k => have := hok.s k om0; exact ⟨by show 0 ≤ c.s k; omega, by show c.s k ≤ 600; omega⟩
   have hh1 := hci.hi f hf
   have hh2 := hci.hi t ht
   have hr1 := hr f hf
   have hr2 := hr t ht
   refine W_skip ?_
   refine zS fun ds => ?_
   refine zD hF (y_loadN rf Tryz.isAgg92 Tryz.sizeOf92 (Mem.own (us := [.slice _ _ _, .slice _ _ _, .int .i64 _]) 0 rf rf) rf) ?_
   refine zD hF (y_callL rf rf Tryz.call58 (fun w hw => bstart_any c a1 p1 a2 p2 w hok hn hm (h1.st w hw) (h2.st w hw))) ?_
   refine WS_new hF rf (y_alloc Tryz.zeroValue106 rf) (fun be => ?_)
   refine WS_store hF (us := [.int .i64 _, .int .i64 _, .int .i64 _, .int .i64 _]) (i := 0) rf rf Tryz.sizeOf106 rf rf rf d20 ?_
   refine zP fun ds => ?_
   refine za (.slice _ _ _) hF ?_
   refine zO ?_
   refine W_label ?_
   refine Then_normal ?_
   refine W_seq ?_
   refine zR fun ds => ?_
   refine zm (.int .i64 _) hF ?_
   refine zN ?_
   refine W_block ?_
   refine W_loop (γ := Nat × List Co × Option Addr × Nat × List Blk) (fun q => q.1 ≤ 21 ∧ c.BefI f t q.1 q.2.1 ∧ NewRow 106 4 q.2.1.length (cRow q.2.1) (.slice q.2.2.1 q.2.1.length q.2.2.2.1) q.2.2.2.2) (fun q => [(2, .pointer (some ⟨b1, 0, none⟩)), (3, .pointer (some ⟨b2, 0, none⟩)), (7, .pointer (some ⟨bb, 0, none⟩)), (8, .pointer (some ⟨be, 0, none⟩)), (9, .slice q.2.2.1 q.2.1.length q.2.2.2.1), (31, .int .i64 (q.1 : Int))]) (fun q => (be, CB c.co.cells 106) :: (bb, CB [.slice a1 c.n p1, .slice a2 c.inn.length p2, .int .i64 c.st] 92) :: (b2, CB [.int .i64 (f : Int), .int .i64 (t : Int)] 47) :: (b1, CB [.slice a1 c.n p1, .slice a2 c.inn.length p2, .int .i64 c.st] 24) :: q.2.2.2.2) (fun q => 21 - q.1) ((0, [], none, 0, [])) ⟨Nat.zero_le _, Cn.BefI.nil c f t, ⟨none, 0, rfl, Nat.le_refl _, .inr ⟨rfl, rfl, rfl⟩⟩⟩ s10 ((by simp only [List.append_nil]; exact sbA)) ?_
   rintro ⟨n, L, la, lcap, Hr⟩ e ⟨(hn21 : n ≤ 21), (hI : c.BefI f t n L), (hrow : NewRow 106 4 L.length (cRow L) (.slice la L.length lcap) Hr)⟩
   refine zR fun ds => ?_
   refine zD hF (y_lss rf rf) ?_
   refine zO ?_
   refine W_cond rf (fun c10 => ?_) (fun c10 => ?_)
   ·
    try simp only [qz1, qz2, qz3, qz4, qz5, qz6, qz7, qz8] at c10
    have hnl : n < 21 := by omega
    have hLl := hI.len
    obtain ⟨X, hX⟩ : ∃ X, X = c.old f t n := ⟨_, rfl⟩
    have hXg : ∀ k, k < 4 → X.g k = if k = t then c.co.g t - n else if k = f then c.co.g f + n else c.co.g k := fun k hk => by rw [hX]; exact c.old_g n om0 om0 hk
    refine zU ?_
    refine W_seq ?_
    refine W_block ?_
    refine zR fun ds => ?_
    refine zm (.int .i64 _) hF ?_
    refine za (.int .i64 _) hF ?_
    refine zP fun ds => ?_
    refine zD hF (y_loadN rf Tryz.isAgg106 Tryz.sizeOf106 (Mem.own (us := [.int .i64 _, .int .i64 _, .int .i64 _, .int .i64 _]) 0 rf rf) rf) ?_
    refine WS_new hF rf (y_alloc Tryz.zeroValue106 rf) (fun bo => ?_)
    refine WS_store hF (us := [.int .i64 _, .int .i64 _, .int .i64 _, .int .i64 _]) (i := 0) rf rf Tryz.sizeOf106 rf rf rf d20 ?_
    refine zO ?_
    rw [show splice [.int .i64 0, .int .i64 0, .int .i64 0, .int .i64 0] 0 [.int .i64 c.co.a, .int .i64 c.co.b, .int .i64 c.co.c, .int .i64 c.co.d] = c.co.cells from rfl]
    refine W_region_lit (fun ds => ?_)
    refine zD hF (y_fieldAddr rf fa47_0) ?_
    refine zD hF (y_load1 rf Tryz.isAgg3 (Mem.own1 3 rf rf)) ?_
    refine zD hF (y_indexA (k := f) rf rf r1 d10 Tryz.runUnderlying106 Tryz.sizeOf3) ?_
    refine zD hF (y_load1 rf Tryz.isAgg3 (Mem.own (us := [.int .i64 (c.co.g f)]) 0 rf hd1)) ?_
    refine zm (.int .i64 _) hF ?_
    refine zD hF (y_add rf rf ui) ?_
    refine zD hF (y_indexA (k := f) rf rf r1 d10 Tryz.runUnderlying106 Tryz.sizeOf3) ?_
    refine WS_store hF (us := [.int .i64 _]) (i := 0) rf rf Tryz.sizeOf3 rf rf rf (by show 0 + f * 1 + 1 ≤ 4; omega) ?_
    refine zO ?_
    rw [Co.splice c.co _ (k := f) om0]
    obtain ⟨e3, hd3⟩ := (c.co.w f (c.co.g f + (n : Int))).drop (k := t) om0
    rw [Co.g_w _ _ om0 om0, if_neg (Ne.symm hft)] at hd3
    refine W_region_lit (fun ds => ?_)
    refine zD hF (y_fieldAddr rf fa47_1) ?_
    refine zD hF (y_load1 rf Tryz.isAgg3 (Mem.own1 3 rf rf)) ?_
    refine zD hF (y_indexA (k := t) rf rf r1 d10 Tryz.runUnderlying106 Tryz.sizeOf3) ?_
    refine zD hF (y_load1 rf Tryz.isAgg3 (Mem.own (us := [.int .i64 (c.co.g t)]) 0 rf hd3)) ?_
    refine zm (.int .i64 _) hF ?_
    refine zD hF (y_sub rf rf ui) ?_
    refine zD hF (y_indexA (k := t) rf rf r1 d10 Tryz.runUnderlying106 Tryz.sizeOf3) ?_
    refine WS_store hF (us := [.int .i64 _]) (i := 0) rf rf Tryz.sizeOf3 rf rf rf (by show 0 + t * 1 + 1 ≤ 4; omega) ?_
    refine zO ?_
    refine W_seq ?_
    rw [Co.splice _ _ (k := t) om0, show (c.co.w f (c.co.g f + (n : Int))).w t (c.co.g t - (n : Int)) = X from hX.symm]
    have hXb : ∀ k, k ≤ c.n → -1000 ≤ X.g k ∧ X.g k ≤ 1000 := fun k hk => by
     have a1 := hci.lo k om0
     have a2 := hci.hi k hk
     have a3 := hr k hk
     rw [hXg k om0]
     split
     ·omega
     ·split <;> omega
    refine W_region_lit (fun ds => ?_)
    refine zD hF (y_fieldAddr rf fa24_0) ?_
    refine zD hF (y_load1 rf Tryz.isAgg22 (Mem.own1 4 rf rf)) ?_
    refine zD hF (y_len rf Tryz.runUnderlying22) ?_
    refine zD hF (y_add rf rf ui) ?_
    refine zm (.int .i64 _) hF ?_
    refine zN ?_
    refine W_block ?_
    refine W_loop (γ := Nat) (fun i => i ≤ c.n + 1 ∧ ∀ k, k < i → 0 ≤ X.g k ∧ X.g k ≤ c.room k) (fun i => [(2, .pointer (some ⟨b1, 0, none⟩)), (3, .pointer (some ⟨b2, 0, none⟩)), (7, .pointer (some ⟨bb, 0, none⟩)), (8, .pointer (some ⟨be, 0, none⟩)), (9, .slice la L.length lcap), (31, .int .i64 (n : Int)), (11, .pointer (some ⟨bo, 0, none⟩)), (52, .int .i64 ((c.n + 1 : Nat) : Int)), (53, .int .i64 (i : Int))]) (fun i => (bo, CB X.cells 106) :: (be, CB c.co.cells 106) :: (bb, CB [.slice a1 c.n p1, .slice a2 c.inn.length p2, .int .i64 c.st] 92) :: (b2, CB [.int .i64 (f : Int), .int .i64 (t : Int)] 47) :: (b1, CB [.slice a1 c.n p1, .slice a2 c.inn.length p2, .int .i64 c.st] 24) :: Hr) (fun i => c.n + 1 - i) (0) ⟨Nat.zero_le _, fun k h => absurd h (Nat.not_lt_zero _)⟩ s10 (sbA) ?_
    rintro i e ⟨hi, hik⟩
    refine zR fun ds => ?_
    refine zD hF (y_lss rf rf) ?_
    refine zO ?_
    refine W_cond rf (fun c16 => ?_) (fun c16 => ?_)
    ·
     try simp only [qz1, qz2, qz3, qz4, qz5, qz6, qz7, qz8] at c16
     have hin : i ≤ c.n := by omega
     obtain ⟨e4, hd4⟩ := X.drop (k := i) om0
     refine zU ?_
     refine W_seq ?_
     refine W_block ?_
     refine zR fun ds => ?_
     refine zm (.int .i64 _) hF ?_
     refine za (.int .i64 _) hF ?_
     refine zO ?_
     refine W_draw0 hF Tryzmixed [] dk0 (fun ds => ?_)
     refine P_det rf (Over_nil (y_loadN rf Tryz.isAgg92 Tryz.sizeOf92 (Mem.own (us := [.slice _ _ _, .slice _ _ _, .int .i64 _]) 2 rf rf) rf)) ?_
     refine P_det rf (Over_nil (y_move (c := .int .i64 _) rf)) ?_
     refine P_det rf (Over_nil (y_callL rf rf Tryz.call59 (fun w hw => broom_any c a1 p1 a2 p2 i w hn hm (h1.st w hw) (h2.st w hw) hin))) ?_
     refine P_det rf (Over_nil (y_move (c := .int .i64 _) rf)) ?_
     refine P_det rf (Over_nil (y_indexA (k := i) rf rf r1 d10 Tryz.runUnderlying106 Tryz.sizeOf3)) ?_
     refine P_det rf (Over_nil (y_load1 rf Tryz.isAgg3 (Mem.own (us := [.int .i64 (X.g i)]) 0 rf hd4))) ?_
     refine P_new rf rf (Over_nil (y_buildSliceL bs22_1_0 rf)) ?_
     refine P_det rf (Over_in rf (Over_nil (by rintro _ _ ⟨b4, rfl, rfl⟩; exact (y_callL rf rf Tryz.call52 (fun w hw => cin_any _ _ _ _ _ _ w dc (by first | exact Ints.one 0 rfl w hw | exact Ints.two 0 rfl w hw)))))) ?_
     refine P_det rf (Over_out rf (Over_nil (y_not rf))) ?_
     refine PW_end rf ?_
     refine OverAll_cons (fun w62 l62 => ?_)
     refine OverAll_nil ?_
     rintro ⟨-, h62⟩
     obtain ⟨b3, rfl, rfl⟩ := h62
     refine Then_normal ?_
     refine W_cond rf (fun c18 => ?_) (fun c18 => ?_)
     ·
      try simp only [qz1, qz2, qz3, qz4, qz5, qz6, qz7, qz8] at c18
      have hI2 : c.BefI f t (n + 1) L := hI.skip fun h => by
       have a1 := h.inn.lo i om0
       have a2 := h.inn.hi i hin
       rw [← hX] at a1 a2
       rw [inB1.2 ⟨a1, a2⟩] at c18
       cases c18
      refine W_exit ?_
      refine InB_other rf ?_
      refine Then_exit ?_
      refine Loop_exit ?_
      refine InB_other rf ?_
      refine Then_exit ?_
      refine InB_same ?_
      refine zT fun ds => ?_
      refine zD hF (y_add rf rf ui) ?_
      refine zm (.int .i64 _) hF ?_
      refine WS_nil ?_
      exact Loop_next (n + 1, L, la, lcap, Hr) ⟨by simp only; omega, hI2, hrow⟩ s10 sbA (by simp only; omega)
     ·
      try simp only [qz1, qz2, qz3, qz4, qz5, qz6, qz7, qz8] at c18
      refine W_skip ?_
      refine InB_normal ?_
      refine zT fun ds => ?_
      refine zD hF (y_add rf rf ui) ?_
      refine zm (.int .i64 _) hF ?_
      refine WS_nil ?_
      exact Loop_next (i + 1) ⟨by omega, fun k hk => by by_cases hki : k = i; (subst hki; exact (inB1.1 c18)); exact hik k om0⟩ s10 sbA om0
    ·
     try simp only [qz1, qz2, qz3, qz4, qz5, qz6, qz7, qz8] at c16
     have hXin : c.In X := by
      rw [hX]
      exact Cn.old_in hok hp fun k hk => by rw [← hX]; exact hik k om0
     refine W_exit ?_
     refine Then_exit ?_
     refine Loop_exit ?_
     refine InB_same ?_
     refine zS fun ds => ?_
     refine zD hF (y_loadN rf Tryz.isAgg92 Tryz.sizeOf92 (Mem.own (us := [.slice _ _ _, .slice _ _ _, .int .i64 _]) 2 rf rf) rf) ?_
     refine zD hF (y_loadN rf Tryz.isAgg106 Tryz.sizeOf106 (Mem.own (us := [.int .i64 _, .int .i64 _, .int .i64 _, .int .i64 _]) 0 rf rf) rf) ?_
     refine zD hF (y_loadN rf Tryz.isAgg47 Tryz.sizeOf47 (Mem.own (us := [.int .i64 _, .int .i64 _]) 3 rf rf) rf) ?_
     refine zD hF (y_callL rf rf Tryz.call60 (fun w hw => bpour_any c a1 p1 a2 p2 X f t w hok hn hm (h1.st w hw) (h2.st w hw) hXin hf ht hft)) ?_
     refine zm (.tuple _) hF ?_
     refine zD hF (y_extract (c := .agg _) rf rf) ?_
     refine zD hF (y_extract (c := .bool _) rf rf) ?_
     refine WS_new hF rf (y_alloc Tryz.zeroValue106 rf) (fun bn => ?_)
     refine WS_store hF (us := [.int .i64 _, .int .i64 _, .int .i64 _, .int .i64 _]) (i := 0) rf rf Tryz.sizeOf106 rf rf rf d20 ?_
     refine za (.bool _) hF ?_
     refine zP fun ds => ?_
     refine zm (.bool _) hF ?_
     refine zm (.bool _) hF ?_
     refine WS_split 74 rf (fun g21_1 => ?_) (fun g21_1 => ?_)
     ·
      try simp only [qz1, qz2, qz3, qz4, qz5, qz6, qz7, qz8] at g21_1
      refine zD hF (y_loadN rf Tryz.isAgg106 Tryz.sizeOf106 (Mem.own (us := [.int .i64 _, .int .i64 _, .int .i64 _, .int .i64 _]) 0 rf rf) rf) ?_
      refine zD hF (y_loadN rf Tryz.isAgg106 Tryz.sizeOf106 (Mem.own (us := [.int .i64 _, .int .i64 _, .int .i64 _, .int .i64 _]) 2 rf rf) rf) ?_
      refine zD hF (y_eqlA rf rf (eqOp_co (u := (if c.noB X f t then X else c.to X f t)) (v := c.co))) ?_
      refine zD hF (zpk (.bool _)) ?_
      refine zN ?_
      refine W_cond rf (fun c21 => ?_) (fun c21 => ?_)
      ·
       try simp only [qz1, qz2, qz3, qz4, qz5, qz6, qz7, qz8] at c21
       have hB : c.IsBef f t X := ⟨hXin, g21_1, by rw [Cn.can_to g21_1] at c21; exact c21⟩
       refine W_region_lit (fun ds => ?_)
       refine zm (.slice _ _ _) hF ?_
       refine zD hF (y_loadN rf Tryz.isAgg106 Tryz.sizeOf106 (Mem.own (us := [.int .i64 _, .int .i64 _, .int .i64 _, .int .i64 _]) 1 rf rf) rf) ?_
       refine WS_newS hF rf (y_buildSliceL bs108_1_0 rf) (fun b5 => ?_)
       refine WS_appendN hF (H1 := (_ :: _ :: _ :: _ :: _ :: _ :: _ :: [])) (Hn := Hr) (news := X.cells) rf rf rf Tryz.underlying108 infCo rf rf hrow (cRow_len L) (.inr ⟨_, _, rfl, Mem.own (us := X.cells) 0 rf rf⟩) rf rf om0 om0 om0 ?_
       intro a3 cap3 H3 hr3
       have hrow3 : NewRow 106 4 (L ++ [c.old f t n]).length (cRow (L ++ [c.old f t n])) (.slice a3 (L ++ [c.old f t n]).length cap3) H3 := by
        rw [cRow_snoc, List.length_append, ← hX]
        exact hr3
       have hI2 : c.BefI f t (n + 1) (L ++ [c.old f t n]) := hI.add hok hp (by rw [← hX]; exact hB)
       rw [show L.length + 1 = (L ++ [c.old f t n]).length by rw [List.length_append]; rfl]
       refine za (.slice _ _ _) hF ?_
       refine WS_nil ?_
       refine InB_normal ?_
       refine zT fun ds => ?_
       refine zD hF (y_add rf rf ui) ?_
       refine zm (.int .i64 _) hF ?_
       refine WS_nil ?_
       exact Loop_next (n + 1, L ++ [c.old f t n], a3, cap3, H3) ⟨by simp only; omega, hI2, hrow3⟩ s10 sbA (by simp only; omega)
      ·
       try simp only [qz1, qz2, qz3, qz4, qz5, qz6, qz7, qz8] at c21
       have hI2 : c.BefI f t (n + 1) L := hI.skip fun h => by
        rw [← hX] at h
        first
         | exact c21 (by rw [Cn.can_to h.can]; exact h.to)
         | (rw [h.can] at g21_1; cases g21_1)
       refine W_skip ?_
       refine InB_normal ?_
       refine zT fun ds => ?_
       refine zD hF (y_add rf rf ui) ?_
       refine zm (.int .i64 _) hF ?_
       refine WS_nil ?_
       exact Loop_next (n + 1, L, la, lcap, Hr) ⟨by simp only; omega, hI2, hrow⟩ s10 sbA (by simp only; omega)
     ·
      try simp only [qz1, qz2, qz3, qz4, qz5, qz6, qz7, qz8] at g21_1
      refine zno hF ?_
      refine zno hF ?_
      refine zno hF ?_
      refine zD hF (zpk (.bool _)) ?_
      refine zN ?_
      refine W_cond rf (fun c21 => ?_) (fun c21 => ?_)
      ·cases c21
      ·
       try simp only [qz1, qz2, qz3, qz4, qz5, qz6, qz7, qz8] at c21
       have hI2 : c.BefI f t (n + 1) L := hI.skip fun h => by
        rw [← hX] at h
        first
         | exact c21 (by rw [Cn.can_to h.can]; exact h.to)
         | (rw [h.can] at g21_1; cases g21_1)
       refine W_skip ?_
       refine InB_normal ?_
       refine zT fun ds => ?_
       refine zD hF (y_add rf rf ui) ?_
       refine zm (.int .i64 _) hF ?_
       refine WS_nil ?_
       exact Loop_next (n + 1, L, la, lcap, Hr) ⟨by simp only; omega, hI2, hrow⟩ s10 sbA (by simp only; omega)
   ·
    try simp only [qz1, qz2, qz3, qz4, qz5, qz6, qz7, qz8] at c10
    obtain rfl : n = 21 := by omega
    refine W_exit ?_
    refine Then_exit ?_
    refine Loop_exit ?_
    refine InB_same ?_
    refine zS fun ds => ?_
    refine zm (.slice _ _ _) hF ?_
    refine WS_pullE (M' := Hr) [_, _, _, _] (List.perm_append_comm (l₁ := [_, _, _, _]) (l₂ := Hr)) ?_
    refine WS_callS hF rf rf rf Tryz.call61 (sortN_cs _ _ _ la lcap L Hr _ (by have := hI.len; omega) hrow) ?_
    rintro _ _ ⟨rfl, ys, Hy, hpm, hso, hry, rfl⟩
    rw [← hpm.length_eq]
    have hBS := hI.done hok hp hpm hso
    have hyl : ys.length ≤ 21 := by rw [hpm.length_eq]; exact hI.len
    have hyin : ∀ k, k < ys.length → c.In (ys.getD k Co.z) := fun k hk => by
     refine ((hBS.mem _).1 ?_).inn
     rw [List.getD_eq_getElem?_getD, List.getElem?_eq_getElem hk]
     exact List.getElem_mem _
    refine zP fun ds => ?_
    refine za (.slice _ _ _) hF ?_
    refine zO ?_
    refine zR fun ds => ?_
    refine zm (.slice _ _ _) hF ?_
    refine zD hF (y_len rf Tryz.runUnderlying108) ?_
    refine zm (.int .i64 _) hF ?_
    refine zN ?_
    refine W_block ?_
    refine W_loop (γ := Nat × List Bl × Option Addr × Nat × List Blk × List Blk) (fun q => q.1 ≤ ys.length ∧ q.2.1.map Bl.x = ys.take q.1 ∧ NewRow 24 3 q.2.1.length (blRow c q.2.1) (.slice q.2.2.1 q.2.1.length q.2.2.2.1) q.2.2.2.2.1 ∧ (∀ b ∈ q.2.1, b.RdH c q.2.2.2.2.2) ∧ Shp q.2.2.2.2.2 q.2.2.2.2.2) (fun q => [(7, .pointer (some ⟨bb, 0, none⟩)), (15, .slice q.2.2.1 q.2.1.length q.2.2.2.1), (86, .slice la ys.length lcap), (87, .int .i64 (ys.length : Int)), (88, .int .i64 (q.1 : Int))]) (fun q => Hy ++ ((bb, CB [.slice a1 c.n p1, .slice a2 c.inn.length p2, .int .i64 c.st] 92) :: (q.2.2.2.2.2 ++ q.2.2.2.2.1))) (fun q => ys.length - q.1) ((0, [], none, 0, [], [])) ⟨Nat.zero_le _, rfl, ⟨none, 0, rfl, Nat.le_refl _, .inr ⟨rfl, rfl, rfl⟩⟩, fun b h => (by cases h), .nil⟩ s10 (sbA) ?_
    rintro ⟨i, bs, aa, ac, Ha, HX⟩ e ⟨(hi : i ≤ ys.length), (hmp : bs.map Bl.x = ys.take i), (hra : NewRow 24 3 bs.length (blRow c bs) (.slice aa bs.length ac) Ha), (hrd : ∀ b ∈ bs, b.RdH c HX), (hsh : Shp HX HX)⟩
    refine zR fun ds => ?_
    refine zD hF (y_lss rf rf) ?_
    refine zO ?_
    refine W_cond rf (fun c27 => ?_) (fun c27 => ?_)
    ·
     try simp only [qz1, qz2, qz3, qz4, qz5, qz6, qz7, qz8] at c27
     have hil : i < ys.length := by omega
     have hbl : bs.length = i := by
      have := congrArg List.length hmp
      rw [List.length_map, List.length_take] at this
      omega
     obtain ⟨by_, jy, rfl, rfl, hjl, hjc⟩ := NewRow.head hry om0
     refine zU ?_
     refine W_seq ?_
     refine W_block ?_
     refine zR fun ds => ?_
     refine zD hF (y_index (k := i) rf rf r1 d10 Tryz.runUnderlying108 Tryz.sizeOf106) ?_
     refine zD hF (y_loadN rf Tryz.isAgg106 Tryz.sizeOf106 (Mem.rowJ (enc := Co.cells) (junk := jy) (k := i) co_len4 0 rf hil rfl om0) rf) ?_
     refine WS_new hF rf (y_alloc Tryz.zeroValue106 rf) (fun bx => ?_)
     refine WS_store hF (us := [.int .i64 _, .int .i64 _, .int .i64 _, .int .i64 _]) (i := 0) rf rf Tryz.sizeOf106 rf rf rf d20 ?_
     refine zQ fun ds => ?_
     refine zm (.slice _ _ _) hF ?_
     refine zD hF (y_loadN rf Tryz.isAgg92 Tryz.sizeOf92 (Mem.own (us := [.slice _ _ _, .slice _ _ _, .int .i64 _]) 2 rf rf) rf) ?_
     refine zD hF (y_loadN rf Tryz.isAgg106 Tryz.sizeOf106 (Mem.own (us := [.int .i64 _, .int .i64 _, .int .i64 _, .int .i64 _]) 0 rf rf) rf) ?_
     refine WS_gen hF rf (y_callL rf rf Tryz.call64 (fun w hw => bcans_any c a1 p1 a2 p2 (ys.getD i Co.z) w hok hn hm (h1.st w hw) (h2.st w hw))) ?_
     rintro _ _ ⟨z1, q1, z2, q2, H1, H2, rfl, hr1, hr2, rfl⟩
     refine WS_back ?_
     refine WS_newS hF rf (y_buildSliceL bs34_1_0 rf) (fun bs_ => ?_)
     refine WS_pullE (M' := (bs_, _) :: (bx, _) :: (by_, _) :: (bb, CB [.slice a1 c.n p1, .slice a2 c.inn.length p2, .int .i64 c.st] 92) :: (HX ++ (H1 ++ H2))) Ha (by simp only [List.append_eq, List.nil_append, List.append_assoc, List.cons_append]; repeat (first | exact perm_3 | apply List.Perm.cons)) ?_
     refine WS_appendN hF (H1 := (_ :: _ :: _ :: _ :: (HX ++ (H1 ++ (H2))))) (Hn := Ha) (news := Bl.cells c ⟨ys.getD i Co.z, z1, q1, z2, q2⟩) rf rf rf Tryz.underlying34 infCans rf rf hra (blRow_len c bs) (.inr ⟨_, _, rfl, Mem.own (us := Bl.cells c ⟨ys.getD i Co.z, z1, q1, z2, q2⟩) 0 rf rf⟩) rf rf om0 om0 om0 ?_
     intro a4 cap4 H4 hr4
     have hrow4 : NewRow 24 3 (bs ++ [(⟨ys.getD i Co.z, z1, q1, z2, q2⟩ : Bl)]).length (blRow c (bs ++ [(⟨ys.getD i Co.z, z1, q1, z2, q2⟩ : Bl)])) (.slice a4 (bs ++ [(⟨ys.getD i Co.z, z1, q1, z2, q2⟩ : Bl)]).length cap4) H4 := by
      rw [blRow_snoc, List.length_append]
      exact hr4
     have hrd4 : ∀ b ∈ bs ++ [(⟨ys.getD i Co.z, z1, q1, z2, q2⟩ : Bl)], b.RdH c (HX ++ (H1 ++ H2)) := fun b hb => by
      rcases List.mem_append.1 hb with hb | hb
      ·exact (hrd b hb).mono (List.sublist_append_left _ _)
      ·simp only [List.mem_singleton] at hb
       subst hb
       exact Bl.RdH.new hr1 hr2
     have hsh4 : Shp (HX ++ (H1 ++ H2)) (HX ++ (H1 ++ H2)) := hsh.app (hr1.shp.app hr2.shp)
     rw [show bs.length + 1 = (bs ++ [(⟨ys.getD i Co.z, z1, q1, z2, q2⟩ : Bl)]).length by rw [List.length_append]; rfl]
     refine za (.slice _ _ _) hF ?_
     refine WS_nil ?_
     refine InB_normal ?_
     refine zT fun ds => ?_
     refine zD hF (y_add rf rf ui) ?_
     refine zm (.int .i64 _) hF ?_
     refine WS_nil ?_
     exact Loop_next (i + 1, bs ++ [⟨ys.getD i Co.z, z1, q1, z2, q2⟩], a4, cap4, H4, HX ++ (H1 ++ H2)) ⟨by simp only; omega, map_take_snoc hmp hil rfl, hrow4, hrd4, hsh4⟩ s10 sbA (by simp only; omega)
    ·
     try simp only [qz1, qz2, qz3, qz4, qz5, qz6, qz7, qz8] at c27
     obtain rfl : i = ys.length := by omega
     refine W_exit ?_
     refine Then_exit ?_
     refine Loop_exit ?_
     refine InB_same ?_
     refine zS fun ds => ?_
     refine zm (.slice _ _ _) hF ?_
     refine za (.slice _ _ _) hF ?_
     refine za (.int .i64 _) hF ?_
     refine zN ?_
     refine W_ret ?_
     refine NoG_ret ?_
     refine Fin_ret [.slice _ _ _, .int .i64 _] (HX ++ Ha) Tryz.results22 ⟨by rfl, by rfl, trivial⟩ (HSub.sub sbA) ?_
     refine ⟨0, bs, aa, ac, Ha, HX, rfl, ?_, hra, hrd, hsh, rfl⟩
     rw [hmp, List.take_length]
     unfold Cn.Bef
     rw [if_pos hokB, if_pos hvB]
     exact ⟨rfl, hBS⟩
section
variable {C : Ctx} {e : Env} {H : List Blk} {d : Option Tmp} {ty : TypeId} {pos : String} {af : Array Edge}
end
theorem shift_zero {a : Option Addr} {sz cap : Nat} : (∃ b o, a = some ⟨b, o, none⟩) → shiftA a 0 sz cap = a := by
 rintro ⟨b, o, rfl⟩
 by_cases h : cap = 0
 ·unfold shiftA; rw [if_pos h]
 ·rw [shift_some h, Nat.zero_mul, Nat.add_zero]
section
variable {α : Type} {enc : α → List Value} {sz : Nat} {d : α} {w : World} {a : Option Addr} {n cap : Nat} {xs : List α}
theorem Rws.pre (h : Rws enc sz d w a n cap xs) {k : Nat} (hk : k ≤ n) : Rws enc sz d w (shiftA a 0 sz cap) k cap (xs.take k) :=
 ⟨by rw [List.length_take, h.len]; omega, Nat.le_trans hk h.le, fun j hj => by
  obtain ⟨b, o, rfl, hc⟩ := h.cell j om0
  refine ⟨b, o, shift_zero ⟨_, _, rfl⟩, ?_⟩
  have : (xs.take k).getD j d = xs.getD j d := by simp [List.getD_eq_getElem?_getD, hj]
  rw [this]; exact hc⟩
end
def lexI : List Int → List Int → Bool
 | x :: xs, y :: ys => if x = y then lexI xs ys else decide (x < y)
 | _, _ => false
def blIns (bs : List Bl) (k : Nat) (y : Bl) : List Bl := bs.take k ++ y :: bs.drop k
structure Bl.Rd (c : Cn) (w : World) (b : Bl) : Prop where
 inn : c.In b.x
 i : Ints w b.i (c.of b.x).inn.length b.ki (c.of b.x).inn
set_option maxRecDepth 100000
set_option maxHeartbeats 1000000
def setI (l : List Int) (k : Nat) (v : Int) : List Int := if k = 0 then l else l.set (k - 1) v
theorem setI_len (l : List Int) (k : Nat) (v : Int) : (setI l k v).length = l.length := by
 unfold setI; split
 ·rfl
 ·exact List.length_set
theorem setI_get (l : List Int) (k j : Nat) (v : Int) (hk : k ≤ l.length) (hj : j < l.length) : (setI l k v).getD j 0 = if j + 1 = k then v else l.getD j 0 := by
 unfold setI
 split
 ·rename_i h; rw [if_neg om0]
 ·rename_i h
  simp only [List.getD_eq_getElem?_getD, List.getElem?_set]
  by_cases e : k - 1 = j
  ·rw [if_pos e, if_pos (show j + 1 = k by omega), if_pos om0]; rfl
  ·rw [if_neg e, if_neg (show ¬ j + 1 = k by omega)]
def Cn.ci (c : Cn) (f t : Nat) (a b : Int) : List Int := setI (setI c.inn f b) t a
def Cn.cand (c : Cn) (f t : Nat) (a b : Int) : Cn := ⟨c.sz, c.ci f t a b, c.st + sumL c.inn - sumL (c.ci f t a b)⟩
theorem Cn.ci_len (c : Cn) (f t : Nat) (a b : Int) : (c.ci f t a b).length = c.inn.length := by unfold Cn.ci; rw [setI_len, setI_len]
theorem Cn.ci_get {c : Cn} {f t : Nat} (a b : Int) (hok : c.Ok) (hp : c.Fp f t) {j : Nat} (hj : j < c.n) : (c.ci f t a b).getD j 0 = if j + 1 = t then a else if j + 1 = f then b else c.i j := by
 have hl := hok.len
 have h1 := hp.fb
 have h2 := hp.tb
 unfold Cn.ci
 rw [setI_get _ _ _ _ (by rw [setI_len]; omega) (by rw [setI_len]; omega), setI_get _ _ _ _ om0 om0]
 rfl
theorem sum3 (l : List Int) (h : l.length ≤ 3) : sumL l = l.getD 0 0 + l.getD 1 0 + l.getD 2 0 := by
 match l, h with
 | [], _ => rfl
 | [_], _ => simp [sumL]
 | [_, _], _ => simp [sumL]
 | [_, _, _], _ => simp [sumL]; omega
 | _ :: _ :: _ :: _ :: _, h => simp only [List.length_cons] at h; omega
theorem Cn.cand_sm {c : Cn} {f t : Nat} (a b : Int) (hok : c.Ok) : (c.cand f t a b).co.sm = c.co.sm := by
 have h3 := hok.n3
 have hl := hok.len
 have h1 := sum3 c.inn om0
 have h2 := sum3 (c.ci f t a b) (by rw [c.ci_len]; omega)
 show (c.st + sumL c.inn - sumL (c.ci f t a b)) + (c.ci f t a b).getD 0 0 + (c.ci f t a b).getD 1 0 + (c.ci f t a b).getD 2 0 = c.st + c.inn.getD 0 0 + c.inn.getD 1 0 + c.inn.getD 2 0
 omega
theorem Cn.cand_g {c : Cn} {f t : Nat} (a b : Int) (hok : c.Ok) (hp : c.Fp f t) {k : Nat} (h0 : 0 < k) (hk : k ≤ c.n) : (c.cand f t a b).co.g k = if k = t then a else if k = f then b else c.co.g k := by
 have h3 := hok.n3
 obtain ⟨j, rfl⟩ : ∃ j, k = j + 1 := ⟨k - 1, by omega⟩
 rw [(c.cand f t a b).co_g j om0, c.co_g j om0]
 exact Cn.ci_get a b hok hp om0
theorem Cn.cand_z {c : Cn} {f t : Nat} (a b : Int) (hok : c.Ok) {k : Nat} (hk : c.n < k) (hk4 : k < 4) : (c.cand f t a b).co.g k = 0 := by
 have hl := hok.len
 obtain ⟨j, rfl⟩ : ∃ j, k = j + 1 := ⟨k - 1, by omega⟩
 rw [(c.cand f t a b).co_g j om0]
 show (c.ci f t a b).getD j 0 = 0
 rw [List.getD_eq_getElem?_getD, List.getElem?_eq_none (by rw [c.ci_len]; omega)]
 rfl
def Cn.jx (f t : Nat) (x : Co) : Int := (if t = 0 then 0 else x.g t) * 21 + (if f = 0 then 0 else x.g f)
theorem Cn.IsBef.parts {c : Cn} {f t : Nat} {x : Co} (h : c.IsBef f t x) (hok : c.Ok) (hp : c.Fp f t) : (0 ≤ (if t = 0 then 0 else x.g t) ∧ (if t = 0 then 0 else x.g t) ≤ 20) ∧ 0 ≤ (if f = 0 then 0 else x.g f) ∧ (if f = 0 then 0 else x.g f) ≤ 20 := by
 have h3 := hok.n3
 have h1 := hp.fb
 have h2 := hp.tb
 have key : ∀ k, k ≤ c.n → 0 ≤ (if k = 0 then 0 else x.g k) ∧ (if k = 0 then 0 else x.g k) ≤ 20 := fun k hk => by
  by_cases h0 : k = 0
  ·rw [if_pos h0]; exact ⟨Int.le_refl _, by decide⟩
  ·rw [if_neg h0]
   have a1 := h.inn.lo k om0
   have a2 := h.inn.hi k hk
   obtain ⟨j, rfl⟩ : ∃ j, k = j + 1 := ⟨k - 1, by omega⟩
   rw [c.room_s] at a2
   have := hok.s j om0
   omega
 exact ⟨key t h2, key f h1⟩
theorem Cn.IsBef.jx_split {c : Cn} {f t : Nat} {x : Co} (h : c.IsBef f t x) (hok : c.Ok) (hp : c.Fp f t) {a b : Nat} (hb : b ≤ 20) (hj : Cn.jx f t x = ((a * 21 + b : Nat) : Int)) : (if t = 0 then 0 else x.g t) = (a : Int) ∧ (if f = 0 then 0 else x.g f) = (b : Int) := by
 obtain ⟨⟨h1, h2⟩, h3, h4⟩ := h.parts hok hp
 unfold Cn.jx at hj
 omega
theorem Cn.IsBef.cand {c : Cn} {f t : Nat} {x : Co} (h : c.IsBef f t x) (hok : c.Ok) (hp : c.Fp f t) {a b : Nat} (hb : b ≤ 20) (hj : Cn.jx f t x = ((a * 21 + b : Nat) : Int)) : x = (c.cand f t a b).co := by
 have h3 := hok.n3
 obtain ⟨h1, h2⟩ := h.jx_split hok hp hb hj
 obtain ⟨_, _, hk⟩ := h.gs hok hp
 have hg : ∀ k, 0 < k → k < 4 → x.g k = (c.cand f t a b).co.g k := fun k h0 hk4 => by
  by_cases hkn : k ≤ c.n
  ·rw [Cn.cand_g _ _ hok hp h0 hkn]
   split
   ·rename_i e; subst e; rw [if_neg om0] at h1; exact h1
   ·split
    ·rename_i e; subst e; rw [if_neg om0] at h2; exact h2
    ·exact (hk k hk4 (by assumption) (by assumption)).symm
  ·rw [h.inn.z k om0 hk4, Cn.cand_z _ _ hok om0 hk4]
 have hs := (h.sm hok hp).trans (Cn.cand_sm (f := f) (t := t) a b hok).symm
 refine Co.ext4 fun k hk4 => ?_
 by_cases h0 : k = 0
 ·subst h0
  have g1 := hg 1 dc dc
  have g2 := hg 2 dc dc
  have g3 := hg 3 dc dc
  rw [Co.sm_g, Co.sm_g] at hs
  omega
 ·exact hg k om0 hk4
structure Cn.RbI (c : Cn) (f t J : Nat) (L : List Co) : Prop where
 srt : L.Pairwise Co.lt
 mem : ∀ x, x ∈ L ↔ c.IsBef f t x ∧ Cn.jx f t x < (J : Int)
theorem Cn.RbI.nil {c : Cn} {f t : Nat} (hok : c.Ok) (hp : c.Fp f t) : c.RbI f t 0 [] := ⟨List.Pairwise.nil, fun x => ⟨fun h => (by cases h), fun ⟨h1, h2⟩ => by
 obtain ⟨⟨a1, _⟩, a2, _⟩ := h1.parts hok hp
 unfold Cn.jx at h2
 omega⟩⟩
theorem Cn.RbI.skip {c : Cn} {f t J : Nat} {L : List Co} (h : c.RbI f t J L) (hno : ∀ x, c.IsBef f t x → Cn.jx f t x = (J : Int) → False) : c.RbI f t (J + 1) L := ⟨h.srt, fun x => (h.mem x).trans ⟨fun ⟨h1, h2⟩ => ⟨h1, by push_cast; omega⟩, fun ⟨h1, h2⟩ => ⟨h1, by
 have := hno x h1
 push_cast at h2
 refine Classical.byContradiction fun h3 => this om0⟩⟩⟩
theorem Cn.RbI.add {c : Cn} {f t a b : Nat} {L : List Co} {x : Co} (hok : c.Ok) (hp : c.Fp f t) (hb : b ≤ 20) (h : c.RbI f t (a * 21 + b) L) (hx : c.IsBef f t x) (hj : Cn.jx f t x = ((a * 21 + b : Nat) : Int)) {k : Nat} (hk : k ≤ L.length) (h1 : ∀ j, j < k → (L.getD j Co.z).lt x) (h2 : k < L.length → ¬ (L.getD k Co.z).lt x) :
  c.RbI f t (a * 21 + (b + 1)) (L.take k ++ x :: L.drop k) := by
 have hnx : x ∉ L := fun h3 => by have := ((h.mem x).1 h3).2; omega
 have hmem : ∀ j (hj : j < L.length), L[j] ∈ L := fun j hj => List.getElem_mem hj
 have hcross : ∀ z ∈ L.drop k, x.lt z := fun z hz => by
  obtain ⟨i, hi, rfl⟩ := List.getElem_of_mem hz
  rw [List.length_drop] at hi
  rw [List.getElem_drop]
  have hkl : k < L.length := by omega
  have h3 := h2 hkl
  have hzk : x.lt L[k] := by
   have hne : x ≠ L[k] := fun e => hnx (e ▸ hmem k hkl)
   rcases hx.tot ((h.mem _).1 (hmem k hkl)).1 hok hp hne with h4 | h4
   ·exact h4
   ·rw [List.getD_eq_getElem?_getD, List.getElem?_eq_getElem hkl] at h3
    exact absurd h4 h3
  by_cases hi0 : i = 0
  ·subst hi0; exact hzk
  ·have := h.srt
   rw [List.pairwise_iff_getElem] at this
   exact Co.lt_tr hzk (this k (k + i) hkl om0 om0)
 refine ⟨?_, fun z => ?_⟩
 ·rw [List.pairwise_append, List.pairwise_cons]
  refine ⟨h.srt.sublist (List.take_sublist _ _), ⟨hcross, h.srt.sublist (List.drop_sublist _ _)⟩, fun u hu v hv => ?_⟩
  have hux : u.lt x := by
   obtain ⟨i, hi, rfl⟩ := List.getElem_of_mem hu
   rw [List.length_take] at hi
   rw [List.getElem_take]
   have := h1 i om0
   rwa [List.getD_eq_getElem?_getD, List.getElem?_eq_getElem om0] at this
  rcases List.mem_cons.1 hv with rfl | hv
  ·exact hux
  ·exact Co.lt_tr hux (hcross v hv)
 ·rw [List.mem_append, List.mem_cons]
  have hz : z ∈ L ↔ z ∈ L.take k ∨ z ∈ L.drop k := by
   conv => lhs; rw [← List.take_append_drop k L]
   exact List.mem_append
  constructor
  ·rintro (h3 | rfl | h3)
   ·obtain ⟨h4, h5⟩ := (h.mem z).1 (hz.2 (.inl h3)); exact ⟨h4, by omega⟩
   ·exact ⟨hx, by omega⟩
   ·obtain ⟨h4, h5⟩ := (h.mem z).1 (hz.2 (.inr h3)); exact ⟨h4, by omega⟩
  ·rintro ⟨h3, h4⟩
   by_cases h5 : Cn.jx f t z = ((a * 21 + b : Nat) : Int)
   ·exact .inr (.inl ((h3.cand hok hp hb h5).trans (hx.cand hok hp hb hj).symm))
   ·have := (h.mem z).2 ⟨h3, by omega⟩
    rcases hz.1 this with h6 | h6
    ·exact .inl h6
    ·exact .inr (.inr h6)
theorem Cn.RbI.done {c : Cn} {f t : Nat} {L : List Co} (hok : c.Ok) (hp : c.Fp f t) (h : c.RbI f t (21 * 21) L) : c.BefS f t L := ⟨h.srt, fun x => (h.mem x).trans ⟨fun h => h.1, fun h1 => ⟨h1, by
 obtain ⟨⟨_, a1⟩, _, a2⟩ := h1.parts hok hp
 unfold Cn.jx
 omega⟩⟩⟩
theorem Cn.RbI.len {c : Cn} {f t J : Nat} {L : List Co} (hok : c.Ok) (hp : c.Fp f t) (h : c.RbI f t J L) : L.length ≤ 1000 := by
 have hnd : (L.map fun x => (c.amt x f t).toNat).Nodup := by
  rw [List.nodup_iff_pairwise_ne, List.pairwise_map]
  refine h.srt.imp_of_mem fun {x y} hx hy hlt e => ?_
  have h1 := ((h.mem x).1 hx).1.old hok hp
  have h2 := ((h.mem y).1 hy).1.old hok hp
  rw [e] at h1
  exact absurd hlt (by rw [h1.trans h2.symm]; exact Co.lt_irr _)
 have hsub : ∀ z ∈ L.map (fun x => (c.amt x f t).toNat), z < 21 := fun z hz => by
  obtain ⟨x, hx, rfl⟩ := List.mem_map.1 hz
  have := ((h.mem x).1 hx).1.amt hok hp
  omega
 have := nodup_bd hnd hsub
 rw [List.length_map] at this
 omega
theorem co_drop {c : Cn} (hok : c.Ok) (x : Co) : ∃ rest, List.drop 1 x.cells = iv (c.of x).inn ++ rest := by
 have h1 := hok.n1
 have h3 := hok.n3
 unfold Cn.of
 simp only
 obtain h | h | h : c.n = 1 ∨ c.n = 2 ∨ c.n = 3 := by omega
 ·rw [h]; exact ⟨[.int .i64 x.c, .int .i64 x.d], rfl⟩
 ·rw [h]; exact ⟨[.int .i64 x.d], rfl⟩
 ·rw [h]; exact ⟨[], rfl⟩
theorem bmade_cs (w0 : World) (ds0 out0 : List Deferred) (c : Cn) (a1 : Option Addr) (p1 : Nat) (a2 : Option Addr) (p2 : Nat) (mk ck : Nat) (l : List (EntK Co)) (HX : List Blk) (hg : GoodM l ck) (hT : Tab HX l c.bestO) (hok : c.Ok) :
  Cs ⟨Tryz.prog, w0, ds0, out0⟩ 49 #[.agg #[.slice a1 c.n p1, .slice a2 c.inn.length p2, .int .i64 c.st], .map (some mk)] ((mk, MK encC l ck) :: HX) fun v Hn => ∃ b cap junk, v = .slice (some ⟨b, 0, none⟩) c.madeL.length cap ∧ Hn = (b, CB (iv c.madeL ++ junk) 3) :: (mk, MK encC l ck) :: HX ∧ (iv c.madeL ++ junk).length = cap * 1 ∧ c.madeL.length ≤ cap := by
 have hln := good_len hok hg hT
 have hn3 := hok.n3
 have hn1 := hok.n1
 have hF := wide_wide
 refine Cs_start (args := [_, _]) Tryz.func49 rf Tryz.ntmps49 rf ?_
 refine zR fun ds => ?_
 refine WS_new hF rf (y_box rf) (fun b2 => ?_)
 refine za (.slice _ _ _) hF ?_
 refine zP fun ds => ?_
 refine za (.slice _ _ _) hF ?_
 refine zO ?_
 refine zR fun ds => ?_
 refine zm (.map _) hF ?_
 refine WS_new hF rf (y_rangeK (enc := encC) (i := 1) rf Tryz.underlying94 rf) (fun it => ?_)
 refine zN ?_
 refine W_block ?_
 refine W_loop (γ := Array Nat × Nat × List Int × Option Addr × Nat × List Blk) (fun q => MdI c l q.1 q.2.2.1 ∧ ck ≤ q.2.1 ∧ NewRow 3 1 q.2.2.1.length (iv q.2.2.1) (.slice q.2.2.2.1 q.2.2.1.length q.2.2.2.2.1) q.2.2.2.2.2) (fun q => [(2, .pointer (some ⟨b2, 0, none⟩)), (5, .slice q.2.2.2.1 q.2.2.1.length q.2.2.2.2.1), (8, .pointer (some ⟨it, 0, none⟩))]) (fun q => (it, .mapIter (some mk) ck q.1 q.2.1) :: (b2, CB [.slice a1 c.n p1, .slice a2 c.inn.length p2, .int .i64 c.st] 92) :: (mk, MK encC l ck) :: (HX ++ q.2.2.2.2.2)) (fun q => leftL l q.1) ((#[], ck, [], none, 0, [])) ⟨MdI.nil c l, Nat.le_refl _, ⟨none, 0, rfl, Nat.le_refl _, .inr ⟨rfl, rfl, rfl⟩⟩⟩ s10 ((by simp only [List.append_nil]; exact sbA)) ?_
 rintro ⟨seen, c0, L, a, cap, Hr⟩ e ⟨(hI : MdI c l seen L), (hc0 : ck ≤ c0), (hrow : NewRow 3 1 L.length (iv L) (.slice a L.length cap) Hr)⟩
 refine zR fun ds => ?_
 refine WS_nextK hF (enc := encC) (i := 0) (j := 2) rf rf rf rf hg.old hc0 (fun hov => ?_) (fun y hy hns => ?_)
 ·
  have hlx : L.length + 3 * leftL l seen ≤ 3 * l.length := hI.len
  have hmd := hI.made hok hg hT hov
  have hL0 : 0 < L.length := by
   refine Nat.pos_of_ne_zero fun h => ?_
   have h2 := Cn.made_pos hok
   rw [← hmd] at h2
   rw [List.eq_nil_of_length_eq_zero h] at h2
   simp [sortL, Lib.compact, Lib.compactUpTo] at h2
  obtain ⟨bR, jR, rfl, rfl, hjl, hjc⟩ := NewRow.head hrow hL0
  have hsl := sortL_len L
  refine WS_pull (bR, CB (iv L ++ jR) 3) zu ?_
  refine zD hF (y_extract (c := .bool _) rf rf) ?_
  refine zO ?_
  refine W_cond rf (fun c3 => ?_) (fun c3 => ?_)
  ·cases c3
  ·
   try simp only [qz1, qz2, qz3, qz4, qz5, qz6, qz7, qz8] at c3
   refine W_exit ?_
   refine Then_exit ?_
   refine Loop_exit ?_
   refine InB_same ?_
   refine zS fun ds => ?_
   refine zm (.slice _ _ _) hF ?_
   refine WS_callS hF rf rf rf Tryz.call90 (sort_cs _ _ _ bR 3 cap L jR _ (by have := hlx; omega)) ?_
   rintro _ _ ⟨rfl, rfl⟩
   rw [← hsl]
   refine zP fun ds => ?_
   refine zm (.slice _ _ _) hF ?_
   refine WS_callS hF rf rf rf Tryz.call91 (compact_cs _ _ _ bR 3 cap (sortL L) jR _ (by rw [hsl]; omega) (by rw [hsl]; exact hjc)) ?_
   rintro _ _ ⟨rfl, j2, hj2, rfl⟩
   rw [hmd] at hj2 ⊢
   refine za (.slice _ _ _) hF ?_
   refine zN ?_
   refine W_ret ?_
   refine Fin_ret [.slice _ _ _] ((bR, _) :: (mk, _) :: HX) Tryz.results49 ⟨by rfl, trivial⟩ (HSub.sub sbA) ?_
   have hivL : (iv L).length = L.length := List.length_map _
   have hml : c.madeL.length ≤ L.length := by rw [← hmd, ← hsl]; unfold Lib.compact Lib.compactUpTo; rw [List.length_map]; refine Nat.le_trans (List.length_filter_le _ _) ?_; simp
   refine ⟨bR, cap, j2, rfl, rfl, ?_, by omega⟩
   have hivM : (iv c.madeL).length = c.madeL.length := List.length_map _
   rw [List.length_append] at hjl ⊢
   omega
 ·
  obtain ⟨xk, v, bn⟩ := y
  obtain ⟨x, hvx, hxl, hxr⟩ := hT.mem hg hy
  change v = x.v at hvx
  subst hvx
  have hkin : c.In xk := ((Cn.bestO_iff.1 hxl).way.in hok).1
  have hxl3 := (hok.of hkin).len
  have hxl4 : (c.of xk).inn.length = c.n := hxl3
  have hlx : L.length + 3 * leftL l seen ≤ 3 * l.length := hI.len
  obtain ⟨rest, hdr⟩ := co_drop hok xk
  refine zD hF (y_extract (c := .bool _) rf rf) ?_
  refine zO ?_
  refine W_cond rf (fun c3 => ?_) (fun c3 => ?_)
  ·
   try simp only [qz1, qz2, qz3, qz4, qz5, qz6, qz7, qz8] at c3
   refine zU ?_
   refine W_block ?_
   refine zR fun ds => ?_
   refine zD hF (y_entryK (enc := encC) (y := (xk, x.v, bn)) (i := 0) (j := 2) rf rf rf hy hg.born) ?_
   refine zD hF (y_extract (c := .agg _) rf rf) ?_
   refine WS_new hF rf (y_alloc Tryz.zeroValue106 rf) (fun b6 => ?_)
   refine WS_store hF (us := [.int .i64 _, .int .i64 _, .int .i64 _, .int .i64 _]) (i := 0) rf rf Tryz.sizeOf106 rf rf rf d20 ?_
   refine zQ fun ds => ?_
   refine zm (.slice _ _ _) hF ?_
   refine zD hF (y_fieldAddr rf fa92_0) ?_
   refine zD hF (y_fieldAddr rf fa24_0) ?_
   refine zD hF (y_load1 rf Tryz.isAgg22 (Mem.own1 2 rf rf)) ?_
   refine zD hF (y_len rf Tryz.runUnderlying22) ?_
   refine zD hF (y_add rf rf ui) ?_
   refine zD hF (YD_eq (y_sliceA_lohi (l := 1) (h := c.n + 1) (m := 4) rf rf rf rf om0 dc om0 om0 Tryz.runUnderlying106 Tryz.sizeOf3) (show Value.slice (some ⟨b6, 1, none⟩) (c.n + 1 - 1) 3 = .slice (some ⟨b6, 1, none⟩) (c.of xk).inn.length 3 by rw [Nat.add_sub_cancel, hxl4])) ?_
   refine WS_appendN hF (H1 := (_ :: _ :: _ :: _ :: (HX))) (Hn := Hr) (news := iv (c.of xk).inn) rf rf rf Tryz.underlying22 infInt rf rf hrow (iv_len _) (.inr ⟨_, _, rfl, Mem.own (us := iv (c.of xk).inn) 0 rf hdr⟩) (iv_len _) (iv_one _) om0 om0 om0 ?_
   intro a3 cap3 H3 hr3
   rw [← List.length_append]
   have hrow3 : NewRow 3 1 (L ++ (c.of xk).inn).length (iv (L ++ (c.of xk).inn)) (.slice a3 (L ++ (c.of xk).inn).length cap3) H3 := by
    rw [show iv (L ++ (c.of xk).inn) = iv L ++ iv (c.of xk).inn from List.map_append, List.length_append]
    exact hr3
   refine za (.slice _ _ _) hF ?_
   refine WS_nil ?_
   refine InB_normal ?_
   exact Loop_next (seen.push bn, ck, L ++ (c.of xk).inn, a3, cap3, H3) ⟨hI.step hok hy hg.born hns hkin, Nat.le_refl _, hrow3⟩ s10 sbA (leftL_lt hy hns)
  ·cases c3
theorem made_any (c : Cn) (a1 : Option Addr) (p1 : Nat) (a2 : Option Addr) (p2 : Nat) (w : World) (hG : Gv w) (hn : c.n ≤ 1000000) (hm : c.inn.length ≤ 1000000) (h1 : Ints w a1 c.n p1 c.sz) (h2 : Ints w a2 c.inn.length p2 c.inn) : Ct Tryz.prog 15 #[.agg #[.slice a1 c.n p1, .slice a2 c.inn.length p2, .int .i64 c.st]] w (MadeV c) := by
 have hF := wide_wide
 refine Ct_start (args := [_]) Tryz.func15 rf Tryz.ntmps15 rf ?_
 refine zR fun ds => ?_
 refine WS_new hF rf (y_box rf) (fun b1 => ?_)
 refine za (.slice _ _ _) hF ?_
 refine za (.int .i64 _) hF ?_
 refine zO ?_
 refine zR fun ds => ?_
 refine zD hF (y_loadN rf Tryz.isAgg24 Tryz.sizeOf24 (Mem.own (us := [.slice _ _ _, .slice _ _ _, .int .i64 _]) 0 rf rf) rf) ?_
 refine zD hF (y_callL rf rf Tryz.call47 (fun w hw => ccheck_any c a1 p1 a2 p2 w (hG.st w hw) hn hm (h1.st w hw) (h2.st w hw))) ?_
 refine za (.int .i64 _) hF ?_
 refine zP fun ds => ?_
 refine zm (.int .i64 _) hF ?_
 refine zD hF (y_neq rf rf) ?_
 refine zN ?_
 refine W_cond rf (fun c2 => ?_) (fun c2 => ?_)
 ·
  try simp only [qz1, qz2, qz3, qz4, qz5, qz6, qz7, qz8] at c2
  refine zR fun ds => ?_
  refine zm (.int .i64 _) hF ?_
  refine za (.slice _ _ _) hF ?_
  refine za (.int .i64 _) hF ?_
  refine zN ?_
  refine W_ret ?_
  refine Then_ret ?_
  refine Fin_ret [.slice _ _ _, .int .i64 _] [] Tryz.results15 ⟨by rfl, by rfl, trivial⟩ HSub.nil ?_
  obtain ⟨h3, h4⟩ := Cn.err_no c2
  rw [h4]
  exact MadeV.bad h3
 ·
  try simp only [qz1, qz2, qz3, qz4, qz5, qz6, qz7, qz8] at c2
  have hokB := Cn.err_iff.1 c2
  have hok := Cn.ok_iff.1 hokB
  refine W_skip ?_
  refine zS fun ds => ?_
  refine zD hF (y_loadN rf Tryz.isAgg24 Tryz.sizeOf24 (Mem.own (us := [.slice _ _ _, .slice _ _ _, .int .i64 _]) 0 rf rf) rf) ?_
  refine zD hF (y_buildL bd92_0 rf) ?_
  refine WS_new hF rf (y_alloc Tryz.zeroValue92 rf) (fun b5 => ?_)
  refine WS_store hF (i := 0) rf rf Tryz.sizeOf92 rf rf rf d20 ?_
  refine zO ?_
  refine W_tailH 5 Tryzmixed (fun e2 H2 => ∃ b cap junk, (iv c.madeL ++ junk).length = cap * 1 ∧ c.madeL.length ≤ cap ∧ Slots e2 [(2, .slice (some ⟨b, 0, none⟩) c.madeL.length cap)] ∧ HSub H2 [(b, CB (iv c.madeL ++ junk) 3)]) dk0 (fun ds e2 H2 hmid => ?_) (fun ds => ?_)
  ·
   obtain ⟨b, cap, junk, hj1, hj2, hsl, hsb⟩ := hmid
   rw [← hsl.sets]
   refine WS_sub hsb ?_
   refine za (.int .i64 _) hF ?_
   refine zN ?_
   refine W_ret ?_
   refine Fin_ret [.slice _ _ _, .int .i64 _] [(b, _)] Tryz.results15 ⟨by rfl, by rfl, trivial⟩ (HSub.sub sbA) ?_
   exact MadeV.ok hokB (NewRow.mk rfl hj1 hj2 (Cn.made_pos hok))
  ·
   refine WH_take 0 dk0 rf dk0 dk0 rf (ye_loadN rf Tryz.isAgg92 Tryz.sizeOf92 (Mem.own (us := [.slice _ _ _, .slice _ _ _, .int .i64 _]) 0 rf rf) rf) ?_
   refine WH_take 1 dk0 rf dk0 dk0 rf (ye_loadN rf Tryz.isAgg92 Tryz.sizeOf92 (Mem.own (us := [.slice _ _ _, .slice _ _ _, .int .i64 _]) 0 rf rf) rf) ?_
   refine WH_step1 2 dk0 (fun _ h => St.sub h sbA) rf ?_
   ·
    refine WS_gen hF rf (y_callL rf rf Tryz.call50 (fun w hw => ways_any c a1 p1 a2 p2 w hok hn hm (h1.st w hw) (h2.st w hw))) ?_
    rintro _ _ ⟨mk, l, ck, HX, rfl, rfl, hg, hT⟩
    refine WS_nil ?_
    refine WH_step1 3 dk0 (fun _ h => St.sub h sbA) rf ?_
    ·
     refine WS_callS hF rf rf rf Tryz.call49 (bmade_cs _ _ _ c a1 p1 a2 p2 mk ck l _ hg (hT.mono sbA) hok) ?_
     rintro _ _ ⟨b, cap, junk, rfl, rfl, hj1, hj2⟩
     refine WS_nil ?_
     refine WH_take 4 dk0 rf dk0 dk0 rf (ye_assign (c := .slice _ _ _) rf) ?_
     refine WH_done dk0 (fun _ h => St.sub h sbA) ?_
     exact ⟨_, _, _, hj1, hj2, s30, HSub.sub sbA⟩
theorem far_any (c : Cn) (a1 : Option Addr) (p1 : Nat) (a2 : Option Addr) (p2 : Nat) (w : World) (hG : Gv w) (hn : c.n ≤ 1000000) (hm : c.inn.length ≤ 1000000) (h1 : Ints w a1 c.n p1 c.sz) (h2 : Ints w a2 c.inn.length p2 c.inn) : Ct Tryz.prog 26 #[.agg #[.slice a1 c.n p1, .slice a2 c.inn.length p2, .int .i64 c.st]] w fun v _ => FarV c v := by
 have hF := wide_wide
 refine Ct_start (args := [_]) Tryz.func26 rf Tryz.ntmps26 rf ?_
 refine zR fun ds => ?_
 refine WS_new hF rf (y_box rf) (fun b1 => ?_)
 refine za (.int .i64 _) hF ?_
 refine za (.int .i64 _) hF ?_
 refine za (.int .i64 _) hF ?_
 refine zO ?_
 refine zR fun ds => ?_
 refine zD hF (y_loadN rf Tryz.isAgg24 Tryz.sizeOf24 (Mem.own (us := [.slice _ _ _, .slice _ _ _, .int .i64 _]) 0 rf rf) rf) ?_
 refine zD hF (y_callL rf rf Tryz.call47 (fun w hw => ccheck_any c a1 p1 a2 p2 w (hG.st w hw) hn hm (h1.st w hw) (h2.st w hw))) ?_
 refine za (.int .i64 _) hF ?_
 refine zP fun ds => ?_
 refine zm (.int .i64 _) hF ?_
 refine zD hF (y_neq rf rf) ?_
 refine zN ?_
 refine W_cond rf (fun c2 => ?_) (fun c2 => ?_)
 ·
  try simp only [qz1, qz2, qz3, qz4, qz5, qz6, qz7, qz8] at c2
  refine zR fun ds => ?_
  refine zm (.int .i64 _) hF ?_
  refine za (.int .i64 _) hF ?_
  refine za (.int .i64 _) hF ?_
  refine za (.int .i64 _) hF ?_
  refine zN ?_
  refine W_ret ?_
  refine Then_ret ?_
  refine Fin_ret [.int .i64 _, .int .i64 _, .int .i64 _] [] Tryz.results26 ⟨by rfl, by rfl, by rfl, trivial⟩ HSub.nil ?_
  exact FarV.bad (Cn.err_no c2).1 rfl
 ·
  try simp only [qz1, qz2, qz3, qz4, qz5, qz6, qz7, qz8] at c2
  have hokB := Cn.err_iff.1 c2
  have hok := Cn.ok_iff.1 hokB
  have hml := c.madeL_len
  refine W_skip ?_
  refine zS fun ds => ?_
  refine zD hF (y_loadN rf Tryz.isAgg24 Tryz.sizeOf24 (Mem.own (us := [.slice _ _ _, .slice _ _ _, .int .i64 _]) 0 rf rf) rf) ?_
  refine zD hF (y_buildL bd92_0 rf) ?_
  refine WS_new hF rf (y_alloc Tryz.zeroValue92 rf) (fun b6 => ?_)
  refine WS_store hF (i := 0) rf rf Tryz.sizeOf92 rf rf rf d20 ?_
  refine zP fun ds => ?_
  refine zD hF (y_loadN rf Tryz.isAgg92 Tryz.sizeOf92 (Mem.own (us := [.slice _ _ _, .slice _ _ _, .int .i64 _]) 0 rf rf) rf) ?_
  refine WS_gen hF rf (y_callL rf rf Tryz.call50 (fun w hw => ways_any c a1 p1 a2 p2 w hok hn hm (h1.st w hw) (h2.st w hw))) ?_
  rintro _ _ ⟨mk, l, ck, HX, rfl, rfl, hg, hT⟩
  refine WS_pull (b6, CB [.slice a1 c.n p1, .slice a2 c.inn.length p2, .int .i64 c.st] 92) zu ?_
  refine za (.map _) hF ?_
  refine zP fun ds => ?_
  refine za (.int .i64 _) hF ?_
  refine zO ?_
  refine zR fun ds => ?_
  refine zD hF (y_loadN rf Tryz.isAgg92 Tryz.sizeOf92 (Mem.own (us := [.slice _ _ _, .slice _ _ _, .int .i64 _]) 0 rf rf) rf) ?_
  refine zm (.map _) hF ?_
  refine WS_pull (mk, MK encC l ck) zu ?_
  refine WS_callS hF rf rf rf Tryz.call49 (bmade_cs _ _ _ c a1 p1 a2 p2 mk ck l _ hg (hT.mono sbA) hok) ?_
  rintro _ _ ⟨bm, cap, jm, rfl, rfl, hj1, hj2⟩
  refine WS_pull (b6, CB [.slice a1 c.n p1, .slice a2 c.inn.length p2, .int .i64 c.st] 92) zu ?_
  refine zD hF (y_len rf Tryz.runUnderlying22) ?_
  refine zm (.int .i64 _) hF ?_
  refine zN ?_
  refine W_block ?_
  refine W_loop (γ := Nat) (fun k => k ≤ c.madeL.length) (fun k => [(2, .int .i64 (c.farT k).1), (3, .int .i64 (c.farT k).2), (6, .pointer (some ⟨b6, 0, none⟩)), (7, .map (some mk)), (23, .slice (some ⟨bm, 0, none⟩) c.madeL.length cap), (24, .int .i64 (c.madeL.length : Int)), (25, .int .i64 (k : Int))]) (fun k => (b6, CB [.slice a1 c.n p1, .slice a2 c.inn.length p2, .int .i64 c.st] 92) :: (bm, CB (iv c.madeL ++ jm) 3) :: (mk, MK encC l ck) :: HX) (fun k => c.madeL.length - k) (0) (Nat.zero_le _) s10 (sbA) ?_
  intro k e hk
  refine zR fun ds => ?_
  refine zD hF (y_lss rf rf) ?_
  refine zO ?_
  refine W_cond rf (fun c8 => ?_) (fun c8 => ?_)
  ·
   try simp only [qz1, qz2, qz3, qz4, qz5, qz6, qz7, qz8] at c8
   have hkl : k < c.madeL.length := by omega
   obtain ⟨n, hn⟩ : ∃ n, n = c.madeL.getD k 0 := ⟨_, rfl⟩
   have hmk := Cn.made_at hok hkl
   rw [← hn] at hmk
   have hts := Cn.farT_succ hkl
   rw [← hn] at hts
   refine zU ?_
   refine W_seq ?_
   refine W_block ?_
   refine zR fun ds => ?_
   refine zD hF (y_index (k := k) rf rf r1 d10 Tryz.runUnderlying22 Tryz.sizeOf3) ?_
   refine zD hF (y_load1 rf Tryz.isAgg3 (Mem.own (us := [.int .i64 n]) 1 rf (drop_iv om0 hn.symm))) ?_
   refine za (.int .i64 _) hF ?_
   refine zP fun ds => ?_
   refine zm (.map _) hF ?_
   refine zD hF (y_loadN rf Tryz.isAgg92 Tryz.sizeOf92 (Mem.own (us := [.slice _ _ _, .slice _ _ _, .int .i64 _]) 0 rf rf) rf) ?_
   refine zm (.int .i64 _) hF ?_
   refine WS_gen hF rf (y_callL rf rf Tryz.call54 (fun w hw => some_any c a1 p1 a2 p2 n w)) ?_
   rintro _ _ ⟨bb, bp, rfl, rfl⟩
   refine WS_pull (bp, _) zu ?_
   refine WS_pull (bb, _) zu ?_
   refine WS_pull (mk, _) zu ?_
   refine WS_callS hF rf rf rf Tryz.call66 (fewest_cs _ _ _ mk ck l c _ 100 [] [_, _] (c.someP n) hg (hT.mono sbA) [(bb, CB [.slice a1 c.n p1, .slice a2 c.inn.length p2, .int .i64 c.st] 92), (bp, CB [.int .i64 n] 3)] ⟨Tryz.call100, fun x hx C H w' hC hs hw => some1_any c a1 p1 a2 p2 x n bb bp w' hok (Mem.own (us := [.slice _ _ _, .slice _ _ _, .int _ _]) 0 rf rf w' (St.sub hw hs)) (Mem.own1 1 rf rf w' (St.sub hw hs))⟩ sbA hok) ?_
   rintro _ _ ⟨fx, fb, rfl, hfv, rfl⟩
   refine WS_pull (mk, MK encC l ck) zu ?_
   refine WS_pull (bm, CB (iv c.madeL ++ jm) 3) zu ?_
   refine WS_pull (b6, CB [.slice a1 c.n p1, .slice a2 c.inn.length p2, .int .i64 c.st] 92) zu ?_
   have hfb : fb = true := by
    cases fb with
    | true => rfl
    | false =>
     obtain ⟨wx, y, hb, hm⟩ := hmk
     exact absurd hb ((hfv.no rfl).2 y wx (Cn.someP_iff.2 hm))
   subst hfb
   have hy := hfv.yes' rfl
   have hfl : c.fl n = (fx.w.l.length : Int) := by unfold Cn.fl; rw [hy]
   refine zm (.tuple _) hF ?_
   refine zD hF (y_extract (c := .agg _) rf rf) ?_
   refine zD hF (y_extract (c := .bool _) rf rf) ?_
   refine WS_new hF rf (y_alloc Tryz.zeroValue118 rf) (fun b10 => ?_)
   refine WS_store hF (i := 0) rf rf Tryz.sizeOf118 rf rf rf d20 ?_
   refine za (.bool _) hF ?_
   refine zP fun ds => ?_
   refine zD hF (y_fieldAddr rf fa118_0) ?_
   refine zD hF (y_load1 rf Tryz.isAgg35 (Mem.own1 0 rf rf)) ?_
   refine zD hF (y_len rf Tryz.runUnderlying35) ?_
   refine zm (.int .i64 _) hF ?_
   refine zD hF (y_gtr rf rf) ?_
   refine zN ?_
   refine W_cond rf (fun c11 => ?_) (fun c11 => ?_)
   ·
    try simp only [qz1, qz2, qz3, qz4, qz5, qz6, qz7, qz8] at c11
    have hT1 : c.farT (k + 1) = (n, (fx.w.l.length : Int)) := by rw [hts]; unfold Cn.farS; rw [hfl]; exact if_pos c11
    refine W_draw0 hF Tryzmixed [] dk0 (fun ds => ?_)
    refine P_det rf (Over_nil (y_move (c := .int .i64 _) rf)) ?_
    refine P_det rf (Over_nil (y_fieldAddr rf fa118_0)) ?_
    refine P_det rf (Over_nil (y_load1 rf Tryz.isAgg35 (Mem.own1 0 rf rf))) ?_
    refine P_det rf (Over_nil (y_len rf Tryz.runUnderlying35)) ?_
    refine P_det rf (Over_nil (y_assign (c := .int .i64 _) rf)) ?_
    refine P_det rf (Over_nil (y_assign (c := .int .i64 _) rf)) ?_
    refine PW_end rf ?_
    refine OverAll_nil ?_
    rintro -
    refine InB_normal ?_
    refine zT fun ds => ?_
    refine zD hF (y_add rf rf ui) ?_
    refine zm (.int .i64 _) hF ?_
    refine WS_nil ?_
    exact Loop_next (k + 1) om0 (by rw [hT1]; repeat (first | exact trivial | refine ⟨by rfl, ?_⟩)) sbA om0
   ·
    try simp only [qz1, qz2, qz3, qz4, qz5, qz6, qz7, qz8] at c11
    have hT1 : c.farT (k + 1) = c.farT k := by rw [hts]; unfold Cn.farS; rw [hfl]; exact if_neg (fun h => absurd h (Int.not_lt.2 c11))
    refine W_skip ?_
    refine InB_normal ?_
    refine zT fun ds => ?_
    refine zD hF (y_add rf rf ui) ?_
    refine zm (.int .i64 _) hF ?_
    refine WS_nil ?_
    exact Loop_next (k + 1) om0 (by rw [hT1]; repeat (first | exact trivial | refine ⟨by rfl, ?_⟩)) sbA om0
  ·
   try simp only [qz1, qz2, qz3, qz4, qz5, qz6, qz7, qz8] at c8
   obtain rfl : k = c.madeL.length := by omega
   refine W_exit ?_
   refine Then_exit ?_
   refine Loop_exit ?_
   refine InB_same ?_
   refine zS fun ds => ?_
   refine zm (.int .i64 _) hF ?_
   refine zm (.int .i64 _) hF ?_
   refine za (.int .i64 _) hF ?_
   refine za (.int .i64 _) hF ?_
   refine za (.int .i64 _) hF ?_
   refine zN ?_
   refine W_ret ?_
   refine Fin_ret [.int .i64 _, .int .i64 _, .int .i64 _] [] Tryz.results26 ⟨by rfl, by rfl, by rfl, trivial⟩ HSub.nil ?_
   exact FarV.ok hokB c2
def Cn.more (c : Cn) (n : Int) : Cn := ⟨c.sz ++ [n], c.inn ++ [0], c.st⟩
theorem iv_snoc (xs : List Int) (n : Int) : iv xs ++ [Value.int .i64 n] = iv (xs ++ [n]) := by simp [iv]
theorem Cn.more_n (c : Cn) (n : Int) : (c.more n).n = c.n + 1 := by unfold Cn.more Cn.n; simp
theorem Cn.more_m (c : Cn) (n : Int) : (c.more n).inn.length = c.inn.length + 1 := by unfold Cn.more; simp
theorem cwith_any (c : Cn) (a1 : Option Addr) (p1 : Nat) (a2 : Option Addr) (p2 : Nat) (n : Int) (w : World) (hn : c.n ≤ 1000000) (hm : c.inn.length ≤ 1000000) (h1 : Ints w a1 c.n p1 c.sz) (h2 : Ints w a2 c.inn.length p2 c.inn) : Ct Tryz.prog 82 #[.agg #[.slice a1 c.n p1, .slice a2 c.inn.length p2, .int .i64 c.st], .int .i64 n] w (TwinC (c.more n)) := by
 have hn' : c.sz.length ≤ 1000000 := hn
 have hmn := c.more_n n
 have hmm := c.more_m n
 have hF := wide_wide
 refine Ct_start (args := [_, _]) Tryz.func82 rf Tryz.ntmps82 rf ?_
 refine zR fun ds => ?_
 refine WS_new hF rf (y_box rf) (fun b2 => ?_)
 refine WS_new hF rf (y_alloc Tryz.zeroValue24 rf) (fun b4 => ?_)
 refine zO ?_
 refine W_tailH 14 Tryzmixed (fun e2 H2 => ∃ s1 k1 s2 k2 K1 K2, NewRow 3 1 (c.more n).n (iv (c.more n).sz) (.slice s1 (c.more n).n k1) K1 ∧ NewRow 3 1 (c.more n).inn.length (iv (c.more n).inn) (.slice s2 (c.more n).inn.length k2) K2 ∧ Slots e2 [(4, .pointer (some ⟨b4, 0, none⟩)), (18, .agg #[.slice s1 (c.more n).n k1, .slice s2 (c.more n).inn.length k2, .int .i64 c.st])] ∧ HSub H2 ((b4, CB [.slice none 0 0, .slice none 0 0, .int .i64 0] 24) :: (K1 ++ K2))) dk0 (fun ds e2 H2 hmid => ?_) (fun ds => ?_)
 ·
  obtain ⟨s1, k1, s2, k2, K1, K2, hr1, hr2, hsl, hsb⟩ := hmid
  rw [← hsl.sets]
  refine WS_sub hsb ?_
  refine WS_store hF (i := 0) rf rf Tryz.sizeOf24 rf rf rf d20 ?_
  refine zN ?_
  refine W_ret ?_
  refine Fin_ret [_] (K1 ++ K2) Tryz.results82 ⟨lvN rf Tryz.isAgg24 Tryz.sizeOf24 (Mem.own (us := [.slice _ _ _, .slice _ _ _, .int .i64 _]) 0 rf rf) rf, trivial⟩ (HSub.sub sbA) ?_
  exact ⟨_, _, _, _, K1, K2, rfl, hr1, hr2, rfl⟩
 ·
  refine WH_as (fun X hX => ?_)
  have J2_4_5_8_9 : ∀ (ka : Option Addr) (kk : Nat) (K1 : List Blk) (da : Option Addr) (dk : Nat) (Hd : List Blk) (bt : Nat) (hk1 : NewRow 3 1 (c.more n).n (iv (c.more n).sz) (.slice ka (c.more n).n kk) K1) (hd1 : NewRow 3 1 c.inn.length (iv c.inn) (.slice da c.inn.length dk) Hd) (e2 : Env) (H2 : List Blk), Slots e2 [(2, .pointer (some ⟨b2, 0, none⟩)), (4, .pointer (some ⟨b4, 0, none⟩)), (6, .slice a1 c.n p1), (8, .int .i64 n), (12, .slice a2 c.inn.length p2), (17, .int .i64 c.st), (10, .slice ka (c.n + 1) kk), (13, .slice da c.inn.length dk), (14, .slice (some ⟨bt, 0, none⟩) 1 1)] → HSub H2 ((bt, CB [.int .i64 0] 3) :: (b4, CB [.slice none 0 0, .slice none 0 0, .int .i64 0] 24) :: (b2, CB [.slice a1 c.n p1, .slice a2 c.inn.length p2, .int .i64 c.st] 24) :: K1 ++ (Hd)) → X 2 #[true, true, true, true, true, true, true, true, true, true, false, true, true, false] e2 H2 := by
   intro ka kk K1 da dk Hd bt hk1 hd1 e2 H2 hsl hsb
   rw [← hsl.sets, hX]
   refine WH_sub hsb (HSub.sub sbA) ?_
   refine WH_step1 10 dk0 (fun _ h => St.sub h sbA) rf ?_
   ·
    refine WS_pull (bt, _) zu ?_
    refine WS_pullE Hd (by repeat (first | exact PulE.hd | exact PulE.snd | exact PulE.one | apply PulE.cons | apply PulE.app)) ?_
    refine WS_appendN hF (H1 := (_ :: _ :: _ :: (K1))) (Hn := Hd) rf rf rf Tryz.underlying22 infInt rf rf hd1 (iv_len c.inn) (.inr ⟨bt, 0, rfl, Mem.own1 0 rf rf⟩) rf rf om0 om0 om0 ?_
    intro ma mk K2 hr4
    have hk2 : NewRow 3 1 (c.more n).inn.length (iv (c.more n).inn) (.slice ma (c.more n).inn.length mk) K2 := by rw [hmm]; show NewRow _ _ _ (iv (c.inn ++ [0])) _ _; rw [← iv_snoc]; exact hr4
    refine WS_nil ?_
    refine WH_take 13 dk0 rf dk0 dk0 rf (ye_buildL bd24_0_1_2 rf) ?_
    refine WH_done dk0 (fun _ h => St.sub h sbA) ?_
    rw [← hmn, ← hmm]
    exact ⟨_, _, _, _, K1, K2, hk1, hk2, s30, HSub.sub sbA⟩
  have J2_4_5_8 : ∀ (ka : Option Addr) (kk : Nat) (K1 : List Blk) (da : Option Addr) (dk : Nat) (Hd : List Blk) (hk1 : NewRow 3 1 (c.more n).n (iv (c.more n).sz) (.slice ka (c.more n).n kk) K1) (hd1 : NewRow 3 1 c.inn.length (iv c.inn) (.slice da c.inn.length dk) Hd) (e2 : Env) (H2 : List Blk), Slots e2 [(2, .pointer (some ⟨b2, 0, none⟩)), (4, .pointer (some ⟨b4, 0, none⟩)), (6, .slice a1 c.n p1), (8, .int .i64 n), (12, .slice a2 c.inn.length p2), (17, .int .i64 c.st), (10, .slice ka (c.n + 1) kk), (13, .slice da c.inn.length dk)] → HSub H2 ((b4, CB [.slice none 0 0, .slice none 0 0, .int .i64 0] 24) :: (b2, CB [.slice a1 c.n p1, .slice a2 c.inn.length p2, .int .i64 c.st] 24) :: K1 ++ (Hd)) → X 3 #[true, true, true, true, true, true, true, true, true, false, false, true, true, false] e2 H2 := by
   intro ka kk K1 da dk Hd hk1 hd1 e2 H2 hsl hsb
   rw [← hsl.sets, hX]
   refine WH_sub hsb (HSub.sub sbA) ?_
   refine WH_step1 9 dk0 (fun _ h => St.sub h sbA) rf ?_
   ·
    refine WS_newS hF rf (y_buildSliceL bs22_1_0 rf) (fun bt => ?_)
    refine WS_nil ?_
    refine WH_pullL Hd (by repeat (first | exact PulL.base | exact PulL.base1 | apply PulL.cons | apply PulL.app)) ?_
    refine WH_pullL K1 (by repeat (first | exact PulL.base | exact PulL.base1 | apply PulL.cons | apply PulL.app)) ?_
    refine WH_pull (b2, CB [.slice a1 c.n p1, .slice a2 c.inn.length p2, .int .i64 c.st] 24) zu ?_
    refine WH_pull (b4, CB [.slice none 0 0, .slice none 0 0, .int .i64 0] 24) zu ?_
    refine WH_pull (bt, CB [.int .i64 0] 3) zu ?_
    exact WH_of hX rf dk0 (J2_4_5_8_9 ka kk K1 da dk Hd bt hk1 hd1 _ _ s10 (HSub.sub (by repeat (first | exact List.nil_sublist _ | exact List.Sublist.refl _ | exact List.sublist_append_left _ _ | apply List.Sublist.cons_cons | apply List.Sublist.append_left))))
  have J2_4_5_9 : ∀ (ka : Option Addr) (kk : Nat) (K1 : List Blk) (bt : Nat) (hk1 : NewRow 3 1 (c.more n).n (iv (c.more n).sz) (.slice ka (c.more n).n kk) K1) (e2 : Env) (H2 : List Blk), Slots e2 [(2, .pointer (some ⟨b2, 0, none⟩)), (4, .pointer (some ⟨b4, 0, none⟩)), (6, .slice a1 c.n p1), (8, .int .i64 n), (12, .slice a2 c.inn.length p2), (17, .int .i64 c.st), (10, .slice ka (c.n + 1) kk), (14, .slice (some ⟨bt, 0, none⟩) 1 1)] → HSub H2 ((bt, CB [.int .i64 0] 3) :: (b4, CB [.slice none 0 0, .slice none 0 0, .int .i64 0] 24) :: (b2, CB [.slice a1 c.n p1, .slice a2 c.inn.length p2, .int .i64 c.st] 24) :: K1) → X 3 #[true, true, true, true, true, true, true, true, false, true, false, true, true, false] e2 H2 := by
   intro ka kk K1 bt hk1 e2 H2 hsl hsb
   rw [← hsl.sets, hX]
   refine WH_sub hsb (HSub.sub sbA) ?_
   refine WH_step1 8 dk0 (fun _ h => St.sub h sbA) rf ?_
   ·
    refine WS_gen hF rf (y_callL rf rf Tryz.call72 (fun w hw => cloneN_any a2 c.inn.length p2 c.inn w hm (h2.st w hw))) ?_
    rintro _ Hd ⟨da, dk, rfl, hd1⟩
    refine WS_nil ?_
    refine WH_pullL Hd (by repeat (first | exact PulL.base | exact PulL.base1 | apply PulL.cons | apply PulL.app)) ?_
    refine WH_pullL K1 (by repeat (first | exact PulL.base | exact PulL.base1 | apply PulL.cons | apply PulL.app)) ?_
    refine WH_pull (b2, CB [.slice a1 c.n p1, .slice a2 c.inn.length p2, .int .i64 c.st] 24) zu ?_
    refine WH_pull (b4, CB [.slice none 0 0, .slice none 0 0, .int .i64 0] 24) zu ?_
    refine WH_pull (bt, CB [.int .i64 0] 3) zu ?_
    exact WH_of hX rf dk0 (J2_4_5_8_9 ka kk K1 da dk Hd bt hk1 hd1 _ _ s10 (HSub.sub (by repeat (first | exact List.nil_sublist _ | exact List.Sublist.refl _ | exact List.sublist_append_left _ _ | apply List.Sublist.cons_cons | apply List.Sublist.append_left))))
  have J2_4_5 : ∀ (ka : Option Addr) (kk : Nat) (K1 : List Blk) (hk1 : NewRow 3 1 (c.more n).n (iv (c.more n).sz) (.slice ka (c.more n).n kk) K1) (e2 : Env) (H2 : List Blk), Slots e2 [(2, .pointer (some ⟨b2, 0, none⟩)), (4, .pointer (some ⟨b4, 0, none⟩)), (6, .slice a1 c.n p1), (8, .int .i64 n), (12, .slice a2 c.inn.length p2), (17, .int .i64 c.st), (10, .slice ka (c.n + 1) kk)] → HSub H2 ((b4, CB [.slice none 0 0, .slice none 0 0, .int .i64 0] 24) :: (b2, CB [.slice a1 c.n p1, .slice a2 c.inn.length p2, .int .i64 c.st] 24) :: K1) → X 4 #[true, true, true, true, true, true, true, true, false, false, false, true, true, false] e2 H2 := by
   intro ka kk K1 hk1 e2 H2 hsl hsb
   rw [← hsl.sets, hX]
   refine WH_sub hsb (HSub.sub sbA) ?_
   refine WH_step2 8 9 dk0 (fun _ h => St.sub h sbA) rf rf ?_ ?_
   ·
    refine WS_gen hF rf (y_callL rf rf Tryz.call72 (fun w hw => cloneN_any a2 c.inn.length p2 c.inn w hm (h2.st w hw))) ?_
    rintro _ Hd ⟨da, dk, rfl, hd1⟩
    refine WS_nil ?_
    refine WH_pullL Hd (by repeat (first | exact PulL.base | exact PulL.base1 | apply PulL.cons | apply PulL.app)) ?_
    refine WH_pullL K1 (by repeat (first | exact PulL.base | exact PulL.base1 | apply PulL.cons | apply PulL.app)) ?_
    refine WH_pull (b2, CB [.slice a1 c.n p1, .slice a2 c.inn.length p2, .int .i64 c.st] 24) zu ?_
    refine WH_pull (b4, CB [.slice none 0 0, .slice none 0 0, .int .i64 0] 24) zu ?_
    exact WH_of hX rf dk0 (J2_4_5_8 ka kk K1 da dk Hd hk1 hd1 _ _ s10 (HSub.sub (by repeat (first | exact List.nil_sublist _ | exact List.Sublist.refl _ | exact List.sublist_append_left _ _ | apply List.Sublist.cons_cons | apply List.Sublist.append_left))))
   ·
    refine WS_newS hF rf (y_buildSliceL bs22_1_0 rf) (fun bt => ?_)
    refine WS_nil ?_
    refine WH_pullL K1 (by repeat (first | exact PulL.base | exact PulL.base1 | apply PulL.cons | apply PulL.app)) ?_
    refine WH_pull (b2, CB [.slice a1 c.n p1, .slice a2 c.inn.length p2, .int .i64 c.st] 24) zu ?_
    refine WH_pull (b4, CB [.slice none 0 0, .slice none 0 0, .int .i64 0] 24) zu ?_
    refine WH_pull (bt, CB [.int .i64 0] 3) zu ?_
    exact WH_of hX rf dk0 (J2_4_5_9 ka kk K1 bt hk1 _ _ s10 (HSub.sub (by repeat (first | exact List.nil_sublist _ | exact List.Sublist.refl _ | exact List.sublist_append_left _ _ | apply List.Sublist.cons_cons | apply List.Sublist.append_left))))
  have J2_4_9 : ∀ (ca : Option Addr) (ck : Nat) (Hc : List Blk) (bs : Nat) (bt : Nat) (hc1 : NewRow 3 1 c.n (iv c.sz) (.slice ca c.n ck) Hc) (e2 : Env) (H2 : List Blk), Slots e2 [(2, .pointer (some ⟨b2, 0, none⟩)), (4, .pointer (some ⟨b4, 0, none⟩)), (6, .slice a1 c.n p1), (8, .int .i64 n), (12, .slice a2 c.inn.length p2), (17, .int .i64 c.st), (7, .slice ca c.n ck), (9, .slice (some ⟨bs, 0, none⟩) 1 1), (14, .slice (some ⟨bt, 0, none⟩) 1 1)] → HSub H2 ((bs, CB [.int .i64 n] 3) :: (bt, CB [.int .i64 0] 3) :: (b4, CB [.slice none 0 0, .slice none 0 0, .int .i64 0] 24) :: (b2, CB [.slice a1 c.n p1, .slice a2 c.inn.length p2, .int .i64 c.st] 24) :: Hc) → X 4 #[true, true, true, true, true, false, true, true, false, true, false, true, true, false] e2 H2 := by
   intro ca ck Hc bs bt hc1 e2 H2 hsl hsb
   rw [← hsl.sets, hX]
   refine WH_sub hsb (HSub.sub sbA) ?_
   refine WH_step1 5 dk0 (fun _ h => St.sub h sbA) rf ?_
   ·
    refine WS_pull (bs, _) zu ?_
    refine WS_pullE Hc (by repeat (first | exact PulE.hd | exact PulE.snd | exact PulE.one | apply PulE.cons | apply PulE.app)) ?_
    refine WS_appendN hF (H1 := (_ :: _ :: _ :: _ :: [])) (Hn := Hc) rf rf rf Tryz.underlying22 infInt rf rf hc1 (iv_len c.sz) (.inr ⟨bs, 0, rfl, Mem.own1 0 rf rf⟩) rf rf om0 om0 om0 ?_
    intro ka kk K1 hr3
    have hk1 : NewRow 3 1 (c.more n).n (iv (c.more n).sz) (.slice ka (c.more n).n kk) K1 := by rw [hmn]; show NewRow _ _ _ (iv (c.sz ++ [n])) _ _; rw [← iv_snoc]; exact hr3
    refine WS_nil ?_
    refine WH_pullL K1 (by repeat (first | exact PulL.base | exact PulL.base1 | apply PulL.cons | apply PulL.app)) ?_
    refine WH_pull (b2, CB [.slice a1 c.n p1, .slice a2 c.inn.length p2, .int .i64 c.st] 24) zu ?_
    refine WH_pull (b4, CB [.slice none 0 0, .slice none 0 0, .int .i64 0] 24) zu ?_
    refine WH_pull (bt, CB [.int .i64 0] 3) zu ?_
    exact WH_of hX rf dk0 (J2_4_5_9 ka kk K1 bt hk1 _ _ s10 (HSub.sub (by repeat (first | exact List.nil_sublist _ | exact List.Sublist.refl _ | exact List.sublist_append_left _ _ | apply List.Sublist.cons_cons | apply List.Sublist.append_left))))
  have J2_4 : ∀ (ca : Option Addr) (ck : Nat) (Hc : List Blk) (bs : Nat) (hc1 : NewRow 3 1 c.n (iv c.sz) (.slice ca c.n ck) Hc) (e2 : Env) (H2 : List Blk), Slots e2 [(2, .pointer (some ⟨b2, 0, none⟩)), (4, .pointer (some ⟨b4, 0, none⟩)), (6, .slice a1 c.n p1), (8, .int .i64 n), (12, .slice a2 c.inn.length p2), (17, .int .i64 c.st), (7, .slice ca c.n ck), (9, .slice (some ⟨bs, 0, none⟩) 1 1)] → HSub H2 ((bs, CB [.int .i64 n] 3) :: (b4, CB [.slice none 0 0, .slice none 0 0, .int .i64 0] 24) :: (b2, CB [.slice a1 c.n p1, .slice a2 c.inn.length p2, .int .i64 c.st] 24) :: Hc) → X 5 #[true, true, true, true, true, false, true, true, false, false, false, true, true, false] e2 H2 := by
   intro ca ck Hc bs hc1 e2 H2 hsl hsb
   rw [← hsl.sets, hX]
   refine WH_sub hsb (HSub.sub sbA) ?_
   refine WH_step2 5 9 dk0 (fun _ h => St.sub h sbA) rf rf ?_ ?_
   ·
    refine WS_pull (bs, _) zu ?_
    refine WS_pullE Hc (by repeat (first | exact PulE.hd | exact PulE.snd | exact PulE.one | apply PulE.cons | apply PulE.app)) ?_
    refine WS_appendN hF (H1 := (_ :: _ :: _ :: [])) (Hn := Hc) rf rf rf Tryz.underlying22 infInt rf rf hc1 (iv_len c.sz) (.inr ⟨bs, 0, rfl, Mem.own1 0 rf rf⟩) rf rf om0 om0 om0 ?_
    intro ka kk K1 hr3
    have hk1 : NewRow 3 1 (c.more n).n (iv (c.more n).sz) (.slice ka (c.more n).n kk) K1 := by rw [hmn]; show NewRow _ _ _ (iv (c.sz ++ [n])) _ _; rw [← iv_snoc]; exact hr3
    refine WS_nil ?_
    refine WH_pullL K1 (by repeat (first | exact PulL.base | exact PulL.base1 | apply PulL.cons | apply PulL.app)) ?_
    refine WH_pull (b2, CB [.slice a1 c.n p1, .slice a2 c.inn.length p2, .int .i64 c.st] 24) zu ?_
    refine WH_pull (b4, CB [.slice none 0 0, .slice none 0 0, .int .i64 0] 24) zu ?_
    exact WH_of hX rf dk0 (J2_4_5 ka kk K1 hk1 _ _ s10 (HSub.sub (by repeat (first | exact List.nil_sublist _ | exact List.Sublist.refl _ | exact List.sublist_append_left _ _ | apply List.Sublist.cons_cons | apply List.Sublist.append_left))))
   ·
    refine WS_newS hF rf (y_buildSliceL bs22_1_0 rf) (fun bt => ?_)
    refine WS_nil ?_
    refine WH_pullL Hc (by repeat (first | exact PulL.base | exact PulL.base1 | apply PulL.cons | apply PulL.app)) ?_
    refine WH_pull (b2, CB [.slice a1 c.n p1, .slice a2 c.inn.length p2, .int .i64 c.st] 24) zu ?_
    refine WH_pull (b4, CB [.slice none 0 0, .slice none 0 0, .int .i64 0] 24) zu ?_
    refine WH_pull (bt, CB [.int .i64 0] 3) zu ?_
    refine WH_pull (bs, CB [.int .i64 n] 3) zu ?_
    exact WH_of hX rf dk0 (J2_4_9 ca ck Hc bs bt hc1 _ _ s10 (HSub.sub (by repeat (first | exact List.nil_sublist _ | exact List.Sublist.refl _ | exact List.sublist_append_left _ _ | apply List.Sublist.cons_cons | apply List.Sublist.append_left))))
  have J2_9 : ∀ (ca : Option Addr) (ck : Nat) (Hc : List Blk) (bt : Nat) (hc1 : NewRow 3 1 c.n (iv c.sz) (.slice ca c.n ck) Hc) (e2 : Env) (H2 : List Blk), Slots e2 [(2, .pointer (some ⟨b2, 0, none⟩)), (4, .pointer (some ⟨b4, 0, none⟩)), (6, .slice a1 c.n p1), (8, .int .i64 n), (12, .slice a2 c.inn.length p2), (17, .int .i64 c.st), (7, .slice ca c.n ck), (14, .slice (some ⟨bt, 0, none⟩) 1 1)] → HSub H2 ((bt, CB [.int .i64 0] 3) :: (b4, CB [.slice none 0 0, .slice none 0 0, .int .i64 0] 24) :: (b2, CB [.slice a1 c.n p1, .slice a2 c.inn.length p2, .int .i64 c.st] 24) :: Hc) → X 5 #[true, true, true, true, false, false, true, true, false, true, false, true, true, false] e2 H2 := by
   intro ca ck Hc bt hc1 e2 H2 hsl hsb
   rw [← hsl.sets, hX]
   refine WH_sub hsb (HSub.sub sbA) ?_
   refine WH_step1 4 dk0 (fun _ h => St.sub h sbA) rf ?_
   ·
    refine WS_newS hF rf (y_buildSliceL bs22_1_0 rf) (fun bs => ?_)
    refine WS_nil ?_
    refine WH_pullL Hc (by repeat (first | exact PulL.base | exact PulL.base1 | apply PulL.cons | apply PulL.app)) ?_
    refine WH_pull (b2, CB [.slice a1 c.n p1, .slice a2 c.inn.length p2, .int .i64 c.st] 24) zu ?_
    refine WH_pull (b4, CB [.slice none 0 0, .slice none 0 0, .int .i64 0] 24) zu ?_
    refine WH_pull (bt, CB [.int .i64 0] 3) zu ?_
    refine WH_pull (bs, CB [.int .i64 n] 3) zu ?_
    exact WH_of hX rf dk0 (J2_4_9 ca ck Hc bs bt hc1 _ _ s10 (HSub.sub (by repeat (first | exact List.nil_sublist _ | exact List.Sublist.refl _ | exact List.sublist_append_left _ _ | apply List.Sublist.cons_cons | apply List.Sublist.append_left))))
  have J4_9 : ∀ (bs : Nat) (bt : Nat) (e2 : Env) (H2 : List Blk), Slots e2 [(2, .pointer (some ⟨b2, 0, none⟩)), (4, .pointer (some ⟨b4, 0, none⟩)), (6, .slice a1 c.n p1), (8, .int .i64 n), (12, .slice a2 c.inn.length p2), (17, .int .i64 c.st), (9, .slice (some ⟨bs, 0, none⟩) 1 1), (14, .slice (some ⟨bt, 0, none⟩) 1 1)] → HSub H2 ((bs, CB [.int .i64 n] 3) :: (bt, CB [.int .i64 0] 3) :: (b4, CB [.slice none 0 0, .slice none 0 0, .int .i64 0] 24) :: (b2, CB [.slice a1 c.n p1, .slice a2 c.inn.length p2, .int .i64 c.st] 24) :: []) → X 5 #[true, true, false, true, true, false, true, true, false, true, false, true, true, false] e2 H2 := by
   intro bs bt e2 H2 hsl hsb
   rw [← hsl.sets, hX]
   refine WH_sub hsb (HSub.sub sbA) ?_
   refine WH_step1 2 dk0 (fun _ h => St.sub h sbA) rf ?_
   ·
    refine WS_gen hF rf (y_callL rf rf Tryz.call72 (fun w hw => cloneN_any a1 c.n p1 c.sz w hn (h1.st w hw))) ?_
    rintro _ Hc ⟨ca, ck, rfl, hc1⟩
    refine WS_nil ?_
    refine WH_pullL Hc (by repeat (first | exact PulL.base | exact PulL.base1 | apply PulL.cons | apply PulL.app)) ?_
    refine WH_pull (b2, CB [.slice a1 c.n p1, .slice a2 c.inn.length p2, .int .i64 c.st] 24) zu ?_
    refine WH_pull (b4, CB [.slice none 0 0, .slice none 0 0, .int .i64 0] 24) zu ?_
    refine WH_pull (bt, CB [.int .i64 0] 3) zu ?_
    refine WH_pull (bs, CB [.int .i64 n] 3) zu ?_
    exact WH_of hX rf dk0 (J2_4_9 ca ck Hc bs bt hc1 _ _ s10 (HSub.sub (by repeat (first | exact List.nil_sublist _ | exact List.Sublist.refl _ | exact List.sublist_append_left _ _ | apply List.Sublist.cons_cons | apply List.Sublist.append_left))))
  have J2 : ∀ (ca : Option Addr) (ck : Nat) (Hc : List Blk) (hc1 : NewRow 3 1 c.n (iv c.sz) (.slice ca c.n ck) Hc) (e2 : Env) (H2 : List Blk), Slots e2 [(2, .pointer (some ⟨b2, 0, none⟩)), (4, .pointer (some ⟨b4, 0, none⟩)), (6, .slice a1 c.n p1), (8, .int .i64 n), (12, .slice a2 c.inn.length p2), (17, .int .i64 c.st), (7, .slice ca c.n ck)] → HSub H2 ((b4, CB [.slice none 0 0, .slice none 0 0, .int .i64 0] 24) :: (b2, CB [.slice a1 c.n p1, .slice a2 c.inn.length p2, .int .i64 c.st] 24) :: Hc) → X 6 #[true, true, true, true, false, false, true, true, false, false, false, true, true, false] e2 H2 := by
   intro ca ck Hc hc1 e2 H2 hsl hsb
   rw [← hsl.sets, hX]
   refine WH_sub hsb (HSub.sub sbA) ?_
   refine WH_step2 4 9 dk0 (fun _ h => St.sub h sbA) rf rf ?_ ?_
   ·
    refine WS_newS hF rf (y_buildSliceL bs22_1_0 rf) (fun bs => ?_)
    refine WS_nil ?_
    refine WH_pullL Hc (by repeat (first | exact PulL.base | exact PulL.base1 | apply PulL.cons | apply PulL.app)) ?_
    refine WH_pull (b2, CB [.slice a1 c.n p1, .slice a2 c.inn.length p2, .int .i64 c.st] 24) zu ?_
    refine WH_pull (b4, CB [.slice none 0 0, .slice none 0 0, .int .i64 0] 24) zu ?_
    refine WH_pull (bs, CB [.int .i64 n] 3) zu ?_
    exact WH_of hX rf dk0 (J2_4 ca ck Hc bs hc1 _ _ s10 (HSub.sub (by repeat (first | exact List.nil_sublist _ | exact List.Sublist.refl _ | exact List.sublist_append_left _ _ | apply List.Sublist.cons_cons | apply List.Sublist.append_left))))
   ·
    refine WS_newS hF rf (y_buildSliceL bs22_1_0 rf) (fun bt => ?_)
    refine WS_nil ?_
    refine WH_pullL Hc (by repeat (first | exact PulL.base | exact PulL.base1 | apply PulL.cons | apply PulL.app)) ?_
    refine WH_pull (b2, CB [.slice a1 c.n p1, .slice a2 c.inn.length p2, .int .i64 c.st] 24) zu ?_
    refine WH_pull (b4, CB [.slice none 0 0, .slice none 0 0, .int .i64 0] 24) zu ?_
    refine WH_pull (bt, CB [.int .i64 0] 3) zu ?_
    exact WH_of hX rf dk0 (J2_9 ca ck Hc bt hc1 _ _ s10 (HSub.sub (by repeat (first | exact List.nil_sublist _ | exact List.Sublist.refl _ | exact List.sublist_append_left _ _ | apply List.Sublist.cons_cons | apply List.Sublist.append_left))))
  have J4 : ∀ (bs : Nat) (e2 : Env) (H2 : List Blk), Slots e2 [(2, .pointer (some ⟨b2, 0, none⟩)), (4, .pointer (some ⟨b4, 0, none⟩)), (6, .slice a1 c.n p1), (8, .int .i64 n), (12, .slice a2 c.inn.length p2), (17, .int .i64 c.st), (9, .slice (some ⟨bs, 0, none⟩) 1 1)] → HSub H2 ((bs, CB [.int .i64 n] 3) :: (b4, CB [.slice none 0 0, .slice none 0 0, .int .i64 0] 24) :: (b2, CB [.slice a1 c.n p1, .slice a2 c.inn.length p2, .int .i64 c.st] 24) :: []) → X 6 #[true, true, false, true, true, false, true, true, false, false, false, true, true, false] e2 H2 := by
   intro bs e2 H2 hsl hsb
   rw [← hsl.sets, hX]
   refine WH_sub hsb (HSub.sub sbA) ?_
   refine WH_step2 2 9 dk0 (fun _ h => St.sub h sbA) rf rf ?_ ?_
   ·
    refine WS_gen hF rf (y_callL rf rf Tryz.call72 (fun w hw => cloneN_any a1 c.n p1 c.sz w hn (h1.st w hw))) ?_
    rintro _ Hc ⟨ca, ck, rfl, hc1⟩
    refine WS_nil ?_
    refine WH_pullL Hc (by repeat (first | exact PulL.base | exact PulL.base1 | apply PulL.cons | apply PulL.app)) ?_
    refine WH_pull (b2, CB [.slice a1 c.n p1, .slice a2 c.inn.length p2, .int .i64 c.st] 24) zu ?_
    refine WH_pull (b4, CB [.slice none 0 0, .slice none 0 0, .int .i64 0] 24) zu ?_
    refine WH_pull (bs, CB [.int .i64 n] 3) zu ?_
    exact WH_of hX rf dk0 (J2_4 ca ck Hc bs hc1 _ _ s10 (HSub.sub (by repeat (first | exact List.nil_sublist _ | exact List.Sublist.refl _ | exact List.sublist_append_left _ _ | apply List.Sublist.cons_cons | apply List.Sublist.append_left))))
   ·
    refine WS_newS hF rf (y_buildSliceL bs22_1_0 rf) (fun bt => ?_)
    refine WS_nil ?_
    refine WH_pull (b2, CB [.slice a1 c.n p1, .slice a2 c.inn.length p2, .int .i64 c.st] 24) zu ?_
    refine WH_pull (b4, CB [.slice none 0 0, .slice none 0 0, .int .i64 0] 24) zu ?_
    refine WH_pull (bt, CB [.int .i64 0] 3) zu ?_
    refine WH_pull (bs, CB [.int .i64 n] 3) zu ?_
    exact WH_of hX rf dk0 (J4_9 bs bt _ _ s10 (HSub.sub (by repeat (first | exact List.nil_sublist _ | exact List.Sublist.refl _ | exact List.sublist_append_left _ _ | apply List.Sublist.cons_cons | apply List.Sublist.append_left))))
  have J9 : ∀ (bt : Nat) (e2 : Env) (H2 : List Blk), Slots e2 [(2, .pointer (some ⟨b2, 0, none⟩)), (4, .pointer (some ⟨b4, 0, none⟩)), (6, .slice a1 c.n p1), (8, .int .i64 n), (12, .slice a2 c.inn.length p2), (17, .int .i64 c.st), (14, .slice (some ⟨bt, 0, none⟩) 1 1)] → HSub H2 ((bt, CB [.int .i64 0] 3) :: (b4, CB [.slice none 0 0, .slice none 0 0, .int .i64 0] 24) :: (b2, CB [.slice a1 c.n p1, .slice a2 c.inn.length p2, .int .i64 c.st] 24) :: []) → X 6 #[true, true, false, true, false, false, true, true, false, true, false, true, true, false] e2 H2 := by
   intro bt e2 H2 hsl hsb
   rw [← hsl.sets, hX]
   refine WH_sub hsb (HSub.sub sbA) ?_
   refine WH_step2 2 4 dk0 (fun _ h => St.sub h sbA) rf rf ?_ ?_
   ·
    refine WS_gen hF rf (y_callL rf rf Tryz.call72 (fun w hw => cloneN_any a1 c.n p1 c.sz w hn (h1.st w hw))) ?_
    rintro _ Hc ⟨ca, ck, rfl, hc1⟩
    refine WS_nil ?_
    refine WH_pullL Hc (by repeat (first | exact PulL.base | exact PulL.base1 | apply PulL.cons | apply PulL.app)) ?_
    refine WH_pull (b2, CB [.slice a1 c.n p1, .slice a2 c.inn.length p2, .int .i64 c.st] 24) zu ?_
    refine WH_pull (b4, CB [.slice none 0 0, .slice none 0 0, .int .i64 0] 24) zu ?_
    refine WH_pull (bt, CB [.int .i64 0] 3) zu ?_
    exact WH_of hX rf dk0 (J2_9 ca ck Hc bt hc1 _ _ s10 (HSub.sub (by repeat (first | exact List.nil_sublist _ | exact List.Sublist.refl _ | exact List.sublist_append_left _ _ | apply List.Sublist.cons_cons | apply List.Sublist.append_left))))
   ·
    refine WS_newS hF rf (y_buildSliceL bs22_1_0 rf) (fun bs => ?_)
    refine WS_nil ?_
    refine WH_pull (b2, CB [.slice a1 c.n p1, .slice a2 c.inn.length p2, .int .i64 c.st] 24) zu ?_
    refine WH_pull (b4, CB [.slice none 0 0, .slice none 0 0, .int .i64 0] 24) zu ?_
    refine WH_pull (bt, CB [.int .i64 0] 3) zu ?_
    refine WH_pull (bs, CB [.int .i64 n] 3) zu ?_
    exact WH_of hX rf dk0 (J4_9 bs bt _ _ s10 (HSub.sub (by repeat (first | exact List.nil_sublist _ | exact List.Sublist.refl _ | exact List.sublist_append_left _ _ | apply List.Sublist.cons_cons | apply List.Sublist.append_left))))
  have J : ∀  (e2 : Env) (H2 : List Blk), Slots e2 [(2, .pointer (some ⟨b2, 0, none⟩)), (4, .pointer (some ⟨b4, 0, none⟩)), (6, .slice a1 c.n p1), (8, .int .i64 n), (12, .slice a2 c.inn.length p2), (17, .int .i64 c.st)] → HSub H2 ((b4, CB [.slice none 0 0, .slice none 0 0, .int .i64 0] 24) :: (b2, CB [.slice a1 c.n p1, .slice a2 c.inn.length p2, .int .i64 c.st] 24) :: []) → X 7 #[true, true, false, true, false, false, true, true, false, false, false, true, true, false] e2 H2 := by
   intro  e2 H2 hsl hsb
   rw [← hsl.sets, hX]
   refine WH_sub hsb (HSub.sub sbA) ?_
   refine WH_step3 2 4 9 dk0 (fun _ h => St.sub h sbA) rf rf rf ?_ ?_ ?_
   ·
    refine WS_gen hF rf (y_callL rf rf Tryz.call72 (fun w hw => cloneN_any a1 c.n p1 c.sz w hn (h1.st w hw))) ?_
    rintro _ Hc ⟨ca, ck, rfl, hc1⟩
    refine WS_nil ?_
    refine WH_pullL Hc (by repeat (first | exact PulL.base | exact PulL.base1 | apply PulL.cons | apply PulL.app)) ?_
    refine WH_pull (b2, CB [.slice a1 c.n p1, .slice a2 c.inn.length p2, .int .i64 c.st] 24) zu ?_
    refine WH_pull (b4, CB [.slice none 0 0, .slice none 0 0, .int .i64 0] 24) zu ?_
    exact WH_of hX rf dk0 (J2 ca ck Hc hc1 _ _ s10 (HSub.sub (by repeat (first | exact List.nil_sublist _ | exact List.Sublist.refl _ | exact List.sublist_append_left _ _ | apply List.Sublist.cons_cons | apply List.Sublist.append_left))))
   ·
    refine WS_newS hF rf (y_buildSliceL bs22_1_0 rf) (fun bs => ?_)
    refine WS_nil ?_
    refine WH_pull (b2, CB [.slice a1 c.n p1, .slice a2 c.inn.length p2, .int .i64 c.st] 24) zu ?_
    refine WH_pull (b4, CB [.slice none 0 0, .slice none 0 0, .int .i64 0] 24) zu ?_
    refine WH_pull (bs, CB [.int .i64 n] 3) zu ?_
    exact WH_of hX rf dk0 (J4 bs _ _ s10 (HSub.sub (by repeat (first | exact List.nil_sublist _ | exact List.Sublist.refl _ | exact List.sublist_append_left _ _ | apply List.Sublist.cons_cons | apply List.Sublist.append_left))))
   ·
    refine WS_newS hF rf (y_buildSliceL bs22_1_0 rf) (fun bt => ?_)
    refine WS_nil ?_
    refine WH_pull (b2, CB [.slice a1 c.n p1, .slice a2 c.inn.length p2, .int .i64 c.st] 24) zu ?_
    refine WH_pull (b4, CB [.slice none 0 0, .slice none 0 0, .int .i64 0] 24) zu ?_
    refine WH_pull (bt, CB [.int .i64 0] 3) zu ?_
    exact WH_of hX rf dk0 (J9 bt _ _ s10 (HSub.sub (by repeat (first | exact List.nil_sublist _ | exact List.Sublist.refl _ | exact List.sublist_append_left _ _ | apply List.Sublist.cons_cons | apply List.Sublist.append_left))))
  rw [hX]
  refine WH_take 0 dk0 rf dk0 dk0 rf (ye_fieldAddr rf fa24_0) ?_
  refine WH_take 1 dk0 rf dk0 dk0 rf (ye_load1 rf Tryz.isAgg22 (Mem.own1 1 rf rf)) ?_
  refine WH_take 3 dk0 rf dk0 dk0 rf (ye_move (c := .int .i64 _) rf) ?_
  refine WH_take 6 dk0 rf dk0 dk0 rf (ye_fieldAddr rf fa24_1) ?_
  refine WH_take 7 dk0 rf dk0 dk0 rf (ye_load1 rf Tryz.isAgg22 (Mem.own1 1 rf rf)) ?_
  refine WH_take 11 dk0 rf dk0 dk0 rf (ye_fieldAddr rf fa24_2) ?_
  refine WH_take 12 dk0 rf dk0 dk0 rf (ye_load1 rf Tryz.isAgg3 (Mem.own1 1 rf rf)) ?_
  refine WH_pull (b2, CB [.slice a1 c.n p1, .slice a2 c.inn.length p2, .int .i64 c.st] 24) zu ?_
  refine WH_pull (b4, CB [.slice none 0 0, .slice none 0 0, .int .i64 0] 24) zu ?_
  exact WH_of hX rf dk0 (J  _ _ s10 (HSub.sub (by repeat (first | exact List.nil_sublist _ | exact List.Sublist.refl _ | exact List.sublist_append_left _ _ | apply List.Sublist.cons_cons | apply List.Sublist.append_left))))
theorem fa152_0 : ∀ b o w, (Instr.fieldAt 152 (.pointer (some ⟨b, o, none⟩)) 0).run Tryz.prog w = .ok (.pointer (some ⟨b, o + 0, none⟩)) w := fun b o w => by kernel_rfl
theorem fa152_1 : ∀ b o w, (Instr.fieldAt 152 (.pointer (some ⟨b, o, none⟩)) 1).run Tryz.prog w = .ok (.pointer (some ⟨b, o + 1, none⟩)) w := fun b o w => by kernel_rfl
def Cn.adE (c : Cn) (n : Int) : Int := if c.okB then if c.n = 3 then 9 else if inB 1 20 [n] then 0 else 2 else 80
def Cn.adC (c : Cn) (n : Int) : Cn := if c.adE n = 0 then c.more n else Cn.zero
def AddCV (c : Cn) (n : Int) (v : Value) (Hn : List Blk) : Prop := ∃ v0, v = .tuple #[v0, .int .i64 (c.adE n)] ∧ TwinC (c.adC n) v0 Hn
theorem AddCV.bad {c : Cn} {n e : Int} (h : c.adE n = e) (he : e ≠ 0) : AddCV c n (.tuple #[.agg #[.slice none 0 0, .slice none 0 0, .int .i64 0], .int .i64 e]) [] := by
 subst h
 refine ⟨_, rfl, ?_⟩
 unfold Cn.adC
 rw [if_neg he]
 exact twinC_zero
theorem AddCV.ok {c : Cn} {n : Int} {v0 : Value} {Hn : List Blk} (h : c.adE n = 0) (hT : TwinC (c.more n) v0 Hn) : AddCV c n (.tuple #[v0, .int .i64 0]) Hn := by
 refine ⟨_, by rw [h], ?_⟩
 unfold Cn.adC
 rw [if_pos h]
 exact hT
theorem caddC_any (c : Cn) (a1 : Option Addr) (p1 : Nat) (a2 : Option Addr) (p2 : Nat) (n : Int) (w : World) (hG : Gv w) (hn : c.n ≤ 1000000) (hm : c.inn.length ≤ 1000000) (h1 : Ints w a1 c.n p1 c.sz) (h2 : Ints w a2 c.inn.length p2 c.inn) : Ct Tryz.prog 37 #[.agg #[.slice a1 c.n p1, .slice a2 c.inn.length p2, .int .i64 c.st], .int .i64 n] w (AddCV c n) := by
 have hF := wide_wide
 refine Ct_start (args := [_, _]) Tryz.func37 rf Tryz.ntmps37 rf ?_
 refine zR fun ds => ?_
 refine WS_new hF rf (y_box rf) (fun b1 => ?_)
 refine WS_new hF rf (y_alloc Tryz.zeroValue24 rf) (fun b4 => ?_)
 refine za (.int .i64 _) hF ?_
 refine zO ?_
 refine zR fun ds => ?_
 refine zD hF (y_loadN rf Tryz.isAgg24 Tryz.sizeOf24 (Mem.own (us := [.slice _ _ _, .slice _ _ _, .int .i64 _]) 1 rf rf) rf) ?_
 refine zD hF (y_callL rf rf Tryz.call47 (fun w hw => ccheck_any c a1 p1 a2 p2 w (hG.st w hw) hn hm (h1.st w hw) (h2.st w hw))) ?_
 refine za (.int .i64 _) hF ?_
 refine zP fun ds => ?_
 refine zm (.int .i64 _) hF ?_
 refine zD hF (y_neq rf rf) ?_
 refine zN ?_
 refine W_cond rf (fun c2 => ?_) (fun c2 => ?_)
 ·
  try simp only [qz1, qz2, qz3, qz4, qz5, qz6, qz7, qz8] at c2
  refine zR fun ds => ?_
  refine zD hF (y_buildL bd24 rf) ?_
  refine zm (.int .i64 _) hF ?_
  refine WS_store hF (i := 0) rf rf Tryz.sizeOf24 rf rf rf d20 ?_
  refine za (.int .i64 _) hF ?_
  refine zN ?_
  refine W_ret ?_
  refine Then_ret ?_
  refine Fin_ret [_, .int .i64 _] [] Tryz.results37 ⟨lvN rf Tryz.isAgg24 Tryz.sizeOf24 (Mem.own (us := [.slice _ _ _, .slice _ _ _, .int .i64 _]) 0 rf rf) rf, by rfl, trivial⟩ HSub.nil ?_
  obtain ⟨h3, h4⟩ := Cn.err_no c2
  rw [h4]
  exact AddCV.bad (by unfold Cn.adE; rw [h3]; rfl) dc
 ·
  try simp only [qz1, qz2, qz3, qz4, qz5, qz6, qz7, qz8] at c2
  have hokB := Cn.err_iff.1 c2
  refine zU ?_
  refine W_seq ?_
  refine W_block ?_
  refine zR fun ds => ?_
  refine zD hF (y_fieldAddr rf fa24_0) ?_
  refine zD hF (y_load1 rf Tryz.isAgg22 (Mem.own1 1 rf rf)) ?_
  refine zD hF (y_len rf Tryz.runUnderlying22) ?_
  refine zD hF (y_eql rf rf) ?_
  refine za (.bool _) hF ?_
  refine zN ?_
  refine W_cond rf (fun c4 => ?_) (fun c4 => ?_)
  ·
   try simp only [qz1, qz2, qz3, qz4, qz5, qz6, qz7, qz8] at c4
   refine zR fun ds => ?_
   refine zD hF (y_buildL bd24 rf) ?_
   refine WS_store hF (i := 0) rf rf Tryz.sizeOf24 rf rf rf d20 ?_
   refine za (.int .i64 _) hF ?_
   refine zN ?_
   refine W_ret ?_
   refine InB_ret ?_
   refine Then_ret ?_
   refine Fin_ret [_, .int .i64 _] [] Tryz.results37 ⟨lvN rf Tryz.isAgg24 Tryz.sizeOf24 (Mem.own (us := [.slice _ _ _, .slice _ _ _, .int .i64 _]) 0 rf rf) rf, by rfl, trivial⟩ HSub.nil ?_
   exact AddCV.bad (by unfold Cn.adE; rw [hokB, if_pos rfl, if_pos om0]) dc
  ·
   try simp only [qz1, qz2, qz3, qz4, qz5, qz6, qz7, qz8] at c4
   refine zR fun ds => ?_
   refine zm (.int .i64 _) hF ?_
   refine WS_newS hF rf (y_buildSliceL bs22_1_0 rf) (fun b2 => ?_)
   refine zD hF (y_callL rf rf Tryz.call52 (fun w hw => cin_any _ _ _ _ _ _ w dc (by first | exact Ints.one 0 rfl w hw | exact Ints.two 0 rfl w hw))) ?_
   refine zD hF (y_not rf) ?_
   refine za (.bool _) hF ?_
   refine zN ?_
   refine W_cond rf (fun c6 => ?_) (fun c6 => ?_)
   ·
    try simp only [qz1, qz2, qz3, qz4, qz5, qz6, qz7, qz8] at c6
    refine zR fun ds => ?_
    refine zD hF (y_buildL bd24 rf) ?_
    refine WS_store hF (i := 1) rf rf Tryz.sizeOf24 rf rf rf d20 ?_
    refine za (.int .i64 _) hF ?_
    refine zN ?_
    refine W_ret ?_
    refine InB_ret ?_
    refine Then_ret ?_
    refine Fin_ret [_, .int .i64 _] [] Tryz.results37 ⟨lvN rf Tryz.isAgg24 Tryz.sizeOf24 (Mem.own (us := [.slice _ _ _, .slice _ _ _, .int .i64 _]) 1 rf rf) rf, by rfl, trivial⟩ HSub.nil ?_
    exact AddCV.bad (by unfold Cn.adE; rw [hokB, if_pos rfl, if_neg om0, c6]; rfl) dc
   ·
    try simp only [qz1, qz2, qz3, qz4, qz5, qz6, qz7, qz8] at c6
    refine W_skip ?_
    refine InB_normal ?_
    refine zS fun ds => ?_
    refine zD hF (y_loadN rf Tryz.isAgg24 Tryz.sizeOf24 (Mem.own (us := [.slice _ _ _, .slice _ _ _, .int .i64 _]) 2 rf rf) rf) ?_
    refine zm (.int .i64 _) hF ?_
    refine WS_gen hF rf (y_callL rf rf Tryz.call82 (fun w hw => cwith_any c a1 p1 a2 p2 n w hn hm (h1.st w hw) (h2.st w hw))) ?_
    rintro _ _ ⟨z1, q1, z2, q2, K1, K2, rfl, hr1, hr2, rfl⟩
    refine WS_back ?_
    refine WS_store hF (i := 1) rf rf Tryz.sizeOf24 rf rf rf d20 ?_
    refine za (.int .i64 _) hF ?_
    refine zN ?_
    refine W_ret ?_
    refine Fin_ret [_, .int .i64 _] (K1 ++ K2) Tryz.results37 ⟨lvN rf Tryz.isAgg24 Tryz.sizeOf24 (Mem.own (us := [.slice _ _ _, .slice _ _ _, .int .i64 _]) 1 rf rf) rf, by rfl, trivial⟩ (HSub.sub sbA) ?_
    exact AddCV.ok (by unfold Cn.adE; rw [hokB, if_pos rfl, if_neg om0, c6]; rfl) ⟨_, _, _, _, K1, K2, rfl, hr1, hr2, rfl⟩
theorem Cn.Ok.more {c : Cn} (h : c.Ok) (h3 : c.n ≠ 3) {n : Int} (hn : 1 ≤ n ∧ n ≤ 20) : (c.more n).Ok := by
 have h1 := h.n1
 have h2 := h.n3
 have hs : c.sz.length = c.n := rfl
 have hl := h.len
 refine ⟨by rw [c.more_n]; omega, by rw [c.more_n]; omega, by rw [c.more_m, c.more_n, h.len], h.st0, h.st1, fun k hk => ?_, fun k hk => ?_⟩
 ·rw [c.more_n] at hk
  unfold Cn.s Cn.more
  by_cases hkn : k < c.n
  ·rw [List.getD_eq_getElem?_getD, List.getElem?_append_left om0, ← List.getD_eq_getElem?_getD]
   exact h.s k hkn
  ·obtain rfl : k = c.sz.length := by omega
   simp [List.getD_eq_getElem?_getD]
   exact hn
 ·rw [c.more_n] at hk
  unfold Cn.s Cn.i Cn.more
  by_cases hkn : k < c.n
  ·rw [List.getD_eq_getElem?_getD, List.getElem?_append_left om0, ← List.getD_eq_getElem?_getD, List.getD_eq_getElem?_getD (l := c.sz ++ [n]), List.getElem?_append_left om0, ← List.getD_eq_getElem?_getD]
   exact h.i k hkn
  ·obtain rfl : k = c.sz.length := by omega
   rw [List.getD_eq_getElem?_getD, List.getD_eq_getElem?_getD, show c.sz.length = c.inn.length by omega]
   rw [show c.inn.length = c.sz.length by omega]
   simp [show c.inn.length = c.sz.length by omega]
   omega
structure Hp where
 s : Int
 m : Int
deriving DecidableEq
def Hp.cells (x : Hp) : List Value := [.int .i64 x.s, .int .i64 x.m]
def Hp.z : Hp := ⟨0, 0⟩
theorem hp_len : ∀ x, (Hp.cells x).length = 2 := fun _ => rfl
abbrev Hps (w : World) (a : Option Addr) (n cap : Nat) (xs : List Hp) : Prop := Rws Hp.cells 2 Hp.z w a n cap xs
def hRow (xs : List Hp) : List Value := rowOf Hp.cells (fun k => xs.getD k Hp.z) xs.length
theorem hRow_snoc (xs : List Hp) (y : Hp) : hRow (xs ++ [y]) = hRow xs ++ y.cells := by
 unfold hRow
 rw [List.length_append, List.length_singleton, rowOf_succ]
 congr 1
 ·exact rowOf_congr _ fun k hk => by simp [List.getD_eq_getElem?_getD, List.getElem?_append_left hk]
 ·simp [List.getD_eq_getElem?_getD]
def ordH (a b : Hp) : Int := orL [cmpI a.m b.m, cmpI a.s b.s]
def minH : List Hp → Hp
 | [] => Hp.z
 | x :: l => l.foldl (fun b y => if ordH y b < 0 then y else b) x
theorem minH_snoc {l : List Hp} (x : Hp) (h : l ≠ []) : minH (l ++ [x]) = if ordH x (minH l) < 0 then x else minH l := by
 cases l with
 | nil => exact absurd rfl h
 | cons y l =>
  show List.foldl _ y (l ++ [x]) = _
  rw [List.foldl_append]
  rfl
theorem ordH_any (p q : Hp) (w : World) : Ct Tryz.prog 84 #[.agg p.cells.toArray, .agg q.cells.toArray] w fun v _ => v = .int .i64 (ordH p q) := by
 have hF := wide_wide
 refine Ct_start (args := [_, _]) Tryz.func84 rf Tryz.ntmps84 rf ?_
 refine zR fun ds => ?_
 refine WS_new hF rf (y_box rf) (fun b1 => ?_)
 refine WS_new hF rf (y_box rf) (fun b2 => ?_)
 refine za (.int .i64 _) hF ?_
 refine zO ?_
 refine W_draw0 hF Tryzmixed [] dk0 (fun ds => ?_)
 refine P_det rf (Over_nil (y_fieldAddr rf fa152_1)) ?_
 refine P_det rf (Over_nil (y_load1 rf Tryz.isAgg3 (Mem.own1 1 rf rf))) ?_
 refine P_det rf (Over_nil (y_fieldAddr rf fa152_1)) ?_
 refine P_det rf (Over_nil (y_load1 rf Tryz.isAgg3 (Mem.own1 0 rf rf))) ?_
 refine P_det rf (Over_nil (y_callL rf rf Tryz.call86 (fun w hw => compare_any p.m q.m w))) ?_
 refine P_det rf (Over_nil (y_fieldAddr rf fa152_0)) ?_
 refine P_det rf (Over_nil (y_load1 rf Tryz.isAgg3 (Mem.own1 1 rf rf))) ?_
 refine P_det rf (Over_nil (y_fieldAddr rf fa152_0)) ?_
 refine P_det rf (Over_nil (y_load1 rf Tryz.isAgg3 (Mem.own1 0 rf rf))) ?_
 refine P_det rf (Over_nil (y_callL rf rf Tryz.call86 (fun w hw => compare_any p.s q.s w))) ?_
 refine P_new rf rf (Over_nil (y_buildSliceL bs22_2_0_1 rf)) ?_
 refine P_det rf (Over_in rf (Over_nil (by rintro _ _ ⟨b4, rfl, rfl⟩; exact (y_callL rf rf Tryz.call85 (fun w hw => orL_any _ 2 2 [cmpI p.m q.m, cmpI p.s q.s] w dc (Ints.two 0 rf w hw)))))) ?_
 refine P_det rf (Over_out rf (Over_nil (y_assign (c := .int .i64 _) rf))) ?_
 refine PW_end rf ?_
 refine OverAll_cons (fun w15 l15 => ?_)
 refine OverAll_nil ?_
 rintro ⟨-, h15⟩
 obtain ⟨b3, rfl, rfl⟩ := h15
 refine Then_normal ?_
 refine W_ret ?_
 refine Fin_ret [.int .i64 _] [] Tryz.results84 ⟨by rfl, trivial⟩ HSub.nil ?_
 rfl
theorem minH_any (a : Option Addr) (n cap : Nat) (xs : List Hp) (w : World) (hn0 : 0 < n) (hn : n ≤ 1000000) (hx : Hps w a n cap xs) :
  Ct Tryz.prog 117 #[.slice a n cap, .func (.func 84) #[] #[]] w fun v _ => v = .agg (minH xs).cells.toArray := by
 have hl := hx.len
 obtain ⟨b0, o0, rfl, hc0⟩ := hx.cell 0 hn0
 change At w b0 _ (xs.getD 0 Hp.z).cells at hc0
 have hF := wide_wide
 refine Ct_start (args := [_, _]) Tryz.func117 rf Tryz.ntmps117 rf ?_
 refine zR fun ds => ?_
 refine WS_new hF rf (y_alloc Tryz.zeroValue152 rf) (fun b1 => ?_)
 refine zO ?_
 refine zR fun ds => ?_
 refine zm (.slice _ _ _) hF ?_
 refine zD hF (y_len rf Tryz.runUnderlying149) ?_
 refine zD hF (y_lss rf rf) ?_
 refine zN ?_
 refine W_cond rf (fun c1 => ?_) (fun c1 => ?_)
 ·(simp only [decide_eq_true_eq] at c1; omega)
 ·
  try simp only [qz1, qz2, qz3, qz4, qz5, qz6, qz7, qz8] at c1
  refine W_skip ?_
  refine zS fun ds => ?_
  refine zm (.slice _ _ _) hF ?_
  refine zD hF (y_index (k := 0) rf rf r1 d10 Tryz.runUnderlying149 Tryz.sizeOf152) ?_
  refine zD hF (y_loadN rf Tryz.isAgg152 Tryz.sizeOf152 (zq [.int .i64 _, .int .i64 _]) rf) ?_
  refine WS_new hF rf (y_alloc Tryz.zeroValue152 rf) (fun b2 => ?_)
  refine WS_store hF (i := 0) rf rf Tryz.sizeOf152 rf rf rf d20 ?_
  refine zO ?_
  refine W_seq ?_
  have hm0 : xs.getD 0 Hp.z = minH (xs.take 1) := by
   cases xs with
   | nil => simp at hl; omega
   | cons y l => rfl
  refine W_region_lit (fun ds => ?_)
  refine za (.int .i64 _) hF ?_
  refine zN ?_
  refine W_block ?_
  refine W_loop (γ := Nat × Hp) (fun q => 1 ≤ q.1 ∧ q.1 ≤ n ∧ q.2 = minH (xs.take q.1)) (fun q => [(0, .slice (some ⟨b0, o0, none⟩) n cap), (1, .func (.func 84) #[] #[]), (4, .pointer (some ⟨b1, 0, none⟩)), (5, .pointer (some ⟨b2, 0, none⟩)), (6, .int .i64 (q.1 : Int))]) (fun q => [(b2, CB q.2.cells 152), (b1, CB [.int .i64 0, .int .i64 0] 152)]) (fun q => n - q.1) ((1, xs.getD 0 Hp.z)) ⟨Nat.le_refl _, hn0, hm0⟩ s10 (sbA) ?_
  rintro ⟨k, x⟩ e ⟨hk1, hkn, (hmx : x = minH (xs.take k))⟩
  refine W_seq ?_
  refine zR fun ds => ?_
  refine zm (.int .i64 _) hF ?_
  refine zm (.slice _ _ _) hF ?_
  refine zD hF (y_len rf Tryz.runUnderlying149) ?_
  refine zD hF (y_lss rf rf) ?_
  refine zN ?_
  refine W_cond rf (fun c5 => ?_) (fun c5 => ?_)
  ·
   try simp only [qz1, qz2, qz3, qz4, qz5, qz6, qz7, qz8] at c5
   have hck := hx.at (k := k) om0
   have htk : minH (xs.take (k + 1)) = if ordH (xs.getD k Hp.z) (minH (xs.take k)) < 0 then xs.getD k Hp.z else minH (xs.take k) := by
    have hkl : k < xs.length := by omega
    rw [List.take_add_one, List.getElem?_eq_getElem hkl]
    simp only [Option.toList_some]
    rw [minH_snoc _ (by intro h; have := congrArg List.length h; simp only [List.length_take, List.length_nil] at this; omega)]
    simp [List.getD_eq_getElem?_getD, hkl]
   rw [← hmx] at htk
   refine zU ?_
   refine W_seq ?_
   refine W_block ?_
   refine W_seq ?_
   refine W_draw0 hF Tryzmixed [] dk0 (fun ds => ?_)
   refine P_det rf (Over_nil (y_move (c := _) rf)) ?_
   refine P_det rf (Over_nil (y_move (c := .slice _ _ _) rf)) ?_
   refine P_det rf (Over_nil (y_move (c := .int .i64 _) rf)) ?_
   refine P_det rf (Over_nil (y_index (k := k) rf rf r1 d10 Tryz.runUnderlying149 Tryz.sizeOf152)) ?_
   refine P_det rf (Over_nil (y_loadN rf Tryz.isAgg152 Tryz.sizeOf152 (zq [.int .i64 _, .int .i64 _]) rf)) ?_
   refine P_det rf (Over_nil (y_loadN rf Tryz.isAgg152 Tryz.sizeOf152 (Mem.own (us := [.int .i64 _, .int .i64 _]) 0 rf rf) rf)) ?_
   refine P_det rf (Over_nil (y_callL (first := []) (captured := []) rf rf Tryz.call84 (fun w hw => ordH_any (xs.getD k Hp.z) x w))) ?_
   refine P_det rf (Over_nil (y_lss rf rf)) ?_
   refine PW_end rf ?_
   refine OverAll_nil ?_
   rintro -
   refine Then_normal ?_
   refine W_cond rf (fun c7 => ?_) (fun c7 => ?_)
   ·
    try simp only [qz1, qz2, qz3, qz4, qz5, qz6, qz7, qz8] at c7
    have hm2 : xs.getD k Hp.z = minH (xs.take (k + 1)) := by rw [htk, if_pos c7]
    refine W_region_lit (fun ds => ?_)
    refine zm (.slice _ _ _) hF ?_
    refine zm (.int .i64 _) hF ?_
    refine zD hF (y_index (k := k) rf rf r1 d10 Tryz.runUnderlying149 Tryz.sizeOf152) ?_
    refine zD hF (y_loadN rf Tryz.isAgg152 Tryz.sizeOf152 (zq [.int .i64 _, .int .i64 _]) rf) ?_
    refine WS_store hF (i := 0) rf rf Tryz.sizeOf152 rf rf rf d20 ?_
    refine WS_nil ?_
    refine InB_normal ?_
    refine zT fun ds => ?_
    refine zm (.int .i64 _) hF ?_
    refine zD hF (y_add rf rf ui) ?_
    refine za (.int .i64 _) hF ?_
    refine WS_nil ?_
    exact Loop_next (k + 1, xs.getD k Hp.z) ⟨by omega, by simp only; omega, hm2⟩ s10 sbA (by simp only; omega)
   ·
    try simp only [qz1, qz2, qz3, qz4, qz5, qz6, qz7, qz8] at c7
    have hm2 : x = minH (xs.take (k + 1)) := by rw [htk, if_neg om0]
    refine W_skip ?_
    refine InB_normal ?_
    refine zT fun ds => ?_
    refine zm (.int .i64 _) hF ?_
    refine zD hF (y_add rf rf ui) ?_
    refine za (.int .i64 _) hF ?_
    refine WS_nil ?_
    exact Loop_next (k + 1, x) ⟨by omega, by simp only; omega, hm2⟩ s10 sbA (by simp only; omega)
  ·
   try simp only [qz1, qz2, qz3, qz4, qz5, qz6, qz7, qz8] at c5
   refine W_exit ?_
   refine Then_exit ?_
   refine Loop_exit ?_
   refine InB_same ?_
   refine zS fun ds => ?_
   refine zD hF (y_loadN rf Tryz.isAgg152 Tryz.sizeOf152 (Mem.own (us := [.int .i64 _, .int .i64 _]) 0 rf rf) rf) ?_
   refine WS_store hF (i := 1) rf rf Tryz.sizeOf152 rf rf rf d20 ?_
   refine zN ?_
   refine W_ret ?_
   refine Fin_ret [_] [] Tryz.results117 ⟨lvN rf Tryz.isAgg152 Tryz.sizeOf152 (Mem.own (us := [.int .i64 _, .int .i64 _]) 1 rf rf) rf, trivial⟩ HSub.nil ?_
   obtain rfl : k = n := by omega
   rw [hmx, ← hl, List.take_length]
   rfl
theorem firstH_any (a : Option Addr) (n cap : Nat) (xs : List Hp) (w : World) (hn0 : 0 < n) (hn : n ≤ 1000000) (hx : Hps w a n cap xs) :
  Ct Tryz.prog 83 #[.slice a n cap, .func (.func 84) #[] #[]] w fun v _ => v = .agg (minH xs).cells.toArray := by
 have hF := wide_wide
 refine Ct_start (args := [_, _]) Tryz.func83 rf Tryz.ntmps83 rf ?_
 refine zR fun ds => ?_
 refine WS_new hF rf (y_alloc Tryz.zeroValue152 rf) (fun b1 => ?_)
 refine zP fun ds => ?_
 refine zm (.slice _ _ _) hF ?_
 refine zm (_) hF ?_
 refine zD hF (y_callL rf rf Tryz.call117 (fun w hw => minH_any a n cap xs w hn0 hn (hx.st w hw))) ?_
 refine WS_store hF (i := 0) rf rf Tryz.sizeOf152 rf rf rf d20 ?_
 refine zN ?_
 refine W_ret ?_
 refine Fin_ret [_] [] Tryz.results83 ⟨lvN rf Tryz.isAgg152 Tryz.sizeOf152 (Mem.own (us := [.int .i64 _, .int .i64 _]) 0 rf rf) rf, trivial⟩ HSub.nil ?_
 rfl
theorem bd152_0_1 {x0 : Int} {x1 : Int} : ∀ w, (Instr.build 152 #[(0, .int .i64 x0), (1, .int .i64 x1)]).run Tryz.prog w = .ok (.agg #[.int .i64 x0, .int .i64 x1]) w := fun w => by kernel_rfl
theorem bs149_1_0 {x0_0 : Int} {x0_1 : Int} : ∀ w, (Instr.buildSlice 149 1 #[(0, .agg #[.int .i64 x0_0, .int .i64 x0_1])]).run Tryz.prog w = .ok (.slice (some ⟨w.heap.size, 0, none⟩) 1 1) (w.alloc (CB [.int .i64 x0_0, .int .i64 x0_1] 152)) := fun w => by kernel_rfl
noncomputable def Cn.hk (c : Cn) (n s : Int) : Option Wy := (c.more s).few ((c.more s).someP n)
noncomputable def Cn.hpL (c : Cn) (n : Int) : Nat → List Hp
 | 0 => []
 | k + 1 => if (k : Int) + 1 = n then c.hpL n k else match c.hk n ((k : Int) + 1) with
  | none => c.hpL n k
  | some w => c.hpL n k ++ [⟨(k : Int) + 1, (w.l.length : Int)⟩]
theorem Cn.hpL_skip {c : Cn} {n : Int} {k : Nat} (h : (k : Int) + 1 = n) : c.hpL n (k + 1) = c.hpL n k := by
 rw [Cn.hpL, if_pos h]
theorem Cn.hpL_none {c : Cn} {n : Int} {k : Nat} (h : c.hk n ((k : Int) + 1) = none) : c.hpL n (k + 1) = c.hpL n k := by
 rw [Cn.hpL, h]
 split <;> rfl
theorem Cn.hpL_some {c : Cn} {n : Int} {k : Nat} {w : Wy} (h0 : ¬ (k : Int) + 1 = n) (h : c.hk n ((k : Int) + 1) = some w) : c.hpL n (k + 1) = c.hpL n k ++ [⟨(k : Int) + 1, (w.l.length : Int)⟩] := by
 rw [Cn.hpL, if_neg h0, h]
theorem Cn.hpL_len (c : Cn) (n : Int) : ∀ k, (c.hpL n k).length ≤ k
 | 0 => Nat.le_refl _
 | k + 1 => by
  have ih := c.hpL_len n k
  unfold Cn.hpL
  split
  ·omega
  ·split
   ·omega
   ·rw [List.length_append, List.length_singleton]; omega
noncomputable def Cn.hpE (c : Cn) (n : Int) : Int := if c.okB then if inB 0 20 [n] then if c.n = 3 then 9 else if c.hpL n 20 = [] then 6 else 0 else 2 else 80
def HlpV (c : Cn) (n : Int) (v : Value) : Prop := v = .tuple #[.int .i64 (if c.hpE n = 0 then (minH (c.hpL n 20)).s else 0), .int .i64 (if c.hpE n = 0 then (minH (c.hpL n 20)).m else 0), .int .i64 (c.hpE n)]
theorem HlpV.bad {c : Cn} {n e : Int} (h : c.hpE n = e) (he : e ≠ 0) : HlpV c n (.tuple #[.int .i64 0, .int .i64 0, .int .i64 e]) := by
 subst h
 unfold HlpV
 rw [if_neg he, if_neg he]
theorem HlpV.ok {c : Cn} {n : Int} (h : c.hpE n = 0) : HlpV c n (.tuple #[.int .i64 (minH (c.hpL n 20)).s, .int .i64 (minH (c.hpL n 20)).m, .int .i64 0]) := by
 unfold HlpV
 rw [if_pos h, if_pos h, h]
theorem infHp : (Tryz.prog.info? 152).map (fun i => (i.zero, i.size, i.bytes)) = some (some (.agg #[.int .i64 0, .int .i64 0]), 2, 16) := by kernel_rfl
theorem help_any (c : Cn) (a1 : Option Addr) (p1 : Nat) (a2 : Option Addr) (p2 : Nat) (n : Int) (w : World) (hG : Gv w) (hn : c.n ≤ 1000000) (hm : c.inn.length ≤ 1000000) (h1 : Ints w a1 c.n p1 c.sz) (h2 : Ints w a2 c.inn.length p2 c.inn) : Ct Tryz.prog 36 #[.agg #[.slice a1 c.n p1, .slice a2 c.inn.length p2, .int .i64 c.st], .int .i64 n] w fun v _ => HlpV c n v := by
 have hF := wide_wide
 refine Ct_start (args := [_, _]) Tryz.func36 rf Tryz.ntmps36 rf ?_
 refine zR fun ds => ?_
 refine WS_new hF rf (y_box rf) (fun b1 => ?_)
 refine za (.int .i64 _) hF ?_
 refine za (.int .i64 _) hF ?_
 refine za (.int .i64 _) hF ?_
 refine zO ?_
 refine zR fun ds => ?_
 refine zD hF (y_loadN rf Tryz.isAgg24 Tryz.sizeOf24 (Mem.own (us := [.slice _ _ _, .slice _ _ _, .int .i64 _]) 0 rf rf) rf) ?_
 refine zD hF (y_callL rf rf Tryz.call47 (fun w hw => ccheck_any c a1 p1 a2 p2 w (hG.st w hw) hn hm (h1.st w hw) (h2.st w hw))) ?_
 refine za (.int .i64 _) hF ?_
 refine zP fun ds => ?_
 refine zm (.int .i64 _) hF ?_
 refine zD hF (y_neq rf rf) ?_
 refine zN ?_
 refine W_cond rf (fun c2 => ?_) (fun c2 => ?_)
 ·
  try simp only [qz1, qz2, qz3, qz4, qz5, qz6, qz7, qz8] at c2
  refine zR fun ds => ?_
  refine zm (.int .i64 _) hF ?_
  refine za (.int .i64 _) hF ?_
  refine za (.int .i64 _) hF ?_
  refine za (.int .i64 _) hF ?_
  refine zN ?_
  refine W_ret ?_
  refine Then_ret ?_
  refine Fin_ret [.int .i64 _, .int .i64 _, .int .i64 _] [] Tryz.results36 ⟨by rfl, by rfl, by rfl, trivial⟩ HSub.nil ?_
  obtain ⟨h3, h4⟩ := Cn.err_no c2
  rw [h4]
  exact HlpV.bad (by unfold Cn.hpE; rw [h3]; rfl) dc
 ·
  try simp only [qz1, qz2, qz3, qz4, qz5, qz6, qz7, qz8] at c2
  have hokB := Cn.err_iff.1 c2
  have hok := Cn.ok_iff.1 hokB
  refine zU ?_
  refine W_seq ?_
  refine W_block ?_
  refine zR fun ds => ?_
  refine zm (.int .i64 _) hF ?_
  refine WS_newS hF rf (y_buildSliceL bs22_1_0 rf) (fun b2 => ?_)
  refine zD hF (y_callL rf rf Tryz.call52 (fun w hw => cin_any _ _ _ _ _ _ w dc (by first | exact Ints.one 0 rfl w hw | exact Ints.two 0 rfl w hw))) ?_
  refine zD hF (y_not rf) ?_
  refine za (.bool _) hF ?_
  refine zN ?_
  refine W_cond rf (fun c4 => ?_) (fun c4 => ?_)
  ·
   try simp only [qz1, qz2, qz3, qz4, qz5, qz6, qz7, qz8] at c4
   refine zR fun ds => ?_
   refine za (.int .i64 _) hF ?_
   refine za (.int .i64 _) hF ?_
   refine za (.int .i64 _) hF ?_
   refine zN ?_
   refine W_ret ?_
   refine InB_ret ?_
   refine Then_ret ?_
   refine Fin_ret [.int .i64 _, .int .i64 _, .int .i64 _] [] Tryz.results36 ⟨by rfl, by rfl, by rfl, trivial⟩ HSub.nil ?_
   exact HlpV.bad (by unfold Cn.hpE; rw [hokB, if_pos rfl, c4]; rfl) dc
  ·
   try simp only [qz1, qz2, qz3, qz4, qz5, qz6, qz7, qz8] at c4
   refine zR fun ds => ?_
   refine zD hF (y_fieldAddr rf fa24_0) ?_
   refine zD hF (y_load1 rf Tryz.isAgg22 (Mem.own1 1 rf rf)) ?_
   refine zD hF (y_len rf Tryz.runUnderlying22) ?_
   refine zD hF (y_eql rf rf) ?_
   refine za (.bool _) hF ?_
   refine zN ?_
   refine W_cond rf (fun c6 => ?_) (fun c6 => ?_)
   ·
    try simp only [qz1, qz2, qz3, qz4, qz5, qz6, qz7, qz8] at c6
    refine zR fun ds => ?_
    refine za (.int .i64 _) hF ?_
    refine za (.int .i64 _) hF ?_
    refine za (.int .i64 _) hF ?_
    refine zN ?_
    refine W_ret ?_
    refine InB_ret ?_
    refine Then_ret ?_
    refine Fin_ret [.int .i64 _, .int .i64 _, .int .i64 _] [] Tryz.results36 ⟨by rfl, by rfl, by rfl, trivial⟩ HSub.nil ?_
    exact HlpV.bad (by unfold Cn.hpE; rw [hokB, if_pos rfl, c4, if_pos rfl, if_pos om0]) dc
   ·
    try simp only [qz1, qz2, qz3, qz4, qz5, qz6, qz7, qz8] at c6
    refine W_skip ?_
    refine InB_normal ?_
    refine zS fun ds => ?_
    refine za (.slice _ _ _) hF ?_
    refine zO ?_
    refine zR fun ds => ?_
    refine zm (.int .i64 _) hF ?_
    refine zN ?_
    refine W_block ?_
    refine W_loop (γ := Nat × Option Addr × Nat × List Blk) (fun q => q.1 ≤ 20 ∧ NewRow 152 2 (c.hpL n q.1).length (hRow (c.hpL n q.1)) (.slice q.2.1 (c.hpL n q.1).length q.2.2.1) q.2.2.2) (fun q => [(1, .int .i64 n), (2, .pointer (some ⟨b1, 0, none⟩)), (8, .slice q.2.1 (c.hpL n q.1).length q.2.2.1), (29, .int .i64 (q.1 : Int))]) (fun q => (b1, CB [.slice a1 c.n p1, .slice a2 c.inn.length p2, .int .i64 c.st] 24) :: q.2.2.2) (fun q => 20 - q.1) ((0, none, 0, [])) ⟨Nat.zero_le _, ⟨none, 0, rfl, Nat.le_refl _, .inr ⟨rfl, rfl, rfl⟩⟩⟩ s10 (sbA) ?_
    rintro ⟨k, a, cap, Hr⟩ e ⟨(hk : k ≤ 20), (hrow : NewRow 152 2 (c.hpL n k).length (hRow (c.hpL n k)) (.slice a (c.hpL n k).length cap) Hr)⟩
    refine zR fun ds => ?_
    refine zD hF (y_lss rf rf) ?_
    refine zO ?_
    refine W_cond rf (fun c10 => ?_) (fun c10 => ?_)
    ·
     try simp only [qz1, qz2, qz3, qz4, qz5, qz6, qz7, qz8] at c10
     have hk20 : k < 20 := by omega
     have hll := c.hpL_len n k
     have h1n := hok.n1
     have h3n := hok.n3
     refine zU ?_
     refine W_seq ?_
     refine W_block ?_
     refine zR fun ds => ?_
     refine zm (.int .i64 _) hF ?_
     refine za (.int .i64 _) hF ?_
     refine zO ?_
     refine zR fun ds => ?_
     refine zm (.int .i64 _) hF ?_
     refine zD hF (y_add rf rf ui) ?_
     refine zm (.int .i64 _) hF ?_
     refine zD hF (y_eql rf rf) ?_
     refine zN ?_
     refine W_cond rf (fun c12 => ?_) (fun c12 => ?_)
     ·
      try simp only [qz1, qz2, qz3, qz4, qz5, qz6, qz7, qz8] at c12
      have hL : c.hpL n (k + 1) = c.hpL n k := Cn.hpL_skip c12
      refine W_exit ?_
      refine Then_exit ?_
      refine InB_same ?_
      refine zT fun ds => ?_
      refine zD hF (y_add rf rf ui) ?_
      refine zm (.int .i64 _) hF ?_
      refine WS_nil ?_
      exact Loop_next (k + 1, a, cap, Hr) ⟨by omega, by simp only [hL]; exact hrow⟩ (by simp only [hL]; repeat (first | exact trivial | refine ⟨by rfl, ?_⟩)) sbA (by simp only; omega)
     ·
      try simp only [qz1, qz2, qz3, qz4, qz5, qz6, qz7, qz8] at c12
      have hokm : (c.more ((k : Int) + 1)).Ok := hok.more om0 om0
      have hnm : (c.more ((k : Int) + 1)).n ≤ 1000000 := by rw [c.more_n]; omega
      have hmm : (c.more ((k : Int) + 1)).inn.length ≤ 1000000 := by rw [c.more_m]; have := hok.len; omega
      refine W_skip ?_
      refine zS fun ds => ?_
      refine zD hF (y_loadN rf Tryz.isAgg24 Tryz.sizeOf24 (Mem.own (us := [.slice _ _ _, .slice _ _ _, .int .i64 _]) 0 rf rf) rf) ?_
      refine zm (.int .i64 _) hF ?_
      refine zD hF (y_add rf rf ui) ?_
      refine WS_gen hF rf (y_callL rf rf Tryz.call82 (fun w hw => cwith_any c a1 p1 a2 p2 ((k : Int) + 1) w hn hm (h1.st w hw) (h2.st w hw))) ?_
      rintro _ _ ⟨z1, q1, z2, q2, K1, K2, rfl, hr1, hr2, rfl⟩
      refine WS_back ?_
      refine zD hF (y_buildL bd92_0 rf) ?_
      refine WS_new hF rf (y_alloc Tryz.zeroValue92 rf) (fun b10 => ?_)
      refine WS_store hF (i := 0) rf rf Tryz.sizeOf92 rf rf rf d20 ?_
      refine zO ?_
      refine W_tailH 11 Tryzmixed (fun e2 H2 => ∃ (fx : Wl) (fb : Bool) (b11 : Nat), (fb = true → c.hk n ((k : Int) + 1) = some fx.w) ∧ (fb = false → c.hk n ((k : Int) + 1) = none) ∧ Slots e2 [(1, .int .i64 n), (2, .pointer (some ⟨b1, 0, none⟩)), (8, .slice a (c.hpL n k).length cap), (9, .int .i64 (k : Int)), (29, .int .i64 (k : Int)), (11, .pointer (some ⟨b11, 0, none⟩)), (49, .bool fb)] ∧ HSub H2 ((b11, CB fx.cells 118) :: (b1, CB [.slice a1 c.n p1, .slice a2 c.inn.length p2, .int .i64 c.st] 24) :: Hr)) dk0 (fun ds e2 H2 hmid => ?_) (fun ds => ?_)
      ·
       obtain ⟨fx, fb, b11, hfy, hfn, hsl, hsb⟩ := hmid
       rw [← hsl.sets]
       refine WS_sub hsb ?_
       refine za (.bool _) hF ?_
       refine zP fun ds => ?_
       refine zm (.bool _) hF ?_
       refine zN ?_
       refine W_cond rf (fun c15 => ?_) (fun c15 => ?_)
       ·
        try simp only [qz1, qz2, qz3, qz4, qz5, qz6, qz7, qz8] at c15
        have hL : c.hpL n (k + 1) = c.hpL n k ++ [⟨(k : Int) + 1, (fx.w.l.length : Int)⟩] := Cn.hpL_some c12 (hfy c15)
        refine W_region_lit (fun ds => ?_)
        refine zm (.slice _ _ _) hF ?_
        refine zm (.int .i64 _) hF ?_
        refine zD hF (y_add rf rf ui) ?_
        refine zD hF (y_fieldAddr rf fa118_0) ?_
        refine zD hF (y_load1 rf Tryz.isAgg35 (Mem.own1 0 rf rf)) ?_
        refine zD hF (y_len rf Tryz.runUnderlying35) ?_
        refine zD hF (y_buildL bd152_0_1 rf) ?_
        refine WS_newS hF rf (y_buildSliceL bs149_1_0 rf) (fun b3 => ?_)
        refine WS_appendN hF (H1 := (_ :: _ :: _ :: [])) (Hn := Hr) (news := Hp.cells ⟨(k : Int) + 1, (fx.w.l.length : Int)⟩) rf rf rf Tryz.underlying149 infHp rf rf hrow (rowOf_len hp_len _ _) (.inr ⟨_, _, rfl, Mem.own (us := [.int _ _, .int _ _]) 0 rf rf⟩) rf rf om0 om0 om0 ?_
        intro a3 cap3 H3 hr3
        have hrow3 : NewRow 152 2 (c.hpL n (k + 1)).length (hRow (c.hpL n (k + 1))) (.slice a3 (c.hpL n (k + 1)).length cap3) H3 := by rw [hL, hRow_snoc, List.length_append]; exact hr3
        refine za (.slice _ _ _) hF ?_
        refine WS_nil ?_
        refine InB_normal ?_
        refine zT fun ds => ?_
        refine zD hF (y_add rf rf ui) ?_
        refine zm (.int .i64 _) hF ?_
        refine WS_nil ?_
        exact Loop_next (k + 1, a3, cap3, H3) ⟨by omega, hrow3⟩ (by simp only [hL, List.length_append, List.length_singleton]; repeat (first | exact trivial | refine ⟨by rfl, ?_⟩)) sbA (by simp only; omega)
       ·
        try simp only [qz1, qz2, qz3, qz4, qz5, qz6, qz7, qz8] at c15
        have hL : c.hpL n (k + 1) = c.hpL n k := Cn.hpL_none (hfn c15)
        refine W_skip ?_
        refine InB_normal ?_
        refine zT fun ds => ?_
        refine zD hF (y_add rf rf ui) ?_
        refine zm (.int .i64 _) hF ?_
        refine WS_nil ?_
        exact Loop_next (k + 1, a, cap, Hr) ⟨by omega, by simp only [hL]; exact hrow⟩ (by simp only [hL]; repeat (first | exact trivial | refine ⟨by rfl, ?_⟩)) sbA (by simp only; omega)
      ·
       refine WH_take 0 dk0 rf dk0 dk0 rf (ye_loadN rf Tryz.isAgg92 Tryz.sizeOf92 (Mem.own (us := [.slice _ _ _, .slice _ _ _, .int .i64 _]) 0 rf rf) rf) ?_
       refine WH_take 2 dk0 rf dk0 dk0 rf (ye_loadN rf Tryz.isAgg92 Tryz.sizeOf92 (Mem.own (us := [.slice _ _ _, .slice _ _ _, .int .i64 _]) 0 rf rf) rf) ?_
       refine WH_take 3 dk0 rf dk0 dk0 rf (ye_move (c := .int .i64 _) rf) ?_
       refine WH_step2 1 9 dk0 (fun _ h => St.sub h sbA) rf rf ?_ ?_
       ·
        refine WS_gen hF rf (y_callL rf rf Tryz.call50 (fun w hw => ways_any (c.more ((k : Int) + 1)) z1 q1 z2 q2 w hokm hnm hmm (NewRow.ints hr1 rfl sbA w hw) (NewRow.ints hr2 rfl sbA w hw))) ?_
        rintro _ _ ⟨mk, lE, ck, HX, rfl, rfl, hg, hT⟩
        refine WS_nil ?_
        refine WH_step2 4 9 dk0 (fun _ h => St.sub h sbA) rf rf ?_ ?_
        ·
         refine WS_gen hF rf (y_callL rf rf Tryz.call54 (fun w hw => some_any (c.more ((k : Int) + 1)) z1 q1 z2 q2 n w)) ?_
         rintro _ _ ⟨bb, bp, rfl, rfl⟩
         refine WS_nil ?_
         refine WH_step2 5 9 dk0 (fun _ h => St.sub h sbA) rf rf ?_ ?_
         ·
          refine WS_pull (bp, _) zu ?_
          refine WS_pull (bb, _) zu ?_
          refine WS_pull (mk, _) zu ?_
          refine WS_callS hF rf rf rf Tryz.call66 (fewest_cs _ _ _ mk ck lE (c.more ((k : Int) + 1)) _ 100 [] [_, _] ((c.more ((k : Int) + 1)).someP n) hg (hT.mono sbA) [(bb, CB [.slice z1 (c.more ((k : Int) + 1)).n q1, .slice z2 (c.more ((k : Int) + 1)).inn.length q2, .int .i64 (c.more ((k : Int) + 1)).st] 92), (bp, CB [.int .i64 n] 3)] ⟨Tryz.call100, fun x hx C H w' hC hs hw => some1_any (c.more ((k : Int) + 1)) z1 q1 z2 q2 x n bb bp w' hokm (Mem.own (us := [.slice z1 (c.more ((k : Int) + 1)).n q1, .slice z2 (c.more ((k : Int) + 1)).inn.length q2, .int .i64 (c.more ((k : Int) + 1)).st]) 0 rf rf w' (St.sub hw hs)) (Mem.own1 1 rf rf w' (St.sub hw hs))⟩ sbA hokm) ?_
          rintro _ _ ⟨fx, fb, rfl, hfv, rfl⟩
          have hfy : fb = true → c.hk n ((k : Int) + 1) = some fx.w := hfv.yes'
          have hfn : fb = false → c.hk n ((k : Int) + 1) = none := fun h => (hfv.no' h).2
          refine WS_nil ?_
          refine WH_take 6 dk0 rf dk0 dk0 rf (ye_move (c := .tuple _) rf) ?_
          refine WH_take 7 dk0 rf dk0 dk0 rf (ye_extract (c := .agg _) rf rf) ?_
          refine WH_take 8 dk0 rf dk0 dk0 rf (ye_extract (c := .bool _) rf rf) ?_
          refine WH_step1 9 dk0 (fun _ h => St.sub h sbA) rf ?_
          ·
           refine WS_new hF rf (y_alloc Tryz.zeroValue118 rf) (fun b11 => ?_)
           refine WS_nil ?_
           refine WH_step1 10 dk0 (fun _ h => St.sub h sbA) rf ?_
           ·
            refine WS_pull (b11, _) zu ?_
            refine WS_store hF (i := 0) rf rf Tryz.sizeOf118 rf rf rf d20 ?_
            refine WS_nil ?_
            refine WH_done dk0 (fun _ h => St.sub h sbA) ?_
            exact ⟨fx, fb, _, hfy, hfn, s30, HSub.sub sbA⟩
         ·
          refine WS_new hF rf (y_alloc Tryz.zeroValue118 rf) (fun b11 => ?_)
          refine WS_nil ?_
          refine WH_step1 5 dk0 (fun _ h => St.sub h sbA) rf ?_
          ·
           refine WS_pull (bp, _) zu ?_
           refine WS_pull (bb, _) zu ?_
           refine WS_pull (mk, _) zu ?_
           refine WS_callS hF rf rf rf Tryz.call66 (fewest_cs _ _ _ mk ck lE (c.more ((k : Int) + 1)) _ 100 [] [_, _] ((c.more ((k : Int) + 1)).someP n) hg (hT.mono sbA) [(bb, CB [.slice z1 (c.more ((k : Int) + 1)).n q1, .slice z2 (c.more ((k : Int) + 1)).inn.length q2, .int .i64 (c.more ((k : Int) + 1)).st] 92), (bp, CB [.int .i64 n] 3)] ⟨Tryz.call100, fun x hx C H w' hC hs hw => some1_any (c.more ((k : Int) + 1)) z1 q1 z2 q2 x n bb bp w' hokm (Mem.own (us := [.slice z1 (c.more ((k : Int) + 1)).n q1, .slice z2 (c.more ((k : Int) + 1)).inn.length q2, .int .i64 (c.more ((k : Int) + 1)).st]) 0 rf rf w' (St.sub hw hs)) (Mem.own1 1 rf rf w' (St.sub hw hs))⟩ sbA hokm) ?_
           rintro _ _ ⟨fx, fb, rfl, hfv, rfl⟩
           have hfy : fb = true → c.hk n ((k : Int) + 1) = some fx.w := hfv.yes'
           have hfn : fb = false → c.hk n ((k : Int) + 1) = none := fun h => (hfv.no' h).2
           refine WS_nil ?_
           refine WH_take 6 dk0 rf dk0 dk0 rf (ye_move (c := .tuple _) rf) ?_
           refine WH_take 7 dk0 rf dk0 dk0 rf (ye_extract (c := .agg _) rf rf) ?_
           refine WH_take 8 dk0 rf dk0 dk0 rf (ye_extract (c := .bool _) rf rf) ?_
           refine WH_step1 10 dk0 (fun _ h => St.sub h sbA) rf ?_
           ·
            refine WS_pull (b11, _) zu ?_
            refine WS_store hF (i := 0) rf rf Tryz.sizeOf118 rf rf rf d20 ?_
            refine WS_nil ?_
            refine WH_done dk0 (fun _ h => St.sub h sbA) ?_
            exact ⟨fx, fb, _, hfy, hfn, s30, HSub.sub sbA⟩
        ·
         refine WS_new hF rf (y_alloc Tryz.zeroValue118 rf) (fun b11 => ?_)
         refine WS_nil ?_
         refine WH_step1 4 dk0 (fun _ h => St.sub h sbA) rf ?_
         ·
          refine WS_gen hF rf (y_callL rf rf Tryz.call54 (fun w hw => some_any (c.more ((k : Int) + 1)) z1 q1 z2 q2 n w)) ?_
          rintro _ _ ⟨bb, bp, rfl, rfl⟩
          refine WS_nil ?_
          refine WH_step1 5 dk0 (fun _ h => St.sub h sbA) rf ?_
          ·
           refine WS_pull (bp, _) zu ?_
           refine WS_pull (bb, _) zu ?_
           refine WS_pull (mk, _) zu ?_
           refine WS_callS hF rf rf rf Tryz.call66 (fewest_cs _ _ _ mk ck lE (c.more ((k : Int) + 1)) _ 100 [] [_, _] ((c.more ((k : Int) + 1)).someP n) hg (hT.mono sbA) [(bb, CB [.slice z1 (c.more ((k : Int) + 1)).n q1, .slice z2 (c.more ((k : Int) + 1)).inn.length q2, .int .i64 (c.more ((k : Int) + 1)).st] 92), (bp, CB [.int .i64 n] 3)] ⟨Tryz.call100, fun x hx C H w' hC hs hw => some1_any (c.more ((k : Int) + 1)) z1 q1 z2 q2 x n bb bp w' hokm (Mem.own (us := [.slice z1 (c.more ((k : Int) + 1)).n q1, .slice z2 (c.more ((k : Int) + 1)).inn.length q2, .int .i64 (c.more ((k : Int) + 1)).st]) 0 rf rf w' (St.sub hw hs)) (Mem.own1 1 rf rf w' (St.sub hw hs))⟩ sbA hokm) ?_
           rintro _ _ ⟨fx, fb, rfl, hfv, rfl⟩
           have hfy : fb = true → c.hk n ((k : Int) + 1) = some fx.w := hfv.yes'
           have hfn : fb = false → c.hk n ((k : Int) + 1) = none := fun h => (hfv.no' h).2
           refine WS_nil ?_
           refine WH_take 6 dk0 rf dk0 dk0 rf (ye_move (c := .tuple _) rf) ?_
           refine WH_take 7 dk0 rf dk0 dk0 rf (ye_extract (c := .agg _) rf rf) ?_
           refine WH_take 8 dk0 rf dk0 dk0 rf (ye_extract (c := .bool _) rf rf) ?_
           refine WH_step1 10 dk0 (fun _ h => St.sub h sbA) rf ?_
           ·
            refine WS_pull (b11, _) zu ?_
            refine WS_store hF (i := 0) rf rf Tryz.sizeOf118 rf rf rf d20 ?_
            refine WS_nil ?_
            refine WH_done dk0 (fun _ h => St.sub h sbA) ?_
            exact ⟨fx, fb, _, hfy, hfn, s30, HSub.sub sbA⟩
       ·
        refine WS_new hF rf (y_alloc Tryz.zeroValue118 rf) (fun b11 => ?_)
        refine WS_nil ?_
        refine WH_step1 1 dk0 (fun _ h => St.sub h sbA) rf ?_
        ·
         refine WS_gen hF rf (y_callL rf rf Tryz.call50 (fun w hw => ways_any (c.more ((k : Int) + 1)) z1 q1 z2 q2 w hokm hnm hmm (NewRow.ints hr1 rfl sbA w hw) (NewRow.ints hr2 rfl sbA w hw))) ?_
         rintro _ _ ⟨mk, lE, ck, HX, rfl, rfl, hg, hT⟩
         refine WS_nil ?_
         refine WH_step1 4 dk0 (fun _ h => St.sub h sbA) rf ?_
         ·
          refine WS_gen hF rf (y_callL rf rf Tryz.call54 (fun w hw => some_any (c.more ((k : Int) + 1)) z1 q1 z2 q2 n w)) ?_
          rintro _ _ ⟨bb, bp, rfl, rfl⟩
          refine WS_nil ?_
          refine WH_step1 5 dk0 (fun _ h => St.sub h sbA) rf ?_
          ·
           refine WS_pull (bp, _) zu ?_
           refine WS_pull (bb, _) zu ?_
           refine WS_pull (mk, _) zu ?_
           refine WS_callS hF rf rf rf Tryz.call66 (fewest_cs _ _ _ mk ck lE (c.more ((k : Int) + 1)) _ 100 [] [_, _] ((c.more ((k : Int) + 1)).someP n) hg (hT.mono sbA) [(bb, CB [.slice z1 (c.more ((k : Int) + 1)).n q1, .slice z2 (c.more ((k : Int) + 1)).inn.length q2, .int .i64 (c.more ((k : Int) + 1)).st] 92), (bp, CB [.int .i64 n] 3)] ⟨Tryz.call100, fun x hx C H w' hC hs hw => some1_any (c.more ((k : Int) + 1)) z1 q1 z2 q2 x n bb bp w' hokm (Mem.own (us := [.slice z1 (c.more ((k : Int) + 1)).n q1, .slice z2 (c.more ((k : Int) + 1)).inn.length q2, .int .i64 (c.more ((k : Int) + 1)).st]) 0 rf rf w' (St.sub hw hs)) (Mem.own1 1 rf rf w' (St.sub hw hs))⟩ sbA hokm) ?_
           rintro _ _ ⟨fx, fb, rfl, hfv, rfl⟩
           have hfy : fb = true → c.hk n ((k : Int) + 1) = some fx.w := hfv.yes'
           have hfn : fb = false → c.hk n ((k : Int) + 1) = none := fun h => (hfv.no' h).2
           refine WS_nil ?_
           refine WH_take 6 dk0 rf dk0 dk0 rf (ye_move (c := .tuple _) rf) ?_
           refine WH_take 7 dk0 rf dk0 dk0 rf (ye_extract (c := .agg _) rf rf) ?_
           refine WH_take 8 dk0 rf dk0 dk0 rf (ye_extract (c := .bool _) rf rf) ?_
           refine WH_step1 10 dk0 (fun _ h => St.sub h sbA) rf ?_
           ·
            refine WS_pull (b11, _) zu ?_
            refine WS_store hF (i := 0) rf rf Tryz.sizeOf118 rf rf rf d20 ?_
            refine WS_nil ?_
            refine WH_done dk0 (fun _ h => St.sub h sbA) ?_
            exact ⟨fx, fb, _, hfy, hfn, s30, HSub.sub sbA⟩
    ·
     try simp only [qz1, qz2, qz3, qz4, qz5, qz6, qz7, qz8] at c10
     obtain rfl : k = 20 := by omega
     have hll := c.hpL_len n 20
     refine W_exit ?_
     refine Then_exit ?_
     refine Loop_exit ?_
     refine InB_same ?_
     refine Then_normal ?_
     refine W_seq ?_
     refine zR fun ds => ?_
     refine zm (.slice _ _ _) hF ?_
     refine zD hF (y_len rf Tryz.runUnderlying149) ?_
     refine zD hF (y_eql rf rf) ?_
     refine zN ?_
     refine W_cond rf (fun c18 => ?_) (fun c18 => ?_)
     ·
      try simp only [qz1, qz2, qz3, qz4, qz5, qz6, qz7, qz8] at c18
      refine zR fun ds => ?_
      refine za (.int .i64 _) hF ?_
      refine za (.int .i64 _) hF ?_
      refine za (.int .i64 _) hF ?_
      refine zN ?_
      refine W_ret ?_
      refine Then_ret ?_
      refine Fin_ret [.int .i64 _, .int .i64 _, .int .i64 _] [] Tryz.results36 ⟨by rfl, by rfl, by rfl, trivial⟩ HSub.nil ?_
      have h0 : c.hpL n 20 = [] := List.eq_nil_of_length_eq_zero om0
      exact HlpV.bad (by unfold Cn.hpE; rw [hokB, if_pos rfl, c4, if_pos rfl, if_neg om0, if_pos h0]) dc
     ·
      try simp only [qz1, qz2, qz3, qz4, qz5, qz6, qz7, qz8] at c18
      have h0 : c.hpL n 20 ≠ [] := fun h => by rw [h] at c18; exact c18 rfl
      refine W_skip ?_
      refine zS fun ds => ?_
      refine zm (.slice _ _ _) hF ?_
      refine zD hF (y_callL rf rf Tryz.call83 (fun w hw => firstH_any a (c.hpL n 20).length cap (c.hpL n 20) w (by have := List.length_pos_iff.2 h0; omega) om0 (NewRow.rws hp_len hrow rfl sbA w hw))) ?_
      refine WS_new hF rf (y_alloc Tryz.zeroValue152 rf) (fun b4 => ?_)
      refine WS_store hF (i := 0) rf rf Tryz.sizeOf152 rf rf rf d20 ?_
      refine zO ?_
      refine W_draw0 hF Tryzmixed [] dk0 (fun ds => ?_)
      refine P_det rf (Over_nil (y_fieldAddr rf fa152_0)) ?_
      refine P_det rf (Over_nil (y_load1 rf Tryz.isAgg3 (Mem.own1 0 rf rf))) ?_
      refine P_det rf (Over_nil (y_fieldAddr rf fa152_1)) ?_
      refine P_det rf (Over_nil (y_load1 rf Tryz.isAgg3 (Mem.own1 0 rf rf))) ?_
      refine P_det rf (Over_nil (y_assign (c := .int .i64 _) rf)) ?_
      refine P_det rf (Over_nil (y_assign (c := .int .i64 _) rf)) ?_
      refine P_det rf (Over_nil (y_assign (c := .int .i64 _) rf)) ?_
      refine PW_end rf ?_
      refine OverAll_nil ?_
      rintro -
      refine Then_normal ?_
      refine W_ret ?_
      refine Fin_ret [.int .i64 _, .int .i64 _, .int .i64 _] [] Tryz.results36 ⟨by rfl, by rfl, by rfl, trivial⟩ HSub.nil ?_
      exact HlpV.ok (by unfold Cn.hpE; rw [hokB, if_pos rfl, c4, if_pos rfl, if_neg om0, if_neg h0])
def stH (b x : Hp) : Hp := if b.s = 0 ∨ x.m < b.m then x else b
def hpF (l : List Hp) : Hp := l.foldl stH Hp.z
def Cn.IsAll (c : Cn) (L : List Co) : Prop := L.Nodup ∧ ∀ y, y ∈ L ↔ ∃ w, c.Best w y
theorem nodup_len {α : Type} [DecidableEq α] : ∀ {l m : List α}, l.Nodup → m.Nodup → (∀ x, x ∈ l ↔ x ∈ m) → l.length = m.length := by
 have key : ∀ {l m : List α}, l.Nodup → (∀ x ∈ l, x ∈ m) → l.length ≤ m.length := by
  intro l
  induction l with
  | nil => intro m _ _; exact Nat.zero_le _
  | cons x l ih =>
   intro m hl hs
   rw [List.nodup_cons] at hl
   have hxm := hs x List.mem_cons_self
   have h := ih (m := m.erase x) hl.2 fun y hy => by
    have hne : y ≠ x := fun e => hl.1 (e ▸ hy)
    exact (List.mem_erase_of_ne hne).2 (hs y (List.mem_cons_of_mem _ hy))
   rw [List.length_erase_of_mem hxm] at h
   have := List.length_pos_of_mem hxm
   simp only [List.length_cons]
   omega
 intro l m hl hm h
 exact Nat.le_antisymm (key hl fun x hx => (h x).1 hx) (key hm fun x hx => (h x).2 hx)
open Classical in
noncomputable def Cn.many (c : Cn) : Nat := if h : ∃ L, c.IsAll L then h.choose.length else 0
theorem Cn.IsAll.len {c : Cn} {L : List Co} (h : c.IsAll L) : c.many = L.length := by
 unfold Cn.many
 have hx : ∃ L, c.IsAll L := ⟨L, h⟩
 rw [dif_pos hx]
 exact nodup_len hx.choose_spec.1 h.1 fun y => by rw [hx.choose_spec.2, h.2]
theorem Tab.all {c : Cn} {HX : List Blk} {l : List (EntK Co)} {ck : Nat} (hg : GoodM l ck) (hT : Tab HX l c.bestO) : c.IsAll (l.map (·.1)) := by
 refine ⟨hg.keys, fun y => ⟨fun h => ?_, fun ⟨w, h⟩ => ?_⟩⟩
 ·obtain ⟨e, he, rfl⟩ := List.mem_map.1 h
  obtain ⟨x, _, h2, _⟩ := hT.mem hg he
  exact ⟨_, Cn.bestO_iff.1 h2⟩
 ·obtain ⟨e, he, rfl⟩ := hT.has (Cn.bestO_iff.2 h)
  exact List.mem_map.2 ⟨e, he, rfl⟩
noncomputable def Cn.maN (c : Cn) : Int := if c.okB then (c.many : Int) else 0
theorem many_any (c : Cn) (a1 : Option Addr) (p1 : Nat) (a2 : Option Addr) (p2 : Nat) (w : World) (hG : Gv w) (hn : c.n ≤ 1000000) (hm : c.inn.length ≤ 1000000) (h1 : Ints w a1 c.n p1 c.sz) (h2 : Ints w a2 c.inn.length p2 c.inn) : Ct Tryz.prog 16 #[.agg #[.slice a1 c.n p1, .slice a2 c.inn.length p2, .int .i64 c.st]] w fun v _ => v = .tuple #[.int .i64 c.maN, .int .i64 c.err] := by
 have hF := wide_wide
 refine Ct_start (args := [_]) Tryz.func16 rf Tryz.ntmps16 rf ?_
 refine zR fun ds => ?_
 refine WS_new hF rf (y_box rf) (fun b1 => ?_)
 refine za (.int .i64 _) hF ?_
 refine za (.int .i64 _) hF ?_
 refine zO ?_
 refine zR fun ds => ?_
 refine zD hF (y_loadN rf Tryz.isAgg24 Tryz.sizeOf24 (Mem.own (us := [.slice _ _ _, .slice _ _ _, .int .i64 _]) 0 rf rf) rf) ?_
 refine zD hF (y_callL rf rf Tryz.call47 (fun w hw => ccheck_any c a1 p1 a2 p2 w (hG.st w hw) hn hm (h1.st w hw) (h2.st w hw))) ?_
 refine za (.int .i64 _) hF ?_
 refine zP fun ds => ?_
 refine zm (.int .i64 _) hF ?_
 refine zD hF (y_neq rf rf) ?_
 refine zN ?_
 refine W_cond rf (fun c2 => ?_) (fun c2 => ?_)
 ·
  try simp only [qz1, qz2, qz3, qz4, qz5, qz6, qz7, qz8] at c2
  refine zR fun ds => ?_
  refine zm (.int .i64 _) hF ?_
  refine za (.int .i64 _) hF ?_
  refine za (.int .i64 _) hF ?_
  refine zN ?_
  refine W_ret ?_
  refine Then_ret ?_
  refine Fin_ret [.int .i64 _, .int .i64 _] [] Tryz.results16 ⟨by rfl, by rfl, trivial⟩ HSub.nil ?_
  obtain ⟨h3, h4⟩ := Cn.err_no c2
  rw [h4]
  unfold Cn.maN
  rw [h3]
  rfl
 ·
  try simp only [qz1, qz2, qz3, qz4, qz5, qz6, qz7, qz8] at c2
  have hokB := Cn.err_iff.1 c2
  have hok := Cn.ok_iff.1 hokB
  refine W_skip ?_
  refine zS fun ds => ?_
  refine zD hF (y_loadN rf Tryz.isAgg24 Tryz.sizeOf24 (Mem.own (us := [.slice _ _ _, .slice _ _ _, .int .i64 _]) 0 rf rf) rf) ?_
  refine zD hF (y_buildL bd92_0 rf) ?_
  refine WS_gen hF rf (y_callL rf rf Tryz.call50 (fun w hw => ways_any c a1 p1 a2 p2 w hok hn hm (h1.st w hw) (h2.st w hw))) ?_
  rintro _ _ ⟨mk, l, ck, HX, rfl, rfl, hg, hT⟩
  refine zD hF (y_lenK (enc := encC) (i := 0) rf Tryz.underlying94 rf) ?_
  refine za (.int .i64 _) hF ?_
  refine za (.int .i64 _) hF ?_
  refine zN ?_
  refine W_ret ?_
  refine Fin_ret [.int .i64 _, .int .i64 _] [] Tryz.results16 ⟨by rfl, by rfl, trivial⟩ HSub.nil ?_
  rw [c2]
  unfold Cn.maN
  rw [hokB, (Tab.all hg hT).len, List.length_map]
  rfl
def Cn.certB (c : Cn) (xs : List (Co × Wy)) : Bool :=
 xs.any (fun z => decide (z = (c.co, ⟨[], 0⟩))) &&
 (xs.all (fun z => allP.all fun p => !decide (c.pE z.1 p = 0) || xs.any fun u => decide (u.1 = c.stp z.1 p) && !(c.nx z.2 z.1 p).lt u.2) &&
 (xs.all (fun z => decide (c.runO c.co z.2.l = some z.1) && decide (z.2.back = c.bkO c.co z.2.l)) && decide ((xs.map Prod.fst).Nodup)))
def insW (ys : List (Co × Wy)) (y : Co) (v : Wy) : List (Co × Wy) :=
 if ys.any (fun z => decide (z.1 = y)) then ys.map (fun z => if z.1 = y ∧ v.lt z.2 = true then (y, v) else z) else ys ++ [(y, v)]
def Cn.lev (c : Cn) (known cur : List (Co × Wy)) : List (Co × Wy) :=
 cur.foldl (fun acc z => allP.foldl (fun acc p => if c.pE z.1 p = 0 then (if known.any (fun u => decide (u.1 = c.stp z.1 p)) then acc else insW acc (c.stp z.1 p) (c.nx z.2 z.1 p)) else acc) acc) []
def Cn.bfsN (c : Cn) : Nat → List (Co × Wy) → List (Co × Wy) → List (Co × Wy)
 | 0, k, _ => k
 | n + 1, k, cur => c.bfsN n (k ++ c.lev k cur) (c.lev k cur)
def Cn.bfs (c : Cn) (n : Nat) : List (Co × Wy) := c.bfsN n [(c.co, ⟨[], 0⟩)] [(c.co, ⟨[], 0⟩)]
theorem Cn.cert_way {c : Cn} {xs : List (Co × Wy)} (hn : c.n ≤ 3) (h : c.certB xs = true) : ∀ (m : Nat) (l : List Po), l.length = m → ∀ (b : Int) (y : Co), c.Way ⟨l, b⟩ y → ∃ u, (y, u) ∈ xs ∧ Wy.lt ⟨l, b⟩ u = false := by
 unfold Cn.certB at h
 simp only [Bool.and_eq_true, List.any_eq_true, List.all_eq_true, decide_eq_true_eq, Bool.or_eq_true, Bool.not_eq_true', decide_eq_false_iff_not] at h
 obtain ⟨⟨z0, hz0, rfl⟩, hs, _, _⟩ := h
 intro m
 induction m with
 | zero =>
  intro l hl b y hw
  obtain rfl : l = [] := List.length_eq_zero_iff.1 hl
  have h1 := hw.run
  have h2 := hw.back
  simp only [Cn.runO, Option.some.injEq] at h1
  simp only [Cn.bkO] at h2
  subst h1 h2
  exact ⟨_, hz0, Wy.lt_irrefl _⟩
 | succ m ih =>
  intro l hl b y hw
  obtain ⟨l0, p, rfl⟩ : ∃ l0 p, l = l0 ++ [p] := ⟨l.dropLast, l.getLast (by intro e; subst e; cases hl), (List.dropLast_concat_getLast _).symm⟩
  obtain ⟨x, h1, h2, rfl, rfl⟩ := hw.init
  obtain ⟨u, hu, hlt⟩ := ih l0 (by rw [List.length_append, List.length_singleton] at hl; omega) _ x h1
  rcases hs (x, u) hu p (Cn.pE_all hn h2) with h3 | ⟨z, hz, h3, h4⟩
  ·exact absurd h2 h3
  ·obtain ⟨y', u'⟩ := z
   simp only at h3 h4
   subst h3
   refine ⟨u', hz, ?_⟩
   cases hb : Wy.lt ⟨l0 ++ [p], c.bkO c.co l0 + bk x (c.stp x p)⟩ u' with
   | false => rfl
   | true =>
    cases hu2 : u.lt ⟨l0, c.bkO c.co l0⟩ with
    | false =>
     have e := Wy.tot hu2 hlt
     subst e
     unfold Cn.nx at h4
     rw [hb] at h4; cases h4
    | true =>
     have := Wy.lt_trans (Wy.lt_snoc (p := p) (d := bk x (c.stp x p)) hu2) hb
     unfold Cn.nx at h4
     rw [this] at h4; cases h4
theorem Cn.cert_best {c : Cn} {xs : List (Co × Wy)} (hn : c.n ≤ 3) (h : c.certB xs = true) {w : Wy} {y : Co} : c.Best w y ↔ (y, w) ∈ xs := by
 have hc := Cn.cert_way hn h
 unfold Cn.certB at h
 simp only [Bool.and_eq_true, List.any_eq_true, List.all_eq_true, decide_eq_true_eq, Bool.or_eq_true, Bool.not_eq_true', decide_eq_false_iff_not] at h
 obtain ⟨_, _, hw, hd⟩ := h
 have hu : ∀ u v, (y, u) ∈ xs → (y, v) ∈ xs → u = v := fun u v h1 h2 => by
  have : ∀ {xs : List (Co × Wy)}, (xs.map Prod.fst).Nodup → (y, u) ∈ xs → (y, v) ∈ xs → u = v := by
   intro xs
   induction xs with
   | nil => intro _ h; cases h
   | cons z xs ih =>
    intro hd h1 h2
    rw [List.map_cons, List.nodup_cons] at hd
    rcases List.mem_cons.1 h1 with e1 | h1 <;> rcases List.mem_cons.1 h2 with e2 | h2
    ·rw [← e1] at e2; cases e2; rfl
    ·exact absurd (List.mem_map.2 ⟨_, h2, by rw [← e1]⟩) hd.1
    ·exact absurd (List.mem_map.2 ⟨_, h1, by rw [← e2]⟩) hd.1
    ·exact ih hd.2 h1 h2
  exact this hd h1 h2
 constructor
 ·intro hb
  obtain ⟨u, hm, hlt⟩ := hc _ w.l rfl w.back y hb.way
  obtain ⟨h1, h2⟩ := hw _ hm
  have := hb.least u ⟨h1, h2⟩
  have e : w = u := Wy.tot hlt this
  rw [e]; exact hm
 ·intro hm
  obtain ⟨h1, h2⟩ := hw _ hm
  refine ⟨⟨h1, h2⟩, fun v hv => ?_⟩
  obtain ⟨u, hm2, hlt⟩ := hc _ v.l rfl v.back y hv
  rw [hu w u hm hm2]
  exact hlt
theorem Cn.cert_few {c : Cn} {xs : List (Co × Wy)} (hn : c.n ≤ 3) (h : c.certB xs = true) {p : Co → Bool} {w : Wy} (h1 : xs.any (fun z => decide (z.2 = w) && p z.1) = true) (h2 : xs.all (fun z => !p z.1 || !z.2.lt w) = true) : c.few p = some w := by
 simp only [List.any_eq_true, List.all_eq_true, Bool.and_eq_true, decide_eq_true_eq, Bool.or_eq_true, Bool.not_eq_true'] at h1 h2
 obtain ⟨⟨y, v⟩, hm, rfl, hp⟩ := h1
 refine Cn.few_some ⟨⟨y, hp, (Cn.cert_best hn h).2 hm⟩, fun k v' hk hv => ?_⟩
 rcases h2 (k, v') ((Cn.cert_best hn h).1 hv) with e | e
 ·rw [hk] at e; cases e
 ·exact e
theorem Cn.cert_none {c : Cn} {xs : List (Co × Wy)} (hn : c.n ≤ 3) (h : c.certB xs = true) {p : Co → Bool} (h1 : xs.all (fun z => !p z.1) = true) : c.few p = none := by
 simp only [List.all_eq_true, Bool.not_eq_true'] at h1
 refine Cn.few_none fun k v hk hv => ?_
 have := h1 (k, v) ((Cn.cert_best hn h).1 hv)
 rw [hk] at this; cases this
theorem Cn.cert_many {c : Cn} {xs : List (Co × Wy)} (hn : c.n ≤ 3) (h : c.certB xs = true) : c.many = xs.length := by
 have hb := fun w y => Cn.cert_best (w := w) (y := y) hn h
 unfold Cn.certB at h
 simp only [Bool.and_eq_true, decide_eq_true_eq] at h
 have ha : c.IsAll (xs.map Prod.fst) := ⟨h.2.2.2, fun y => ⟨fun hy => by
  obtain ⟨⟨y', w⟩, hz, rfl⟩ := List.mem_map.1 hy
  exact ⟨w, (hb _ _).2 hz⟩, fun ⟨w, hw⟩ => List.mem_map.2 ⟨_, (hb _ _).1 hw, rfl⟩⟩⟩
 rw [ha.len, List.length_map]
theorem Cn.cert_mk {c : Cn} {xs : List (Co × Wy)} (hn : c.n ≤ 3) (h : c.certB xs = true) {n : Int} : c.mkP n ↔ xs.any (fun z => decide (n ∈ (c.of z.1).inn)) = true := by
 simp only [List.any_eq_true, decide_eq_true_eq]
 constructor
 ·rintro ⟨w, y, hb, hm⟩; exact ⟨(y, w), (Cn.cert_best hn h).1 hb, hm⟩
 ·rintro ⟨⟨y, w⟩, hz, hm⟩; exact ⟨w, y, (Cn.cert_best hn h).2 hz, hm⟩
theorem Cn.cert_made {c : Cn} {xs : List (Co × Wy)} (hn : c.n ≤ 3) (h : c.certB xs = true) : c.madeL = ((List.range 21).map fun (k : Nat) => (k : Int)).filter fun n => xs.any (fun z => decide (n ∈ (c.of z.1).inn)) := by
 unfold Cn.madeL
 refine List.filter_congr fun n _ => ?_
 rw [Bool.eq_iff_iff]
 simp only [decide_eq_true_eq]
 exact Cn.cert_mk hn h
def bench2 (s a b : Int) : Cn := ⟨[a, b], [0, 0], s⟩
theorem cert35 : (bench2 20 3 5).certB ((bench2 20 3 5).bfs 9) = true := by decide +kernel
theorem cert46 : (bench2 20 4 6).certB ((bench2 20 4 6).bfs 9) = true := by decide +kernel
end Go.Proofs.YtjekjehgmljbgaaGreatDoor.T
