/- Sorting contents: the library's contract over this program. -/
import Derived.Test.YtjekjehgmljbgaaGreatDoorMb5
import Derived.Lib.SlicesCompact
import Derived.Shelf.RegionOpenPlain
import Derived.WalkKit
import Derived.Deep.LoopGhost
import Derived.Deep.Draws
import Derived.Deep.QuietTactic
import Derived.BigQuiet
import Derived.Lib.Walk
import Derived.Lib.Small
import Derived.Sort.Grow
import Derived.Shelf.SortG.Plain
import Derived.Shelf.SlicesG.CompactI
import Derived.Shelf.SlSortCmp.WholeK
set_option linter.unusedVariables false
set_option linter.unusedSimpArgs false
namespace Go.Proofs.YtjekjehgmljbgaaGreatDoor.T
open Go.RowKit Go.Proofs Go.Eng
set_option maxRecDepth 100000
set_option maxHeartbeats 1000000
theorem bd118  : ∀ w, (Instr.build 118 #[]).run Tryz.prog w = .ok (.agg #[.slice none 0 0, .int .i64 0]) w := fun w => by kernel_rfl
theorem bd118_0_1 {x0a : Option Addr} {x0l x0c : Nat} {x1 : Int} : ∀ w, (Instr.build 118 #[(0, .slice x0a x0l x0c), (1, .int .i64 x1)]).run Tryz.prog w = .ok (.agg #[.slice x0a x0l x0c, .int .i64 x1]) w := fun w => by kernel_rfl
theorem bs167_2_0_1 {x0_0a : Option Addr} {x0_0l x0_0c : Nat} {x0_1 : Int} {x1_0a : Option Addr} {x1_0l x1_0c : Nat} {x1_1 : Int} : ∀ w, (Instr.buildSlice 167 2 #[(0, .agg #[.slice x0_0a x0_0l x0_0c, .int .i64 x0_1]), (1, .agg #[.slice x1_0a x1_0l x1_0c, .int .i64 x1_1])]).run Tryz.prog w = .ok (.slice (some ⟨w.heap.size, 0, none⟩) 2 2) (w.alloc (CB [.slice x0_0a x0_0l x0_0c, .int .i64 x0_1, .slice x1_0a x1_0l x1_0c, .int .i64 x1_1] 118)) := fun w => by kernel_rfl
theorem bs35_1_0 {x0_0 : Int} {x0_1 : Int} : ∀ w, (Instr.buildSlice 35 1 #[(0, .agg #[.int .i64 x0_0, .int .i64 x0_1])]).run Tryz.prog w = .ok (.slice (some ⟨w.heap.size, 0, none⟩) 1 1) (w.alloc (CB [.int .i64 x0_0, .int .i64 x0_1] 47)) := fun w => by kernel_rfl
structure Cn.Stp (c : Cn) (n : Nat) (P : Co → Wy → Prop) (look : Co → Option Wy) : Prop where
 min : ∀ y, IsMin (P y) (look y)
 snd : ∀ y v, P y v → ¬ c.Kn n y ∧ ∃ x w p, c.Lv n w x ∧ c.pE x p = 0 ∧ y = c.stp x p ∧ v = c.nx w x p
theorem Cn.Stp.nil (c : Cn) (n : Nat) : c.Stp n (fun _ _ => False) (fun _ => none) := ⟨fun y v h => h, fun y v h => h.elim⟩
theorem Cn.Stp.put {c : Cn} {n : Nat} {P : Co → Wy → Prop} {look : Co → Option Wy} (h : c.Stp n P look) {x : Co} {w : Wy} {p : Po} (hw : c.Lv n w x) (hp : c.pE x p = 0) (hk : ¬ c.Kn n (c.stp x p)) :
  c.Stp n (fun y v => P y v ∨ (y = c.stp x p ∧ v = c.nx w x p)) (fun y => if y = c.stp x p then some (pickW (look (c.stp x p)) (c.nx w x p)) else look y) := by
 refine ⟨fun y => ?_, fun y v hv => ?_⟩
 ·by_cases hy : y = c.stp x p
  ·subst hy
   simp only [if_true, true_and]
   exact (h.min _).step _
  ·simp only [if_neg hy, hy, false_and, or_false]
   exact h.min y
 ·rcases hv with hv | ⟨rfl, rfl⟩
  ·exact h.snd y v hv
  ·exact ⟨hk, x, w, p, hw, hp, rfl, rfl⟩
def Cn.Dn (c : Cn) (n : Nat) (P : Co → Wy → Prop) (x : Co) (w : Wy) (k : Nat) : Prop := ∀ j, j < k → ¬ c.Kn n (c.stp x ((c.ps x).getD j Po.z)) → P (c.stp x ((c.ps x).getD j Po.z)) (c.nx w x ((c.ps x).getD j Po.z))
theorem Cn.Stp.level {c : Cn} {n : Nat} (hn : c.n ≤ 3) {P : Co → Wy → Prop} {look : Co → Option Wy} (h : c.Stp n P look) (hd : ∀ x w, c.Lv n w x → c.Dn n P x w (c.ps x).length) (y : Co) : look y = c.eqO (n + 1) y := by
 have hl := Cn.level hn h.min h.snd fun x w p hw hp hk => by
  obtain ⟨j, hj, rfl⟩ := Cn.ps_mem hp
  exact hd x w hw j hj hk
 cases he : c.eqO (n + 1) y with
 | some w => exact (hl y w).2 (Cn.eqO_iff.1 he)
 | none =>
  cases hk : look y with
  | none => rfl
  | some w => rw [Cn.eqO_iff.2 ((hl y w).1 hk)] at he; cases he
structure OpenM (c : Cn) (n : Nat) (P : Co → Wy → Prop) (HX : List Blk) (lo : List (EntK Co)) (co : Nat) (seen : Array Nat) : Prop where
 good : GoodM lo co
 ent : ∀ y ∈ lo, ∃ x : Wl, y.2.1 = x.v ∧ x.RdH HX ∧ c.Lv n x.w y.1
 un : ∀ y ∈ lo, y.2.2 ∉ seen
 dn : ∀ x w, c.Lv n w x → (∃ y ∈ lo, y.1 = x) ∨ c.Dn n P x w (c.ps x).length
theorem OpenM.start {c : Cn} {n : Nat} {P : Co → Wy → Prop} {HX : List Blk} {lo : List (EntK Co)} {co : Nat} (hg : GoodM lo co) (ht : Tab HX lo (c.eqO n)) : OpenM c n P HX lo co #[] := by
 refine ⟨hg, fun y hy => ?_, fun y hy => by simp, fun x w hw => .inl (ht.has (Cn.eqO_iff.2 hw))⟩
 obtain ⟨x, h1, h2, h3⟩ := ht.mem hg hy
 exact ⟨x, h1, h3, Cn.eqO_iff.1 h2⟩
theorem OpenM.step {c : Cn} {n : Nat} {P P' : Co → Wy → Prop} {HX HX' : List Blk} {lo : List (EntK Co)} {co : Nat} {seen : Array Nat} (h : OpenM c n P HX lo co seen) (hP : ∀ y v, P y v → P' y v) (hs : HX.Sublist HX') {k : Co} {x : Wl} {bn : Nat} (hy : (k, x.v, bn) ∈ lo)
  (hd : ∀ w, c.Lv n w k → c.Dn n P' k w (c.ps k).length) : OpenM c n P' HX' (delK k lo) co (seen.push bn) := by
 refine ⟨h.good.del k, fun y hm => ?_, fun y hm => ?_, fun z w hw => ?_⟩
 ·obtain ⟨h1, _⟩ := (mem_delK h.good.keys).1 hm
  obtain ⟨x, e1, e2, e3⟩ := h.ent y h1
  exact ⟨x, e1, e2.mono hs, e3⟩
 ·obtain ⟨h1, h2⟩ := (mem_delK h.good.keys).1 hm
  rw [Array.mem_push]
  rintro (h3 | h3)
  ·exact h.un y h1 h3
  ·have : ∀ {l : List (EntK Co)}, (l.map (·.2.2)).Nodup → y ∈ l → (k, x.v, bn) ∈ l → y = (k, x.v, bn) := by
    intro l
    induction l with
    | nil => intro _ h; cases h
    | cons z l ih =>
     intro hn a1 a2
     rw [List.map_cons, List.nodup_cons] at hn
     rcases List.mem_cons.1 a1 with e1 | e1
     ·rcases List.mem_cons.1 a2 with e2 | e2
      ·rw [e1, e2]
      ·exact absurd (List.mem_map.2 ⟨_, e2, by rw [← e1]; exact h3.symm⟩) hn.1
     ·rcases List.mem_cons.1 a2 with e2 | e2
      ·exact absurd (List.mem_map.2 ⟨_, e1, by rw [← e2]; exact h3⟩) hn.1
      ·exact ih hn.2 e1 e2
   have he := this h.good.born h1 hy
   exact h2 (by rw [he])
 ·rcases h.dn z w hw with ⟨y, h1, rfl⟩ | h1
  ·by_cases hk : y.1 = k
   ·right
    rw [hk] at hw ⊢
    exact hd w hw
   ·exact .inl ⟨y, (mem_delK h.good.keys).2 ⟨h1, hk⟩, rfl⟩
  ·exact .inr fun j hj hn => hP _ _ (h1 j hj hn)
theorem OpenM.all {c : Cn} {n : Nat} {P : Co → Wy → Prop} {HX : List Blk} {lo : List (EntK Co)} {co : Nat} {seen : Array Nat} (h : OpenM c n P HX lo co seen) (hov : ∀ x ∈ lo, x.2.2 ∈ seen) (x : Co) (w : Wy) (hw : c.Lv n w x) : c.Dn n P x w (c.ps x).length := by
 rcases h.dn x w hw with ⟨y, h1, _⟩ | h1
 ·exact absurd (hov y h1) (h.un y h1)
 ·exact h1
theorem HSub.swap3 {A F X R T : List Blk} (h : (F ++ (X ++ (R ++ T))).Sublist A) : HSub A (F ++ (X ++ (T ++ R))) := fun N w hA => (HSub.sub h N w hA).perm ((List.perm_append_comm.append_left X).append_left F)
theorem Cn.nx_len (c : Cn) (w : Wy) (x : Co) (p : Po) : (c.nx w x p).l.length = w.l.length + 1 := by unfold Cn.nx; simp
theorem Cn.nx_row (c : Cn) (w : Wy) (x : Co) (p : Po) : rowOf Po.cells (fun k => (c.nx w x p).l.getD k Po.z) (c.nx w x p).l.length = rowOf Po.cells (fun k => w.l.getD k Po.z) w.l.length ++ p.cells := by
 rw [c.nx_len, rowOf_succ]
 unfold Cn.nx
 congr 1
 ·exact rowOf_congr _ fun k hk => by simp [List.getD_eq_getElem?_getD, List.getElem?_append_left hk]
 ·simp [List.getD_eq_getElem?_getD]
theorem Wls.two {C : Ctx} {H : List Blk} {b T : Nat} {x y : Wl} (i : Nat) (hi : H[i]? = some (b, CB [.slice x.a x.w.l.length x.k, .int .i64 x.w.back, .slice y.a y.w.l.length y.k, .int .i64 y.w.back] T)) (w : World) (hw : St C H w) : Wls w (some ⟨b, 0, none⟩) 2 2 [x, y] := by
 refine ⟨rfl, Nat.le_refl _, fun k hk => ⟨b, 0, rfl, ?_⟩⟩
 have hb := hw.get hi
 obtain rfl | rfl : k = 0 ∨ k = 1 := by omega
 ·exact at_block (rest := [.slice y.a y.w.l.length y.k, .int .i64 y.w.back]) hb rfl
 ·exact at_block (rest := []) hb rfl
theorem pick_min {r : Option Wy} {o n x : Wl} (hr : r = some o.w) (hx : x ∈ [o, n]) (h : ∀ y ∈ [o, n], y.w.lt x.w = false) : x.w = pickW r n.w := by
 subst hr
 unfold pickW
 simp only
 have h1 := h o (by simp)
 have h2 := h n (by simp)
 simp only [List.mem_cons, List.not_mem_nil, or_false] at hx
 by_cases hl : n.w.lt o.w = true
 ·rw [if_pos hl]
  rcases hx with rfl | rfl
  ·rw [hl] at h2; cases h2
  ·rfl
 ·rw [if_neg hl]
  rcases hx with rfl | rfl
  ·rfl
  ·exact Wy.tot (by simpa using hl) h1
theorem delK_lt {k : Co} {lo : List (EntK Co)} {v : Value} {bn : Nat} (hy : (k, v, bn) ∈ lo) : (delK k lo).length < lo.length := by
 unfold delK
 rw [List.length_eraseP_of_mem hy (by simp)]
 have := List.length_pos_of_mem hy
 omega
theorem ways_any (c : Cn) (a1 : Option Addr) (p1 : Nat) (a2 : Option Addr) (p2 : Nat) (w : World) (hok : c.Ok) (hn : c.n ≤ 1000000) (hm : c.inn.length ≤ 1000000) (h1 : Ints w a1 c.n p1 c.sz) (h2 : Ints w a2 c.inn.length p2 c.inn) : Ct Tryz.prog 50 #[.agg #[.slice a1 c.n p1, .slice a2 c.inn.length p2, .int .i64 c.st]] w fun v Hn => ∃ mk l ck HX, v = .map (some mk) ∧ Hn = (mk, MK encC l ck) :: HX ∧ GoodM l ck ∧ Tab HX l c.bestO := by
 have hn3 := hok.n3
 have hF := wide_wide
 refine Ct_start (args := [_]) Tryz.func50 rf Tryz.ntmps50 rf ?_
 refine zR fun ds => ?_
 refine WS_new hF rf (y_box rf) (fun b1 => ?_)
 refine za (.map _) hF ?_
 refine zP fun ds => ?_
 refine WS_gen hF rf (y_makeMapK encC) ?_
 rintro _ _ ⟨mk, rfl, rfl⟩
 refine WS_new hF rf (y_alloc Tryz.zeroValue94 rf) (fun bk => ?_)
 refine WS_store hF (i := 0) rf rf Tryz.sizeOf94 rf rf rf d20 ?_
 refine zP fun ds => ?_
 refine WS_gen hF rf (y_makeMapK encC) ?_
 rintro _ _ ⟨mo, rfl, rfl⟩
 refine zD hF (y_loadN rf Tryz.isAgg92 Tryz.sizeOf92 (Mem.own (us := [.slice _ _ _, .slice _ _ _, .int .i64 _]) 3 rf rf) rf) ?_
 refine zD hF (y_callL rf rf Tryz.call58 (fun w hw => bstart_any c a1 p1 a2 p2 w hok hn hm (h1.st w hw) (h2.st w hw))) ?_
 refine zD hF (y_buildL bd118 rf) ?_
 refine WS_insertK hF (enc := encC) (k := c.co) (u := Wl.z.v) (i := 0) keyC rf rf rf Tryz.underlying94 rf ?_
 refine zm (.map _) hF ?_
 have hT0 : Tab [] (putL c.co Wl.z.v [] 0) (c.eqO 0) := fun y => by
  have h := (Tab.nil (look := fun _ => none) [] fun _ => rfl).put c.co Wl.z 0 (Wl.RdH.z _) y
  by_cases hy : y = c.co
  ·simp only [if_pos hy] at h
   rw [show c.eqO 0 y = some Wl.z.w from Cn.eqO_iff.2 (Cn.lv_zero.2 ⟨rfl, hy⟩)]; exact h
  ·simp only [if_neg hy] at h
   have : c.eqO 0 y = none := by
    cases he : c.eqO 0 y with
    | none => rfl
    | some w => exact absurd (Cn.lv_zero.1 (Cn.eqO_iff.1 he)).2 hy
   rw [this]; exact h
 refine WS_pull (mo, _) zu ?_
 refine WS_pull (mk, _) zu ?_
 refine za (.map _) hF ?_
 refine zO ?_
 refine W_block ?_
 refine W_loop (γ := Nat × Nat × List (EntK Co) × Nat × List (EntK Co) × Nat × List Blk) (fun q => q.1 ≤ 9261 ∧ GoodM q.2.2.1 q.2.2.2.1 ∧ GoodM q.2.2.2.2.1 q.2.2.2.2.2.1 ∧ Tab q.2.2.2.2.2.2 q.2.2.1 (c.ltO q.1) ∧ Tab q.2.2.2.2.2.2 q.2.2.2.2.1 (c.eqO q.1)) (fun q => [(1, .pointer (some ⟨b1, 0, none⟩)), (3, .pointer (some ⟨bk, 0, none⟩)), (4, .map (some q.2.1))]) (fun q => (mk, MK encC q.2.2.1 q.2.2.2.1) :: (q.2.1, MK encC q.2.2.2.2.1 q.2.2.2.2.2.1) :: (bk, CB [.map (some mk)] 94) :: (b1, CB [.slice a1 c.n p1, .slice a2 c.inn.length p2, .int .i64 c.st] 92) :: q.2.2.2.2.2.2) (fun q => 9262 - q.1) ((0, mo, [], 0, putL c.co Wl.z.v [] 0, putC c.co [] 0, [])) ⟨Nat.zero_le _, GoodM.nil, GoodM.nil.put _ _, Tab.nil _ c.ltO_zero, hT0⟩ s10 (sbA) ?_
 rintro ⟨n, mo, lk, ck, lo, co, HX⟩ e ⟨hn9, hgk, hgo, hTk, hTo⟩
 refine W_seq ?_
 refine zR fun ds => ?_
 refine zm (.map _) hF ?_
 refine zD hF (y_lenK (enc := encC) (i := 1) rf Tryz.underlying94 rf) ?_
 refine zD hF (y_gtr rf rf) ?_
 refine zN ?_
 refine W_cond rf (fun c3 => ?_) (fun c3 => ?_)
 ·
  try simp only [qz1, qz2, qz3, qz4, qz5, qz6, qz7, qz8] at c3
  have hn8 : n ≤ 9260 := by
   cases lo with
   | nil => simp at c3
   | cons y lo =>
    obtain ⟨x, _, h2, _⟩ := hTo.mem hgo List.mem_cons_self
    have h3 := Cn.eqO_iff.1 h2
    have := h3.1.len hok
    have := h3.2
    omega
  have hvo : ∀ y ∈ lo, ∃ x : Wl, y.2.1 = x.v := fun y hy => by obtain ⟨x, h, _⟩ := hTo.mem hgo hy; exact ⟨x, h⟩
  refine zU ?_
  refine W_block ?_
  refine zR fun ds => ?_
  refine zD hF (y_load1 rf Tryz.isAgg94 (Mem.own1 2 rf rf)) ?_
  refine zm (.map _) hF ?_
  refine WS_callS hF rf rf rf Tryz.call92 (copy_cs _ _ _ mk mo lk lo ck co _ hgk hgo hvo) ?_
  rintro _ _ ⟨rfl, lk2, ck2, hgk2, hlk2, rfl⟩
  have hTk2 : Tab HX lk2 (c.ltO (n + 1)) := fun k => by rw [hlk2, c.ltO_succ]; exact (hTo k).or (hTk k)
  refine zP fun ds => ?_
  refine WS_gen hF rf (y_makeMapK encC) ?_
  rintro _ _ ⟨mm, rfl, rfl⟩
  refine WS_new hF rf (y_alloc Tryz.zeroValue94 rf) (fun b5 => ?_)
  refine WS_store hF (i := 0) rf rf Tryz.sizeOf94 rf rf rf d20 ?_
  refine zO ?_
  refine zR fun ds => ?_
  refine WS_pull (mk, _) zu ?_
  refine WS_pull (b5, _) zu ?_
  refine zm (.map _) hF ?_
  refine WS_new hF rf (y_rangeK (enc := encC) (i := 3) rf Tryz.underlying94 rf) (fun it => ?_)
  refine zN ?_
  refine W_block ?_
  refine W_loop (γ := List (EntK Co) × Array Nat × Nat × List (EntK Co) × Nat × (Co → Wy → Prop) × (Co → Option Wy) × List Blk) (fun q => OpenM c n q.2.2.2.2.2.1 q.2.2.2.2.2.2.2 q.1 co q.2.1 ∧ co ≤ q.2.2.1 ∧ GoodM q.2.2.2.1 q.2.2.2.2.1 ∧ Tab q.2.2.2.2.2.2.2 lk2 (c.ltO (n + 1)) ∧ Tab q.2.2.2.2.2.2.2 q.2.2.2.1 q.2.2.2.2.2.2.1 ∧ c.Stp n q.2.2.2.2.2.1 q.2.2.2.2.2.2.1) (fun q => [(1, .pointer (some ⟨b1, 0, none⟩)), (3, .pointer (some ⟨bk, 0, none⟩)), (4, .map (some mo)), (5, .pointer (some ⟨b5, 0, none⟩)), (29, .pointer (some ⟨it, 0, none⟩))]) (fun q => (it, .mapIter (some mo) co q.2.1 q.2.2.1) :: (b5, CB [.map (some mm)] 94) :: (mk, MK encC lk2 ck2) :: (mm, MK encC q.2.2.2.1 q.2.2.2.2.1) :: (mo, MK encC q.1 co) :: (bk, CB [.map (some mk)] 94) :: (b1, CB [.slice a1 c.n p1, .slice a2 c.inn.length p2, .int .i64 c.st] 92) :: q.2.2.2.2.2.2.2) (fun q => q.1.length) ((lo, #[], co, [], 0, (fun _ _ => False), (fun _ => none), HX)) ⟨OpenM.start hgo hTo, Nat.le_refl _, GoodM.nil, hTk2, Tab.nil _ fun _ => rfl, Cn.Stp.nil c n⟩ s10 (sbA) ?_
  rintro ⟨lo1, seen, c0, lm, cm, P, lookM, HX1⟩ e ⟨hO, hc0, hgm, hTk3, hTm, hSt⟩
  refine zR fun ds => ?_
  refine WS_nextK hF (enc := encC) (i := 0) (j := 4) rf rf rf rf hO.good.old hc0 (fun hov => ?_) (fun y hy hns => ?_)
  ·
   have hTm : Tab HX1 lm (c.eqO (n + 1)) := fun y => by rw [← hSt.level hn3 (hO.all hov) y]; exact hTm y
   refine zD hF (y_extract (c := .bool _) rf rf) ?_
   refine zO ?_
   refine W_cond rf (fun c7 => ?_) (fun c7 => ?_)
   ·cases c7
   ·
    try simp only [qz1, qz2, qz3, qz4, qz5, qz6, qz7, qz8] at c7
    refine W_exit ?_
    refine Then_exit ?_
    refine Loop_exit ?_
    refine InB_same ?_
    refine zT fun ds => ?_
    refine zD hF (y_load1 rf Tryz.isAgg94 (Mem.own1 1 rf rf)) ?_
    refine za (.map _) hF ?_
    refine WS_nil ?_
    refine InB_normal ?_
    exact Loop_next (n + 1, mm, lk2, ck2, lm, cm, HX1) ⟨by simp only; omega, hgk2, hgm, hTk3, hTm⟩ s10 sbA (by simp only; omega)
  ·
   obtain ⟨xk, v, bn⟩ := y
   obtain ⟨x, hvx, hxr, hxl⟩ := hO.ent _ hy
   change v = x.v at hvx
   subst hvx
   change c.Lv n x.w xk at hxl
   have hkin := (hxl.1.way.in hok).1
   refine zD hF (y_extract (c := .bool _) rf rf) ?_
   refine zO ?_
   refine W_cond rf (fun c7 => ?_) (fun c7 => ?_)
   ·
    try simp only [qz1, qz2, qz3, qz4, qz5, qz6, qz7, qz8] at c7
    refine zU ?_
    refine W_block ?_
    refine zR fun ds => ?_
    refine zD hF (y_entryK (enc := encC) (y := (xk, x.v, bn)) (i := 0) (j := 4) rf rf rf hy hO.good.born) ?_
    refine zD hF (y_extract (c := .agg _) rf rf) ?_
    refine zD hF (y_extract (c := .agg _) rf rf) ?_
    refine WS_new hF rf (y_alloc Tryz.zeroValue106 rf) (fun bX => ?_)
    refine WS_new hF rf (y_alloc Tryz.zeroValue118 rf) (fun bW => ?_)
    refine WS_store hF (i := 1) rf rf Tryz.sizeOf106 rf rf rf d20 ?_
    refine WS_store hF (i := 0) rf rf Tryz.sizeOf118 rf rf rf d20 ?_
    refine zO ?_
    refine zR fun ds => ?_
    refine zD hF (y_loadN rf Tryz.isAgg92 Tryz.sizeOf92 (Mem.own (us := [.slice _ _ _, .slice _ _ _, .int .i64 _]) 8 rf rf) rf) ?_
    refine zD hF (y_loadN rf Tryz.isAgg106 Tryz.sizeOf106 (Mem.own (us := [.int .i64 _, .int .i64 _, .int .i64 _, .int .i64 _]) 1 rf rf) rf) ?_
    refine WS_gen hF rf (y_callL rf rf Tryz.call93 (fun w hw => pourings_any c a1 p1 a2 p2 xk w)) ?_
    rintro _ _ ⟨bb2, bx2, rfl, rfl⟩
    refine zN ?_
    refine W_block ?_
    refine W_range hF rf (encs := (fun k => [.agg ((c.ps xk).getD k Po.z).cells.toArray, .agg (c.stp xk ((c.ps xk).getD k Po.z)).cells.toArray])) (N := (c.ps xk).length) (H0 := [(bx2, CB xk.cells 106), (bb2, CB [.slice a1 c.n p1, .slice a2 c.inn.length p2, .int .i64 c.st] 92)]) (G0 := (bW, _) :: (bX, _) :: (it, _) :: (b5, _) :: (mk, _) :: (mm, _) :: (mo, _) :: (bk, _) :: (b1, _) :: HX1) (fun i G => ∃ (lm2 : List (EntK Co)) (cm2 : Nat) (P2 : Co → Wy → Prop) (look2 : Co → Option Wy) (HX2 : List Blk), G = (bW, CB x.cells 118) :: (bX, CB xk.cells 106) :: (it, .mapIter (some mo) co (seen.push bn) co) :: (b5, CB [.map (some mm)] 94) :: (mk, MK encC lk2 ck2) :: (mm, MK encC lm2 cm2) :: (mo, MK encC lo1 co) :: (bk, CB [.map (some mk)] 94) :: (b1, CB [.slice a1 c.n p1, .slice a2 c.inn.length p2, .int .i64 c.st] 92) :: HX2 ∧ HX1.Sublist HX2 ∧ GoodM lm2 cm2 ∧ Tab HX2 lm2 look2 ∧ c.Stp n P2 look2 ∧ (∀ y v, P y v → P2 y v) ∧ c.Dn n P2 xk x.w i) (fun _ _ _ => False) rf Tryz.call120 rf (fun _ => rfl) (fun ds => pourings_it _ _ _ bb2 bx2 c a1 p1 a2 p2 xk hok hkin hn hm h1 h2) (⟨lm, cm, P, lookM, HX1, rfl, List.Sublist.refl _, hgm, hTm, hSt, fun _ _ h => h, fun j hj => absurd hj (Nat.not_lt_zero _)⟩) (HSub.refl) ?_ ?_ ?_
    ·rintro k hk G hj out lpr R R'
     have hF := wide_inRound wide_wide lpr
     obtain ⟨lm2, cm2, P2, look2, HX2, rfl, hsub, hgm2, hTm2, hSt2, hPP, hdn⟩ := hj
     have hps := Cn.ps_ok hk
     obtain ⟨kx, hkl, hkr, hkw⟩ := (hTk3.mono hsub).look (c.stp xk ((c.ps xk).getD k Po.z))
     have hin2 := hkin.stp hn3 hps
     have q1 : 0 ≤ xk.a := hkin.lo 0 dc
     have q2 : xk.a ≤ 600 := hkin.hi 0 (Nat.zero_le _)
     have q3 : 0 ≤ (c.stp xk ((c.ps xk).getD k Po.z)).a := hin2.lo 0 dc
     have q4 : (c.stp xk ((c.ps xk).getD k Po.z)).a ≤ 600 := hin2.hi 0 (Nat.zero_le _)
     have q5 := Cn.Best.back hok hxl.1.way
     have q6 := hxl.2
     refine zR fun ds => ?_
     refine WS_new hF rf (y_alloc Tryz.zeroValue47 rf) (fun bP => ?_)
     refine WS_store hF (i := 0) rf rf Tryz.sizeOf47 rf rf rf d20 ?_
     refine zQ fun ds => ?_
     refine WS_new hF rf (y_alloc Tryz.zeroValue106 rf) (fun bY => ?_)
     refine WS_store hF (i := 0) rf rf Tryz.sizeOf106 rf rf rf d20 ?_
     refine zN ?_
     refine ⟨(_ :: _ :: _ :: _ :: _ :: _ :: _ :: _ :: _ :: _ :: _ :: HX2), rfl, ?_⟩
     refine W_block ?_
     refine W_seq ?_
     refine zR fun ds => ?_
     refine zD hF (y_load1 rf Tryz.isAgg94 (Mem.own1 9 rf rf)) ?_
     refine zD hF (y_loadN rf Tryz.isAgg106 Tryz.sizeOf106 (Mem.own (us := [.int .i64 _, .int .i64 _, .int .i64 _, .int .i64 _]) 0 rf rf) rf) ?_
     refine zD hF (y_lookupK (enc := encC) (k := c.stp xk ((c.ps xk).getD k Po.z)) (i := 6) keyC rf rf Tryz.underlying94 Tryz.zeroValue118 rf hkl) ?_
     refine zm (.tuple _) hF ?_
     refine zD hF (y_extract (c := .agg _) rf rf) ?_
     refine zD hF (y_extract (c := .bool _) rf rf) ?_
     refine WS_new hF rf (y_alloc Tryz.zeroValue118 rf) (fun bK => ?_)
     refine WS_store hF (i := 0) rf rf Tryz.sizeOf118 rf rf rf d20 ?_
     refine za (.bool _) hF ?_
     refine zP fun ds => ?_
     refine zm (.bool _) hF ?_
     refine zN ?_
     refine W_cond rf (fun c13 => ?_) (fun c13 => ?_)
     ·
      try simp only [qz1, qz2, qz3, qz4, qz5, qz6, qz7, qz8] at c13
      have hkn : c.Kn n (c.stp xk ((c.ps xk).getD k Po.z)) := Cn.ltO_kn.1 c13
      have hdn2 : c.Dn n P2 xk x.w (k + 1) := fun j hj hno => by
       by_cases hjk : j = k
       ·subst hjk; exact absurd hkn hno
       ·exact hdn j om0 hno
      refine W_exit ?_
      refine Then_exit ?_
      refine InB_same ?_
      refine ⟨_, HSub.sub sbA, lm2, cm2, P2, look2, HX2, rfl, hsub, hgm2, hTm2, hSt2, hPP, hdn2⟩
     ·
      try simp only [qz1, qz2, qz3, qz4, qz5, qz6, qz7, qz8] at c13
      have hkn : ¬ c.Kn n (c.stp xk ((c.ps xk).getD k Po.z)) := fun h => by rw [Cn.ltO_kn.2 h] at c13; cases c13
      refine zU ?_
      refine W_seq ?_
      refine W_tailH 17 Tryzmixed (fun e2 H2 => ∃ na ncap b12 Hr, NewRow 47 2 (c.nx x.w xk ((c.ps xk).getD k Po.z)).l.length (rowOf Po.cells (fun z => (c.nx x.w xk ((c.ps xk).getD k Po.z)).l.getD z Po.z) (c.nx x.w xk ((c.ps xk).getD k Po.z)).l.length) (.slice na (c.nx x.w xk ((c.ps xk).getD k Po.z)).l.length ncap) Hr ∧ Slots e2 [(5, .pointer (some ⟨b5, 0, none⟩)), (9, .pointer (some ⟨bY, 0, none⟩)), (12, .pointer (some ⟨b12, 0, none⟩)), (62, .agg #[.slice na (x.w.l.length + 1) ncap, .int .i64 (c.nx x.w xk ((c.ps xk).getD k Po.z)).back])] ∧ HSub H2 ((b12, CB [.slice none 0 0, .int .i64 0] 118) :: (bY, CB (c.stp xk ((c.ps xk).getD k Po.z)).cells 106) :: (bW, CB x.cells 118) :: (bX, CB xk.cells 106) :: (it, .mapIter (some mo) co (seen.push bn) co) :: (b5, CB [.map (some mm)] 94) :: (mk, MK encC lk2 ck2) :: (mm, MK encC lm2 cm2) :: (mo, MK encC lo1 co) :: (bk, CB [.map (some mk)] 94) :: (b1, CB [.slice a1 c.n p1, .slice a2 c.inn.length p2, .int .i64 c.st] 92) :: (HX2 ++ (Hr ++ R')))) dk0 (fun ds e2 H2 hmid => ?_) (fun ds => ?_)
      ·
       obtain ⟨na, ncap, b12, Hr, hrow, hsl, hsb⟩ := hmid
       obtain ⟨ox, hol, hor, how⟩ := hTm2.look (c.stp xk ((c.ps xk).getD k Po.z))
       have hnr : Wl.RdH (HX2 ++ Hr) ⟨(c.nx x.w xk ((c.ps xk).getD k Po.z)), na, ncap⟩ := Wl.RdH.new hrow (List.sublist_append_right _ _) (by rw [c.nx_len]; omega)
       rw [← c.nx_len x.w xk ((c.ps xk).getD k Po.z)] at hsl
       rw [← hsl.sets]
       refine WS_sub hsb ?_
       refine WS_store hF (i := 0) rf rf Tryz.sizeOf118 rf rf rf d20 ?_
       refine zO ?_
       refine zR fun ds => ?_
       refine zD hF (y_load1 rf Tryz.isAgg94 (Mem.own1 5 rf rf)) ?_
       refine zD hF (y_loadN rf Tryz.isAgg106 Tryz.sizeOf106 (Mem.own (us := [.int .i64 _, .int .i64 _, .int .i64 _, .int .i64 _]) 1 rf rf) rf) ?_
       refine zD hF (y_lookupK (enc := encC) (k := c.stp xk ((c.ps xk).getD k Po.z)) (i := 7) keyC rf rf Tryz.underlying94 Tryz.zeroValue118 rf hol) ?_
       refine zm (.tuple _) hF ?_
       refine zD hF (y_extract (c := .agg _) rf rf) ?_
       refine zD hF (y_extract (c := .bool _) rf rf) ?_
       refine WS_new hF rf (y_alloc Tryz.zeroValue118 rf) (fun bO => ?_)
       refine WS_store hF (i := 0) rf rf Tryz.sizeOf118 rf rf rf d20 ?_
       refine za (.bool _) hF ?_
       refine zP fun ds => ?_
       refine zm (.bool _) hF ?_
       refine zN ?_
       refine W_cond rf (fun c16 => ?_) (fun c16 => ?_)
       ·
        try simp only [qz1, qz2, qz3, qz4, qz5, qz6, qz7, qz8] at c16
        refine W_region_lit (fun ds => ?_)
        refine zD hF (y_loadN rf Tryz.isAgg118 Tryz.sizeOf118 (Mem.own (us := [.slice _ _ _, .int .i64 _]) 0 rf rf) rf) ?_
        refine zD hF (y_loadN rf Tryz.isAgg118 Tryz.sizeOf118 (Mem.own (us := [.slice _ _ _, .int .i64 _]) 1 rf rf) rf) ?_
        refine WS_newS hF rf (y_buildSliceL bs167_2_0_1 rf) (fun b2 => ?_)
        refine WS_gen hF rf (y_callL rf rf Tryz.call95 (fun w hw => firstW_any _ 2 2 [ox, ⟨(c.nx x.w xk ((c.ps xk).getD k Po.z)), na, ncap⟩] w dc dc (Wls.two 0 rf w hw) (fun y hy => by simp only [List.mem_cons, List.not_mem_nil, or_false] at hy; rcases hy with rfl | rfl <;> first | exact hor _ _ w sbA hw | exact hnr _ _ w sbA hw))) ?_
        rintro _ HL ⟨fx, hfm, rfl, hfmin⟩
        refine WS_back ?_
        refine WS_store hF (i := 2) rf rf Tryz.sizeOf118 rf rf rf d20 ?_
        refine zQ fun ds => ?_
        refine zD hF (y_load1 rf Tryz.isAgg94 (Mem.own1 7 rf rf)) ?_
        refine zD hF (y_loadN rf Tryz.isAgg106 Tryz.sizeOf106 (Mem.own (us := [.int .i64 _, .int .i64 _, .int .i64 _, .int .i64 _]) 3 rf rf) rf) ?_
        refine zD hF (y_loadN rf Tryz.isAgg118 Tryz.sizeOf118 (Mem.own (us := [.slice _ _ _, .int .i64 _]) 2 rf rf) rf) ?_
        refine WS_mapUpdK hF (enc := encC) (k := c.stp xk ((c.ps xk).getD k Po.z)) (u := fx.v) (i := 9) keyC rf rf rf Tryz.underlying94 rf ?_
        have hfw : fx.w = pickW (look2 (c.stp xk ((c.ps xk).getD k Po.z))) (c.nx x.w xk ((c.ps xk).getD k Po.z)) := pick_min (by cases hlo : look2 (c.stp xk ((c.ps xk).getD k Po.z)) with | none => rw [hlo] at c16; cases c16 | some u => rw [how u hlo]) hfm hfmin
        have hfr : fx.RdH (HX2 ++ Hr) := by
         simp only [List.mem_cons, List.not_mem_nil, or_false] at hfm
         rcases hfm with rfl | rfl
         ·exact hor.mono (List.sublist_append_left _ _)
         ·exact hnr
        have hTm3 := (hTm2.mono (List.sublist_append_left HX2 Hr)).put (c.stp xk ((c.ps xk).getD k Po.z)) fx cm2 hfr
        rw [hfw] at hTm3
        refine WS_nil ?_
        refine InB_normal ?_
        refine ⟨_, ?_, _, _, _, _, HX2 ++ Hr, rfl, hsub.trans (List.sublist_append_left _ _), hgm2.put _ _, hTm3, hSt2.put hxl hps hkn, fun y v h => .inl (hPP y v h), fun j hj hno => ?_⟩
        ·exact HSub.sub sbA
        by_cases hjk : j = k
        ·subst hjk; exact .inr ⟨rfl, rfl⟩
        ·exact .inl (hdn j om0 hno)
       ·
        try simp only [qz1, qz2, qz3, qz4, qz5, qz6, qz7, qz8] at c16
        refine W_skip ?_
        refine zT fun ds => ?_
        refine zD hF (y_load1 rf Tryz.isAgg94 (Mem.own1 6 rf rf)) ?_
        refine zD hF (y_loadN rf Tryz.isAgg106 Tryz.sizeOf106 (Mem.own (us := [.int .i64 _, .int .i64 _, .int .i64 _, .int .i64 _]) 2 rf rf) rf) ?_
        refine zD hF (y_loadN rf Tryz.isAgg118 Tryz.sizeOf118 (Mem.own (us := [.slice _ _ _, .int .i64 _]) 1 rf rf) rf) ?_
        refine WS_mapUpdK hF (enc := encC) (k := c.stp xk ((c.ps xk).getD k Po.z)) (u := Wl.v ⟨(c.nx x.w xk ((c.ps xk).getD k Po.z)), na, ncap⟩) (i := 8) keyC rf rf rf Tryz.underlying94 rf ?_
        have hlo : look2 (c.stp xk ((c.ps xk).getD k Po.z)) = none := by cases hlo : look2 (c.stp xk ((c.ps xk).getD k Po.z)) with | none => rfl | some u => rw [hlo] at c16; cases c16
        have hTm3 := (hTm2.mono (List.sublist_append_left HX2 Hr)).put (c.stp xk ((c.ps xk).getD k Po.z)) ⟨(c.nx x.w xk ((c.ps xk).getD k Po.z)), na, ncap⟩ cm2 hnr
        rw [show (⟨(c.nx x.w xk ((c.ps xk).getD k Po.z)), na, ncap⟩ : Wl).w = pickW (look2 (c.stp xk ((c.ps xk).getD k Po.z))) (c.nx x.w xk ((c.ps xk).getD k Po.z)) by rw [hlo]; rfl] at hTm3
        refine WS_nil ?_
        refine InB_normal ?_
        refine ⟨_, ?_, _, _, _, _, HX2 ++ Hr, rfl, hsub.trans (List.sublist_append_left _ _), hgm2.put _ _, hTm3, hSt2.put hxl hps hkn, fun y v h => .inl (hPP y v h), fun j hj hno => ?_⟩
        ·exact HSub.sub sbA
        by_cases hjk : j = k
        ·subst hjk; exact .inr ⟨rfl, rfl⟩
        ·exact .inl (hdn j om0 hno)
      ·
       refine WH_take 0 dk0 rf dk0 dk0 rf (ye_fieldAddr rf fa118_0) ?_
       refine WH_take 1 dk0 rf dk0 dk0 rf (ye_load1 rf Tryz.isAgg35 (Mem.own1 3 rf rf)) ?_
       refine WH_take 3 dk0 rf dk0 dk0 rf (ye_loadN rf Tryz.isAgg47 Tryz.sizeOf47 (Mem.own (us := [.int .i64 _, .int .i64 _]) 2 rf rf) rf) ?_
       refine WH_take 6 dk0 rf dk0 dk0 rf (ye_fieldAddr rf fa118_1) ?_
       refine WH_take 7 dk0 rf dk0 dk0 rf (ye_load1 rf Tryz.isAgg3 (Mem.own1 3 rf rf)) ?_
       refine WH_take 8 dk0 rf dk0 dk0 rf (ye_indexA (k := 0) rf rf r10 d10 Tryz.runUnderlying106 Tryz.sizeOf3) ?_
       refine WH_take 9 dk0 rf dk0 dk0 rf (ye_load1 rf Tryz.isAgg3 (Mem.own1 1 rf rf)) ?_
       refine WH_take 10 dk0 rf dk0 dk0 rf (ye_indexA (k := 0) rf rf r10 d10 Tryz.runUnderlying106 Tryz.sizeOf3) ?_
       refine WH_take 11 dk0 rf dk0 dk0 rf (ye_load1 rf Tryz.isAgg3 (Mem.own1 4 rf rf)) ?_
       refine WH_take 12 dk0 rf dk0 dk0 rf (ye_sub rf rf ui) ?_
       refine WH_take 13 dk0 rf dk0 dk0 rf (ye_max rf rf) ?_
       refine WH_take 14 dk0 rf dk0 dk0 rf (ye_add rf rf ui) ?_
       refine WH_step3 2 4 16 dk0 (fun _ h => St.sub h sbA) rf rf rf ?_ ?_ ?_
       ·
        refine WS_gen hF rf (y_callL rf rf Tryz.call94 (fun w hw => cloneP_any x.w.l x.a x.k w ((hxr.mono hsub) _ _ w sbA hw).n ((hxr.mono hsub) _ _ w sbA hw).p)) ?_
        rintro _ Hc ⟨ca, ccap, rfl, hrc⟩
        refine WS_back ?_
        refine WS_nil ?_
        refine WH_step2 4 16 dk0 (fun _ h => St.sub h sbA) rf rf ?_ ?_
        ·
         refine WS_newS hF rf (y_buildSliceL bs35_1_0 rf) (fun b3 => ?_)
         refine WS_nil ?_
         refine WH_step2 5 16 dk0 (fun _ h => St.sub h sbA) rf rf ?_ ?_
         ·
          refine WS_appendN hF (H1 := (_ :: _ :: _ :: _ :: _ :: _ :: _ :: _ :: _ :: _ :: _ :: _ :: _ :: (HX2 ++ (R')))) (Hn := Hc) rf rf rf Tryz.underlying35 infPo rf rf hrc (rowOf_len po_len _ _) (.inr ⟨_, _, rfl, (by first | exact Mem.own (us := [.int _ _, .int _ _]) 0 rf rf | exact Mem.own (us := [.int _ _, .int _ _]) 1 rf rf)⟩) rf rf om0 om0 om0 ?_
          intro a3 cap3 H3 hr3
          have hrow3 : NewRow 47 2 (c.nx x.w xk ((c.ps xk).getD k Po.z)).l.length (rowOf Po.cells (fun z => (c.nx x.w xk ((c.ps xk).getD k Po.z)).l.getD z Po.z) (c.nx x.w xk ((c.ps xk).getD k Po.z)).l.length) (.slice a3 (c.nx x.w xk ((c.ps xk).getD k Po.z)).l.length cap3) H3 := by rw [c.nx_row, c.nx_len]; exact hr3
          refine WS_nil ?_
          refine WH_take 15 dk0 rf dk0 dk0 rf (ye_buildL bd118_0_1 rf) ?_
          refine WH_step1 16 dk0 (fun _ h => St.sub h sbA) rf ?_
          ·
           refine WS_new hF rf (y_alloc Tryz.zeroValue118 rf) (fun b4 => ?_)
           refine WS_nil ?_
           refine WH_done dk0 (fun _ h => St.sub h sbA) ?_
           exact ⟨_, _, _, _, hrow3, s30, HSub.swap3 (F := [_, _, _, _, _, _, _, _, _, _, _]) sbA⟩
         ·
          refine WS_new hF rf (y_alloc Tryz.zeroValue118 rf) (fun b5 => ?_)
          refine WS_nil ?_
          refine WH_step1 5 dk0 (fun _ h => St.sub h sbA) rf ?_
          ·
           refine WS_appendN hF (H1 := (_ :: _ :: _ :: _ :: _ :: _ :: _ :: _ :: _ :: _ :: _ :: _ :: _ :: _ :: (HX2 ++ (R')))) (Hn := Hc) rf rf rf Tryz.underlying35 infPo rf rf hrc (rowOf_len po_len _ _) (.inr ⟨_, _, rfl, (by first | exact Mem.own (us := [.int _ _, .int _ _]) 0 rf rf | exact Mem.own (us := [.int _ _, .int _ _]) 1 rf rf)⟩) rf rf om0 om0 om0 ?_
           intro a3 cap3 H3 hr3
           have hrow3 : NewRow 47 2 (c.nx x.w xk ((c.ps xk).getD k Po.z)).l.length (rowOf Po.cells (fun z => (c.nx x.w xk ((c.ps xk).getD k Po.z)).l.getD z Po.z) (c.nx x.w xk ((c.ps xk).getD k Po.z)).l.length) (.slice a3 (c.nx x.w xk ((c.ps xk).getD k Po.z)).l.length cap3) H3 := by rw [c.nx_row, c.nx_len]; exact hr3
           refine WS_nil ?_
           refine WH_take 15 dk0 rf dk0 dk0 rf (ye_buildL bd118_0_1 rf) ?_
           refine WH_done dk0 (fun _ h => St.sub h sbA) ?_
           exact ⟨_, _, _, _, hrow3, s30, HSub.swap3 (F := [_, _, _, _, _, _, _, _, _, _, _]) sbA⟩
        ·
         refine WS_new hF rf (y_alloc Tryz.zeroValue118 rf) (fun b6 => ?_)
         refine WS_nil ?_
         refine WH_step1 4 dk0 (fun _ h => St.sub h sbA) rf ?_
         ·
          refine WS_newS hF rf (y_buildSliceL bs35_1_0 rf) (fun b7 => ?_)
          refine WS_nil ?_
          refine WH_step1 5 dk0 (fun _ h => St.sub h sbA) rf ?_
          ·
           refine WS_appendN hF (H1 := (_ :: _ :: _ :: _ :: _ :: _ :: _ :: _ :: _ :: _ :: _ :: _ :: _ :: _ :: (HX2 ++ (R')))) (Hn := Hc) rf rf rf Tryz.underlying35 infPo rf rf hrc (rowOf_len po_len _ _) (.inr ⟨_, _, rfl, (by first | exact Mem.own (us := [.int _ _, .int _ _]) 0 rf rf | exact Mem.own (us := [.int _ _, .int _ _]) 1 rf rf)⟩) rf rf om0 om0 om0 ?_
           intro a3 cap3 H3 hr3
           have hrow3 : NewRow 47 2 (c.nx x.w xk ((c.ps xk).getD k Po.z)).l.length (rowOf Po.cells (fun z => (c.nx x.w xk ((c.ps xk).getD k Po.z)).l.getD z Po.z) (c.nx x.w xk ((c.ps xk).getD k Po.z)).l.length) (.slice a3 (c.nx x.w xk ((c.ps xk).getD k Po.z)).l.length cap3) H3 := by rw [c.nx_row, c.nx_len]; exact hr3
           refine WS_nil ?_
           refine WH_take 15 dk0 rf dk0 dk0 rf (ye_buildL bd118_0_1 rf) ?_
           refine WH_done dk0 (fun _ h => St.sub h sbA) ?_
           exact ⟨_, _, _, _, hrow3, s30, HSub.swap3 (F := [_, _, _, _, _, _, _, _, _, _, _]) sbA⟩
       ·
        refine WS_newS hF rf (y_buildSliceL bs35_1_0 rf) (fun b8 => ?_)
        refine WS_nil ?_
        refine WH_step2 2 16 dk0 (fun _ h => St.sub h sbA) rf rf ?_ ?_
        ·
         refine WS_gen hF rf (y_callL rf rf Tryz.call94 (fun w hw => cloneP_any x.w.l x.a x.k w ((hxr.mono hsub) _ _ w sbA hw).n ((hxr.mono hsub) _ _ w sbA hw).p)) ?_
         rintro _ Hc ⟨ca, ccap, rfl, hrc⟩
         refine WS_back ?_
         refine WS_nil ?_
         refine WH_step2 5 16 dk0 (fun _ h => St.sub h sbA) rf rf ?_ ?_
         ·
          refine WS_appendN hF (H1 := (_ :: _ :: _ :: _ :: _ :: _ :: _ :: _ :: _ :: _ :: _ :: _ :: _ :: (HX2 ++ (R')))) (Hn := Hc) rf rf rf Tryz.underlying35 infPo rf rf hrc (rowOf_len po_len _ _) (.inr ⟨_, _, rfl, (by first | exact Mem.own (us := [.int _ _, .int _ _]) 0 rf rf | exact Mem.own (us := [.int _ _, .int _ _]) 1 rf rf)⟩) rf rf om0 om0 om0 ?_
          intro a3 cap3 H3 hr3
          have hrow3 : NewRow 47 2 (c.nx x.w xk ((c.ps xk).getD k Po.z)).l.length (rowOf Po.cells (fun z => (c.nx x.w xk ((c.ps xk).getD k Po.z)).l.getD z Po.z) (c.nx x.w xk ((c.ps xk).getD k Po.z)).l.length) (.slice a3 (c.nx x.w xk ((c.ps xk).getD k Po.z)).l.length cap3) H3 := by rw [c.nx_row, c.nx_len]; exact hr3
          refine WS_nil ?_
          refine WH_take 15 dk0 rf dk0 dk0 rf (ye_buildL bd118_0_1 rf) ?_
          refine WH_step1 16 dk0 (fun _ h => St.sub h sbA) rf ?_
          ·
           refine WS_new hF rf (y_alloc Tryz.zeroValue118 rf) (fun b9 => ?_)
           refine WS_nil ?_
           refine WH_done dk0 (fun _ h => St.sub h sbA) ?_
           exact ⟨_, _, _, _, hrow3, s30, HSub.swap3 (F := [_, _, _, _, _, _, _, _, _, _, _]) sbA⟩
         ·
          refine WS_new hF rf (y_alloc Tryz.zeroValue118 rf) (fun b10 => ?_)
          refine WS_nil ?_
          refine WH_step1 5 dk0 (fun _ h => St.sub h sbA) rf ?_
          ·
           refine WS_appendN hF (H1 := (_ :: _ :: _ :: _ :: _ :: _ :: _ :: _ :: _ :: _ :: _ :: _ :: _ :: _ :: (HX2 ++ (R')))) (Hn := Hc) rf rf rf Tryz.underlying35 infPo rf rf hrc (rowOf_len po_len _ _) (.inr ⟨_, _, rfl, (by first | exact Mem.own (us := [.int _ _, .int _ _]) 0 rf rf | exact Mem.own (us := [.int _ _, .int _ _]) 1 rf rf)⟩) rf rf om0 om0 om0 ?_
           intro a3 cap3 H3 hr3
           have hrow3 : NewRow 47 2 (c.nx x.w xk ((c.ps xk).getD k Po.z)).l.length (rowOf Po.cells (fun z => (c.nx x.w xk ((c.ps xk).getD k Po.z)).l.getD z Po.z) (c.nx x.w xk ((c.ps xk).getD k Po.z)).l.length) (.slice a3 (c.nx x.w xk ((c.ps xk).getD k Po.z)).l.length cap3) H3 := by rw [c.nx_row, c.nx_len]; exact hr3
           refine WS_nil ?_
           refine WH_take 15 dk0 rf dk0 dk0 rf (ye_buildL bd118_0_1 rf) ?_
           refine WH_done dk0 (fun _ h => St.sub h sbA) ?_
           exact ⟨_, _, _, _, hrow3, s30, HSub.swap3 (F := [_, _, _, _, _, _, _, _, _, _, _]) sbA⟩
        ·
         refine WS_new hF rf (y_alloc Tryz.zeroValue118 rf) (fun b11 => ?_)
         refine WS_nil ?_
         refine WH_step1 2 dk0 (fun _ h => St.sub h sbA) rf ?_
         ·
          refine WS_gen hF rf (y_callL rf rf Tryz.call94 (fun w hw => cloneP_any x.w.l x.a x.k w ((hxr.mono hsub) _ _ w sbA hw).n ((hxr.mono hsub) _ _ w sbA hw).p)) ?_
          rintro _ Hc ⟨ca, ccap, rfl, hrc⟩
          refine WS_back ?_
          refine WS_nil ?_
          refine WH_step1 5 dk0 (fun _ h => St.sub h sbA) rf ?_
          ·
           refine WS_appendN hF (H1 := (_ :: _ :: _ :: _ :: _ :: _ :: _ :: _ :: _ :: _ :: _ :: _ :: _ :: _ :: (HX2 ++ (R')))) (Hn := Hc) rf rf rf Tryz.underlying35 infPo rf rf hrc (rowOf_len po_len _ _) (.inr ⟨_, _, rfl, (by first | exact Mem.own (us := [.int _ _, .int _ _]) 0 rf rf | exact Mem.own (us := [.int _ _, .int _ _]) 1 rf rf)⟩) rf rf om0 om0 om0 ?_
           intro a3 cap3 H3 hr3
           have hrow3 : NewRow 47 2 (c.nx x.w xk ((c.ps xk).getD k Po.z)).l.length (rowOf Po.cells (fun z => (c.nx x.w xk ((c.ps xk).getD k Po.z)).l.getD z Po.z) (c.nx x.w xk ((c.ps xk).getD k Po.z)).l.length) (.slice a3 (c.nx x.w xk ((c.ps xk).getD k Po.z)).l.length cap3) H3 := by rw [c.nx_row, c.nx_len]; exact hr3
           refine WS_nil ?_
           refine WH_take 15 dk0 rf dk0 dk0 rf (ye_buildL bd118_0_1 rf) ?_
           refine WH_done dk0 (fun _ h => St.sub h sbA) ?_
           exact ⟨_, _, _, _, hrow3, s30, HSub.swap3 (F := [_, _, _, _, _, _, _, _, _, _, _]) sbA⟩
       ·
        refine WS_new hF rf (y_alloc Tryz.zeroValue118 rf) (fun b12 => ?_)
        refine WS_nil ?_
        refine WH_step2 2 4 dk0 (fun _ h => St.sub h sbA) rf rf ?_ ?_
        ·
         refine WS_gen hF rf (y_callL rf rf Tryz.call94 (fun w hw => cloneP_any x.w.l x.a x.k w ((hxr.mono hsub) _ _ w sbA hw).n ((hxr.mono hsub) _ _ w sbA hw).p)) ?_
         rintro _ Hc ⟨ca, ccap, rfl, hrc⟩
         refine WS_back ?_
         refine WS_nil ?_
         refine WH_step1 4 dk0 (fun _ h => St.sub h sbA) rf ?_
         ·
          refine WS_newS hF rf (y_buildSliceL bs35_1_0 rf) (fun b13 => ?_)
          refine WS_nil ?_
          refine WH_step1 5 dk0 (fun _ h => St.sub h sbA) rf ?_
          ·
           refine WS_appendN hF (H1 := (_ :: _ :: _ :: _ :: _ :: _ :: _ :: _ :: _ :: _ :: _ :: _ :: _ :: _ :: (HX2 ++ (R')))) (Hn := Hc) rf rf rf Tryz.underlying35 infPo rf rf hrc (rowOf_len po_len _ _) (.inr ⟨_, _, rfl, (by first | exact Mem.own (us := [.int _ _, .int _ _]) 0 rf rf | exact Mem.own (us := [.int _ _, .int _ _]) 1 rf rf)⟩) rf rf om0 om0 om0 ?_
           intro a3 cap3 H3 hr3
           have hrow3 : NewRow 47 2 (c.nx x.w xk ((c.ps xk).getD k Po.z)).l.length (rowOf Po.cells (fun z => (c.nx x.w xk ((c.ps xk).getD k Po.z)).l.getD z Po.z) (c.nx x.w xk ((c.ps xk).getD k Po.z)).l.length) (.slice a3 (c.nx x.w xk ((c.ps xk).getD k Po.z)).l.length cap3) H3 := by rw [c.nx_row, c.nx_len]; exact hr3
           refine WS_nil ?_
           refine WH_take 15 dk0 rf dk0 dk0 rf (ye_buildL bd118_0_1 rf) ?_
           refine WH_done dk0 (fun _ h => St.sub h sbA) ?_
           exact ⟨_, _, _, _, hrow3, s30, HSub.swap3 (F := [_, _, _, _, _, _, _, _, _, _, _]) sbA⟩
        ·
         refine WS_newS hF rf (y_buildSliceL bs35_1_0 rf) (fun b14 => ?_)
         refine WS_nil ?_
         refine WH_step1 2 dk0 (fun _ h => St.sub h sbA) rf ?_
         ·
          refine WS_gen hF rf (y_callL rf rf Tryz.call94 (fun w hw => cloneP_any x.w.l x.a x.k w ((hxr.mono hsub) _ _ w sbA hw).n ((hxr.mono hsub) _ _ w sbA hw).p)) ?_
          rintro _ Hc ⟨ca, ccap, rfl, hrc⟩
          refine WS_back ?_
          refine WS_nil ?_
          refine WH_step1 5 dk0 (fun _ h => St.sub h sbA) rf ?_
          ·
           refine WS_appendN hF (H1 := (_ :: _ :: _ :: _ :: _ :: _ :: _ :: _ :: _ :: _ :: _ :: _ :: _ :: _ :: (HX2 ++ (R')))) (Hn := Hc) rf rf rf Tryz.underlying35 infPo rf rf hrc (rowOf_len po_len _ _) (.inr ⟨_, _, rfl, (by first | exact Mem.own (us := [.int _ _, .int _ _]) 0 rf rf | exact Mem.own (us := [.int _ _, .int _ _]) 1 rf rf)⟩) rf rf om0 om0 om0 ?_
           intro a3 cap3 H3 hr3
           have hrow3 : NewRow 47 2 (c.nx x.w xk ((c.ps xk).getD k Po.z)).l.length (rowOf Po.cells (fun z => (c.nx x.w xk ((c.ps xk).getD k Po.z)).l.getD z Po.z) (c.nx x.w xk ((c.ps xk).getD k Po.z)).l.length) (.slice a3 (c.nx x.w xk ((c.ps xk).getD k Po.z)).l.length cap3) H3 := by rw [c.nx_row, c.nx_len]; exact hr3
           refine WS_nil ?_
           refine WH_take 15 dk0 rf dk0 dk0 rf (ye_buildL bd118_0_1 rf) ?_
           refine WH_done dk0 (fun _ h => St.sub h sbA) ?_
           exact ⟨_, _, _, _, hrow3, s30, HSub.swap3 (F := [_, _, _, _, _, _, _, _, _, _, _]) sbA⟩
    ·rintro G hj
     obtain ⟨lm2, cm2, P2, look2, HX2, rfl, hsub, hgm2, hTm2, hSt2, hPP, hdn⟩ := hj
     refine InB_normal ?_
     refine zT fun ds => ?_
     refine zm (.map _) hF ?_
     refine zD hF (y_loadN rf Tryz.isAgg106 Tryz.sizeOf106 (Mem.own (us := [.int .i64 _, .int .i64 _, .int .i64 _, .int .i64 _]) 3 rf rf) rf) ?_
     refine WS_deleteK hF (enc := encC) (k := xk) (i := 8) keyC rf rf Tryz.underlying94 rf ?_
     refine WS_nil ?_
     refine InB_normal ?_
     exact Loop_next (delK xk lo1, seen.push bn, co, lm2, cm2, P2, look2, HX2) ⟨hO.step hPP hsub hy (fun w hw => by rw [hw.1.uniq hxl.1]; exact hdn), Nat.le_refl _, hgm2, hTk3.mono hsub, hTm2, hSt2⟩ s10 sbA (delK_lt hy)
    ·rintro c k G hk hj
     exact hj.elim
   ·cases c7
 ·
  try simp only [qz1, qz2, qz3, qz4, qz5, qz6, qz7, qz8] at c3
  refine W_exit ?_
  refine Then_exit ?_
  refine Loop_exit ?_
  refine InB_same ?_
  refine zS fun ds => ?_
  refine zD hF (y_load1 rf Tryz.isAgg94 (Mem.own1 2 rf rf)) ?_
  refine za (.map _) hF ?_
  refine zN ?_
  refine W_ret ?_
  refine Fin_ret [.map _] ((mk, _) :: HX) Tryz.results50 ⟨by rfl, trivial⟩ (HSub.sub sbA) ?_
  have h0 : lo = [] := List.eq_nil_of_length_eq_zero om0
  subst h0
  exact ⟨mk, lk, ck, HX, rfl, rfl, hgk, fun k => by rw [← Cn.ltO_end (fun w y h => by obtain ⟨z, hz, _⟩ := hTo.has (Cn.eqO_iff.2 h); cases hz) k]; exact hTk k⟩
structure Cn.TabK (c : Cn) (xs : List (Co × Wy)) (ks : List Int) : Prop where
 len : ks.length = 9261
 tab : ∀ y, c.In y → y.sm = c.co.sm → (ks.getD (c.ky y).toNat 0 = 0 ∧ ∀ z ∈ xs, z.1 ≠ y) ∨ ∃ (j : Nat) (z : Co × Wy), xs[j]? = some z ∧ z.1 = y ∧ ks.getD (c.ky y).toNat 0 = (j : Int) + 1
 inn : ∀ z ∈ xs, c.In z.1 ∧ z.1.sm = c.co.sm
 nd : (xs.map Prod.fst).Nodup
theorem Cn.TabK.bd {c : Cn} (hok : c.Ok) {xs : List (Co × Wy)} {ks : List Int} (h : c.TabK xs ks) : xs.length ≤ 9261 := by
 have hnd : (xs.map fun z => (c.ky z.1).toNat).Nodup := by
  have h1 := h.nd
  rw [List.nodup_iff_pairwise_ne, List.pairwise_map] at h1 ⊢
  refine h1.imp_of_mem fun {a b} ha hb hab he => hab ?_
  obtain ⟨a1, a2⟩ := h.inn a ha
  obtain ⟨b1, b2⟩ := h.inn b hb
  have k1 := Cn.ky_bd hok a1
  have k2 := Cn.ky_bd hok b1
  exact Cn.ky_inj hok a1 b1 (a2.trans b2.symm) om0
 have := nodup_bd (N := 9261) hnd fun n hn => by
  obtain ⟨z, hz, rfl⟩ := List.mem_map.1 hn
  have := Cn.ky_bd hok (h.inn z hz).1
  omega
 rwa [List.length_map] at this
theorem Cn.TabK.push {c : Cn} (hok : c.Ok) {xs : List (Co × Wy)} {ks : List Int} (h : c.TabK xs ks) {y : Co} (hy : c.In y) (hs : y.sm = c.co.sm) (hk : ks.getD (c.ky y).toNat 0 = 0) (v : Wy) : c.TabK (xs ++ [(y, v)]) (ks.set (c.ky y).toNat ((xs.length : Int) + 1)) := by
 have hb := Cn.ky_bd hok hy
 have hn : ∀ z ∈ xs, z.1 ≠ y := by
  rcases h.tab y hy hs with h1 | ⟨j, z, _, _, h3⟩
  ·exact h1.2
  ·omega
 refine ⟨by rw [List.length_set]; exact h.len, fun u hu hus => ?_, fun z hz => ?_, ?_⟩
 ·by_cases he : u = y
  ·subst he
   refine .inr ⟨xs.length, (u, v), by simp, rfl, ?_⟩
   rw [List.getD_eq_getElem?_getD, List.getElem?_set_self (by rw [h.len]; omega)]
   rfl
  ·have hne : (c.ky y).toNat ≠ (c.ky u).toNat := fun hh => he (by
    have := Cn.ky_bd hok hu
    exact Cn.ky_inj hok hu hy (hus.trans hs.symm) om0)
   have hg : (ks.set (c.ky y).toNat ((xs.length : Int) + 1)).getD (c.ky u).toNat 0 = ks.getD (c.ky u).toNat 0 := by
    rw [List.getD_eq_getElem?_getD, List.getD_eq_getElem?_getD, List.getElem?_set_ne hne]
   rw [hg]
   rcases h.tab u hu hus with ⟨h1, h2⟩ | ⟨j, z, h1, h2, h3⟩
   ·refine .inl ⟨h1, fun z hz => ?_⟩
    rcases List.mem_append.1 hz with hz | hz
    ·exact h2 z hz
    ·simp only [List.mem_singleton] at hz; subst hz; exact fun e => he e.symm
   ·exact .inr ⟨j, z, by rw [List.getElem?_append_left (List.getElem?_eq_some_iff.1 h1).1]; exact h1, h2, h3⟩
 ·rcases List.mem_append.1 hz with hz | hz
  ·exact h.inn z hz
  ·simp only [List.mem_singleton] at hz; subst hz; exact ⟨hy, hs⟩
 ·rw [List.map_append, List.nodup_append]
  refine ⟨h.nd, by simp, fun a ha b hb2 hab => ?_⟩
  obtain ⟨z, hz, rfl⟩ := List.mem_map.1 ha
  simp only [List.map_cons, List.map_nil, List.mem_singleton] at hb2
  exact hn z hz (hab.trans hb2)
theorem map_set_fst {xs : List (Co × Wy)} {j : Nat} {y : Co} {u v : Wy} (h : xs[j]? = some (y, u)) : (xs.set j (y, v)).map Prod.fst = xs.map Prod.fst := by
 obtain ⟨hj, he⟩ := List.getElem?_eq_some_iff.1 h
 rw [List.map_set]
 refine List.ext_getElem (by simp) fun i h1 h2 => ?_
 rw [List.getElem_set]
 split
 ·rename_i hij; subst hij; simp [he]
 ·rfl
theorem Cn.TabK.upd {c : Cn} {xs : List (Co × Wy)} {ks : List Int} (h : c.TabK xs ks) {j : Nat} {y : Co} {u : Wy} (hj : xs[j]? = some (y, u)) (v : Wy) : c.TabK (xs.set j (y, v)) ks := by
 have hjl := (List.getElem?_eq_some_iff.1 hj).1
 have hfst : ∀ z ∈ xs.set j (y, v), z.1 ∈ xs.map Prod.fst := fun z hz => by
  rw [← map_set_fst hj (v := v)]; exact List.mem_map.2 ⟨z, hz, rfl⟩
 refine ⟨h.len, fun a ha has => ?_, fun z hz => ?_, by rw [map_set_fst hj]; exact h.nd⟩
 ·rcases h.tab a ha has with ⟨h1, h2⟩ | ⟨i, z, h1, h2, h3⟩
  ·refine .inl ⟨h1, fun z hz => ?_⟩
   obtain ⟨z', hz', he⟩ := List.mem_map.1 (hfst z hz)
   rw [← he]; exact h2 z' hz'
  ·by_cases hij : j = i
   ·subst hij
    rw [hj] at h1
    cases h1
    exact .inr ⟨j, (y, v), List.getElem?_set_self hjl, h2, h3⟩
   ·exact .inr ⟨i, z, by rw [List.getElem?_set_ne hij]; exact h1, h2, h3⟩
 ·obtain ⟨z', hz', he⟩ := List.mem_map.1 (hfst z hz)
  rw [← he]; exact h.inn z' hz'
structure Cn.Rc0 (c : Cn) (n fr : Nat) (xs : List (Co × Wy)) (ks : List Int) : Prop where
 tb : c.TabK xs ks
 frl : fr ≤ xs.length
 best : ∀ (j : Nat) (z : Co × Wy), xs[j]? = some z → c.Best z.2 z.1 ∧ (j < fr → z.2.l.length < n) ∧ (fr ≤ j → z.2.l.length = n)
 all : ∀ y w, c.Best w y → w.l.length ≤ n → (y, w) ∈ xs
 srt : xs.Pairwise fun a b => a.2.l.length ≤ b.2.l.length
structure Cn.RcI (c : Cn) (n fr en : Nat) (P : Co → Wy → Prop) (look : Co → Option Wy) (xs : List (Co × Wy)) (ks : List Int) : Prop where
 tb : c.TabK xs ks
 stp : c.Stp n P look
 frl : fr ≤ en
 enl : en ≤ xs.length
 best : ∀ (j : Nat) (z : Co × Wy), j < en → xs[j]? = some z → c.Best z.2 z.1 ∧ (j < fr → z.2.l.length < n) ∧ (fr ≤ j → z.2.l.length = n)
 all : ∀ y w, c.Best w y → w.l.length ≤ n → ∃ j : Nat, j < en ∧ xs[j]? = some (y, w)
 new : ∀ y w, look y = some w ↔ ∃ j : Nat, en ≤ j ∧ xs[j]? = some (y, w)
 srt : ∀ (i j : Nat) (a b : Co × Wy), i ≤ j → j < en → xs[i]? = some a → xs[j]? = some b → a.2.l.length ≤ b.2.l.length
theorem Cn.Rc0.start {c : Cn} {n fr : Nat} {xs : List (Co × Wy)} {ks : List Int} (h : c.Rc0 n fr xs ks) : c.RcI n fr xs.length (fun _ _ => False) (fun _ => none) xs ks := by
 refine ⟨h.tb, .nil c n, h.frl, Nat.le_refl _, fun j z _ hz => h.best j z hz, fun y w hw hl => ?_, fun y w => ?_, fun i j a b hij hj ha hb => ?_⟩
 ·obtain ⟨j, hj⟩ := List.getElem?_of_mem (h.all y w hw hl)
  exact ⟨j, (List.getElem?_eq_some_iff.1 hj).1, hj⟩
 ·constructor
  ·intro h; cases h
  ·rintro ⟨j, h1, h2⟩
   have := (List.getElem?_eq_some_iff.1 h2).1
   omega
 ·by_cases he : i = j
  ·subst he; rw [ha] at hb; cases hb; exact Nat.le_refl _
  ·have hp := List.pairwise_iff_getElem.1 h.srt i j om0 hj om0
   rw [(List.getElem?_eq_some_iff.1 ha).2, (List.getElem?_eq_some_iff.1 hb).2] at hp
   exact hp
theorem Cn.RcI.kn {c : Cn} {n fr en : Nat} {P : Co → Wy → Prop} {look : Co → Option Wy} {xs : List (Co × Wy)} {ks : List Int} (h : c.RcI n fr en P look xs ks) {y : Co} : c.Kn n y ↔ ∃ (j : Nat) (z : Co × Wy), j < en ∧ xs[j]? = some z ∧ z.1 = y := by
 constructor
 ·rintro ⟨u, h1, h2⟩
  obtain ⟨j, h3, h4⟩ := h.all y u h1 h2
  exact ⟨j, _, h3, h4, rfl⟩
 ·rintro ⟨j, z, h1, h2, rfl⟩
  obtain ⟨h3, h4, h5⟩ := h.best j z h1 h2
  refine ⟨z.2, h3, ?_⟩
  by_cases hj : j < fr
  ·exact Nat.le_of_lt (h4 hj)
  ·exact Nat.le_of_eq (h5 om0)
theorem Cn.TabK.uniq {c : Cn} {xs : List (Co × Wy)} {ks : List Int} (h : c.TabK xs ks) {i j : Nat} {a b : Co × Wy} (ha : xs[i]? = some a) (hb : xs[j]? = some b) (he : a.1 = b.1) : i = j := by
 obtain ⟨hi, ei⟩ := List.getElem?_eq_some_iff.1 ha
 obtain ⟨hj, ej⟩ := List.getElem?_eq_some_iff.1 hb
 have h1 := h.nd
 rw [List.nodup_iff_pairwise_ne, List.pairwise_iff_getElem] at h1
 rcases Nat.lt_trichotomy i j with hl | rfl | hl
 ·exact (h1 i j (by simpa using hi) (by simpa using hj) hl (by simp only [List.getElem_map, ei, ej, he])).elim
 ·rfl
 ·exact (h1 j i (by simpa using hj) (by simpa using hi) hl (by simp only [List.getElem_map, ei, ej, he])).elim
def addP (P : Co → Wy → Prop) (y : Co) (v : Wy) : Co → Wy → Prop := fun y' v' => P y' v' ∨ (y' = y ∧ v' = v)
def addL (look : Co → Option Wy) (y : Co) (v : Wy) : Co → Option Wy := fun y' => if y' = y then some (pickW (look y) v) else look y'
theorem Cn.RcI.zero {c : Cn} {n fr en : Nat} {P : Co → Wy → Prop} {look : Co → Option Wy} {xs : List (Co × Wy)} {ks : List Int} (h : c.RcI n fr en P look xs ks) (hn : c.n ≤ 3) {x : Co} {w : Wy} {p : Po} (hx : c.In x) (hxs : x.sm = c.co.sm) (hp : c.pE x p = 0) (hk : ks.getD (c.ky (c.stp x p)).toNat 0 = 0) :
  (∀ z ∈ xs, z.1 ≠ c.stp x p) ∧ look (c.stp x p) = none ∧ ¬ c.Kn n (c.stp x p) := by
 have hz : ∀ z ∈ xs, z.1 ≠ c.stp x p := by
  rcases h.tb.tab _ (hx.stp hn hp) ((Cn.stp_sm hn hp).trans hxs) with h1 | ⟨j, z, _, _, h3⟩
  ·exact h1.2
  ·omega
 refine ⟨hz, ?_, fun hkn => ?_⟩
 ·cases hl : look (c.stp x p) with
  | none => rfl
  | some u =>
   obtain ⟨j, _, hj⟩ := (h.new _ _).1 hl
   exact absurd rfl (hz _ (List.mem_of_getElem? hj))
 ·obtain ⟨j, z, _, hj, he⟩ := h.kn.1 hkn
  exact hz _ (List.mem_of_getElem? hj) he
theorem Cn.RcI.push {c : Cn} (hok : c.Ok) {n fr en : Nat} {P : Co → Wy → Prop} {look : Co → Option Wy} {xs : List (Co × Wy)} {ks : List Int} (h : c.RcI n fr en P look xs ks) {x : Co} {w : Wy} {p : Po} (hw : c.Lv n w x) (hp : c.pE x p = 0) (hk : ks.getD (c.ky (c.stp x p)).toNat 0 = 0) :
  c.RcI n fr en (addP P (c.stp x p) (c.nx w x p)) (addL look (c.stp x p) (c.nx w x p)) (xs ++ [(c.stp x p, c.nx w x p)]) (ks.set (c.ky (c.stp x p)).toNat ((xs.length : Int) + 1)) := by
 obtain ⟨hx, hxs⟩ := hw.1.way.in hok
 obtain ⟨hz, hl, hkn⟩ := h.zero (w := w) hok.n3 hx hxs hp hk
 refine ⟨h.tb.push hok (hx.stp hok.n3 hp) ((Cn.stp_sm hok.n3 hp).trans hxs) hk _, h.stp.put hw hp hkn, h.frl, by rw [List.length_append]; have := h.enl; omega, fun j z hj hjz => ?_, fun y u hu hul => ?_, fun y u => ?_, fun i j a b hij hj ha hb => ?_⟩
 ·rw [List.getElem?_append_left (by have := h.enl; omega)] at hjz
  exact h.best j z hj hjz
 ·obtain ⟨j, h1, h2⟩ := h.all y u hu hul
  exact ⟨j, h1, by rw [List.getElem?_append_left (by have := h.enl; omega)]; exact h2⟩
 ·unfold addL
  by_cases hy : y = c.stp x p
  ·subst hy
   rw [if_pos rfl, hl]
   change some (c.nx w x p) = some u ↔ _
   constructor
   ·intro e; cases e; exact ⟨xs.length, h.enl, by simp⟩
   ·rintro ⟨j, h1, h2⟩
    by_cases hj : j < xs.length
    ·rw [List.getElem?_append_left hj] at h2
     exact absurd rfl (hz _ (List.mem_of_getElem? h2))
    ·rw [List.getElem?_append_right om0] at h2
     obtain ⟨_, h3⟩ := List.getElem?_eq_some_iff.1 h2
     simp only [List.getElem_singleton, Prod.mk.injEq, true_and] at h3
     rw [h3]
  ·rw [if_neg hy, h.new]
   constructor
   ·rintro ⟨j, h1, h2⟩
    exact ⟨j, h1, by rw [List.getElem?_append_left (List.getElem?_eq_some_iff.1 h2).1]; exact h2⟩
   ·rintro ⟨j, h1, h2⟩
    by_cases hj : j < xs.length
    ·rw [List.getElem?_append_left hj] at h2; exact ⟨j, h1, h2⟩
    ·rw [List.getElem?_append_right om0] at h2
     obtain ⟨_, h3⟩ := List.getElem?_eq_some_iff.1 h2
     simp only [List.getElem_singleton, Prod.mk.injEq] at h3
     exact absurd h3.1.symm hy
 ·have := h.enl
  rw [List.getElem?_append_left om0] at ha hb
  exact h.srt i j a b hij hj ha hb
theorem Cn.RcI.known {c : Cn} (hok : c.Ok) {n fr en : Nat} {P : Co → Wy → Prop} {look : Co → Option Wy} {xs : List (Co × Wy)} {ks : List Int} (h : c.RcI n fr en P look xs ks) {x : Co} {w : Wy} {p : Po} (hw : c.Lv n w x) (hp : c.pE x p = 0) (hk : ¬ ks.getD (c.ky (c.stp x p)).toNat 0 = 0) :
  ∃ (j : Nat) (u : Wy), xs[j]? = some (c.stp x p, u) ∧ ks.getD (c.ky (c.stp x p)).toNat 0 = (j : Int) + 1 ∧ (j < en → c.Kn n (c.stp x p)) ∧ (en ≤ j → look (c.stp x p) = some u ∧ u.l.length = n + 1 ∧ ¬ c.Kn n (c.stp x p)) := by
 obtain ⟨hx, hxs⟩ := hw.1.way.in hok
 rcases h.tb.tab _ (hx.stp hok.n3 hp) ((Cn.stp_sm hok.n3 hp).trans hxs) with h1 | ⟨j, z, h1, h2, h3⟩
 ·exact absurd h1.1 hk
 ·obtain ⟨y, u⟩ := z
  simp only at h2
  subst h2
  refine ⟨j, u, h1, h3, fun hj => h.kn.2 ⟨j, _, hj, h1, rfl⟩, fun hj => ?_⟩
  have hl := (h.new _ u).2 ⟨j, hj, h1⟩
  have hm := h.stp.min (c.stp x p)
  rw [hl] at hm
  obtain ⟨hn, x', w', p', hw', hp', he, rfl⟩ := h.stp.snd _ _ hm.1
  exact ⟨hl, by rw [c.nx_len, hw'.2], hn⟩
theorem Cn.RcI.upd {c : Cn} {n fr en : Nat} {P : Co → Wy → Prop} {look : Co → Option Wy} {xs : List (Co × Wy)} {ks : List Int} (h : c.RcI n fr en P look xs ks) {x : Co} {w : Wy} {p : Po} (hw : c.Lv n w x) (hp : c.pE x p = 0) {j : Nat} {u : Wy} (hj : xs[j]? = some (c.stp x p, u)) (hje : en ≤ j) (hl : look (c.stp x p) = some u) (hkn : ¬ c.Kn n (c.stp x p)) :
  c.RcI n fr en (addP P (c.stp x p) (c.nx w x p)) (addL look (c.stp x p) (c.nx w x p)) (xs.set j (c.stp x p, pickW (some u) (c.nx w x p))) ks := by
 have hjl := (List.getElem?_eq_some_iff.1 hj).1
 refine ⟨h.tb.upd hj _, h.stp.put hw hp hkn, h.frl, by rw [List.length_set]; exact h.enl, fun i z hi hiz => ?_, fun y v hv hvl => ?_, fun y v => ?_, fun i k a b hik hk ha hb => ?_⟩
 ·rw [List.getElem?_set_ne om0] at hiz
  exact h.best i z hi hiz
 ·obtain ⟨i, h1, h2⟩ := h.all y v hv hvl
  exact ⟨i, h1, by rw [List.getElem?_set_ne om0]; exact h2⟩
 ·unfold addL
  by_cases hy : y = c.stp x p
  ·subst hy
   rw [if_pos rfl, hl]
   constructor
   ·intro e; cases e; exact ⟨j, hje, List.getElem?_set_self hjl⟩
   ·rintro ⟨i, h1, h2⟩
    by_cases hij : j = i
    ·subst hij
     rw [List.getElem?_set_self hjl] at h2
     simp only [Option.some.injEq, Prod.mk.injEq, true_and] at h2
     rw [h2]
    ·rw [List.getElem?_set_ne hij] at h2
     exact absurd (h.tb.uniq hj h2 rfl) hij
  ·rw [if_neg hy, h.new]
   constructor
   ·rintro ⟨i, h1, h2⟩
    have hij : j ≠ i := fun e => by subst e; rw [hj] at h2; cases h2; exact hy rfl
    exact ⟨i, h1, by rw [List.getElem?_set_ne hij]; exact h2⟩
   ·rintro ⟨i, h1, h2⟩
    by_cases hij : j = i
    ·subst hij
     rw [List.getElem?_set_self hjl] at h2
     simp only [Option.some.injEq, Prod.mk.injEq] at h2
     exact absurd h2.1.symm hy
    ·rw [List.getElem?_set_ne hij] at h2
     exact ⟨i, h1, h2⟩
 ·rw [List.getElem?_set_ne om0] at ha hb
  exact h.srt i k a b hik hk ha hb
theorem Cn.RcI.done {c : Cn} (hok : c.Ok) {n fr en : Nat} {P : Co → Wy → Prop} {look : Co → Option Wy} {xs : List (Co × Wy)} {ks : List Int} (h : c.RcI n fr en P look xs ks) (hd : ∀ (j : Nat) (z : Co × Wy), fr ≤ j → j < en → xs[j]? = some z → c.Dn n P z.1 z.2 (c.ps z.1).length) : c.Rc0 (n + 1) en xs ks := by
 have hlv := h.stp.level hok.n3 fun x w hw => by
  obtain ⟨j, h1, h2⟩ := h.all x w hw.1 (Nat.le_of_eq hw.2)
  refine hd j (x, w) ?_ h1 h2
  obtain ⟨_, h3, _⟩ := h.best j _ h1 h2
  have := hw.2
  refine Nat.le_of_not_lt fun hj => ?_
  have := h3 hj
  simp only at this
  omega
 have hnew : ∀ j z, en ≤ j → xs[j]? = some z → c.Lv (n + 1) z.2 z.1 := fun j z h1 h2 => Cn.eqO_iff.1 ((hlv z.1).symm.trans ((h.new z.1 z.2).2 ⟨j, h1, h2⟩))
 have hle : ∀ (j : Nat) (z : Co × Wy), j < en → xs[j]? = some z → z.2.l.length ≤ n := fun j z h1 h2 => by
  obtain ⟨_, h3, h4⟩ := h.best j z h1 h2
  by_cases hj : j < fr
  ·exact Nat.le_of_lt (h3 hj)
  ·exact Nat.le_of_eq (h4 om0)
 refine ⟨h.tb, h.enl, fun j z hz => ?_, fun y w hw hl => ?_, ?_⟩
 ·by_cases hj : j < en
  ·have := hle j z hj hz
   exact ⟨(h.best j z hj hz).1, fun _ => by omega, fun h => by omega⟩
  ·have := hnew j z om0 hz
   exact ⟨this.1, fun h => by omega, fun _ => this.2⟩
 ·by_cases hn : w.l.length ≤ n
  ·obtain ⟨j, _, h2⟩ := h.all y w hw hn
   exact List.mem_of_getElem? h2
  ·have : look y = some w := (hlv y).trans (Cn.eqO_iff.2 ⟨hw, by omega⟩)
   obtain ⟨j, _, h2⟩ := (h.new y w).1 this
   exact List.mem_of_getElem? h2
 ·rw [List.pairwise_iff_getElem]
  intro i j hi hj hij
  have ei : xs[i]? = some xs[i] := List.getElem?_eq_getElem hi
  have ej : xs[j]? = some xs[j] := List.getElem?_eq_getElem hj
  by_cases hje : j < en
  ·exact h.srt i j _ _ (Nat.le_of_lt hij) hje ei ej
  ·have h1 := (hnew j _ om0 ej).2
   by_cases hie : i < en
   ·have := hle i _ hie ei; omega
   ·have := (hnew i _ om0 ei).2; omega
structure Cn.Rcd (c : Cn) (xs : List (Co × Wy)) : Prop where
 best : ∀ z ∈ xs, c.Best z.2 z.1
 all : ∀ y w, c.Best w y → (y, w) ∈ xs
 nd : (xs.map Prod.fst).Nodup
 srt : xs.Pairwise fun a b => a.2.l.length ≤ b.2.l.length
 len : xs.length ≤ 9261
theorem Cn.Rc0.end {c : Cn} (hok : c.Ok) {n fr : Nat} {xs : List (Co × Wy)} {ks : List Int} (h : c.Rc0 n fr xs ks) (hf : xs.length ≤ fr) : c.Rcd xs := by
 have hno : ∀ w y, ¬ c.Lv n w y := fun w y hw => by
  obtain ⟨j, hj⟩ := List.getElem?_of_mem (h.all y w hw.1 (Nat.le_of_eq hw.2))
  have h1 := (List.getElem?_eq_some_iff.1 hj).1
  have h2 := (h.best j _ hj).2.1 om0
  have := hw.2
  simp only at h2
  omega
 refine ⟨fun z hz => ?_, fun y w hw => h.all y w hw (Nat.le_of_lt (Cn.no_more hno hw)), h.tb.nd, h.srt, h.tb.bd hok⟩
 obtain ⟨j, hj⟩ := List.getElem?_of_mem hz
 exact (h.best j z hj).1
theorem Cn.Rc0.first {c : Cn} (hok : c.Ok) : c.Rc0 0 0 [(c.co, ⟨[], 0⟩)] ((List.replicate 9261 0).set (c.ky c.co).toNat 1) := by
 have hb : c.Best ⟨[], 0⟩ c.co := (Cn.lv_zero.2 ⟨rfl, rfl⟩).1
 have h0 : c.TabK [] (List.replicate 9261 0) := by
  refine ⟨List.length_replicate, fun y hy hs => .inl ⟨?_, fun z hz => (by cases hz)⟩, fun z hz => (by cases hz), List.nodup_nil⟩
  have := Cn.ky_bd hok hy
  rw [List.getD_eq_getElem?_getD, List.getElem?_replicate, if_pos om0]
  rfl
 have h1 := h0.push hok hok.co_in rfl (v := ⟨[], 0⟩) (by
  have := Cn.ky_bd hok hok.co_in
  rw [List.getD_eq_getElem?_getD, List.getElem?_replicate, if_pos om0]
  rfl)
 refine ⟨h1, Nat.zero_le _, fun j z hz => ?_, fun y w hw hl => ?_, by simp⟩
 ·obtain ⟨hj, e⟩ := List.getElem?_eq_some_iff.1 hz
  simp only [List.length_singleton] at hj
  obtain rfl : j = 0 := by omega
  simp only [List.getElem_singleton] at e
  subst e
  exact ⟨hb, fun h => by omega, fun _ => rfl⟩
 ·obtain ⟨rfl, rfl⟩ := Cn.lv_zero.1 ⟨hw, Nat.le_zero.1 hl⟩
  exact List.mem_singleton.2 rfl
theorem Cn.Dn.step {c : Cn} {n : Nat} {P P' : Co → Wy → Prop} (hP : ∀ y v, P y v → P' y v) {x : Co} {w : Wy} {k : Nat} (h : c.Dn n P x w k) (hk : ¬ c.Kn n (c.stp x ((c.ps x).getD k Po.z)) → P' (c.stp x ((c.ps x).getD k Po.z)) (c.nx w x ((c.ps x).getD k Po.z))) : c.Dn n P' x w (k + 1) := fun j hj hn => by
 by_cases he : j = k
 ·subst he; exact hk hn
 ·exact hP _ _ (h j om0 hn)
theorem good_len {c : Cn} (hok : c.Ok) {HX : List Blk} {l : List (EntK Co)} {ck : Nat} (hg : GoodM l ck) (hT : Tab HX l c.bestO) : l.length ≤ 9261 := by
 have hin : ∀ y ∈ l, c.In y.1 ∧ y.1.sm = c.co.sm := fun y hy => by
  obtain ⟨x, _, h2, _⟩ := hT.mem hg hy
  exact (Cn.bestO_iff.1 h2).way.in hok
 have hnd : (l.map fun y => (c.ky y.1).toNat).Nodup := by
  have h1 := hg.keys
  rw [List.nodup_iff_pairwise_ne, List.pairwise_map] at h1 ⊢
  refine h1.imp_of_mem fun {a b} ha hb hab he => hab ?_
  obtain ⟨a1, a2⟩ := hin a ha
  obtain ⟨b1, b2⟩ := hin b hb
  have k1 := Cn.ky_bd hok a1
  have k2 := Cn.ky_bd hok b1
  exact Cn.ky_inj hok a1 b1 (a2.trans b2.symm) om0
 have := nodup_bd (N := 9261) hnd fun n hn => by
  obtain ⟨y, hy, rfl⟩ := List.mem_map.1 hn
  have := Cn.ky_bd hok (hin y hy).1
  omega
 rwa [List.length_map] at this
theorem bs167_1_0 {x0_0a : Option Addr} {x0_0l x0_0c : Nat} {x0_1 : Int} : ∀ w, (Instr.buildSlice 167 1 #[(0, .agg #[.slice x0_0a x0_0l x0_0c, .int .i64 x0_1])]).run Tryz.prog w = .ok (.slice (some ⟨w.heap.size, 0, none⟩) 1 1) (w.alloc (CB [.slice x0_0a x0_0l x0_0c, .int .i64 x0_1] 118)) := fun w => by kernel_rfl
structure AimOk (P : Program) (w0 : World) (HA : List Blk) (fid : FuncId) (first caps : List Value) (Q : Co → Prop) (p : Co → Bool) : Prop where
 enter : ∀ args w, (callFunc fid args).run P w = .ok (.enter fid args) w
 call : ∀ x, Q x → ∀ (C : Ctx) (H : List Blk) (w : World), C.w0 = w0 → HA.Sublist H → St C H w → Ct P fid (first ++ (Value.agg x.cells.toArray :: caps)).toArray w fun v _ => v = .bool (p x)
def wRow (xs : List Wl) : List Value := rowOf Wl.cells (fun k => xs.getD k Wl.z) xs.length
theorem wRow_snoc (xs : List Wl) (y : Wl) : wRow (xs ++ [y]) = wRow xs ++ y.cells := by
 unfold wRow
 rw [List.length_append, List.length_singleton, rowOf_succ]
 congr 1
 ·exact rowOf_congr _ fun k hk => by simp [List.getD_eq_getElem?_getD, List.getElem?_append_left hk]
 ·simp [List.getD_eq_getElem?_getD]
theorem infWay : (Tryz.prog.info? 118).map (fun i => (i.zero, i.size, i.bytes)) = some (some (.agg #[.slice none 0 0, .int .i64 0]), 2, 32) := by kernel_rfl
def addX (p : Co → Bool) (xs : List Wl) (x : Co) (y : Wl) : List Wl := if p x then xs ++ [y] else xs
theorem add_cs (w0 : World) (ds0 out0 : List Deferred) (bso bl : Nat) (fid : FuncId) (first caps : List Value) (Q : Co → Prop) (p : Co → Bool) (HA : List Blk) (hA : AimOk Tryz.prog w0 HA fid first caps Q p) (x : Co) (hq : Q x) (y : Wl) (xs : List Wl) (a : Option Addr) (cap : Nat) (G Hr : List Blk)
  (hrow : NewRow 118 2 xs.length (wRow xs) (.slice a xs.length cap) Hr) (hlen : xs.length ≤ 1000000) (hHA : HA.Sublist G) :
  Cs ⟨Tryz.prog, w0, ds0, out0⟩ 105 #[.agg x.cells.toArray, y.v, .pointer (some ⟨bso, 0, none⟩), .pointer (some ⟨bl, 0, none⟩)] ((bl, CB [.slice a xs.length cap] 167) :: (bso, CB [.func (.func fid) first.toArray caps.toArray] 99) :: (G ++ Hr)) fun v Hn => v = .tuple #[] ∧ ∃ a' cap' Hr', NewRow 118 2 (addX p xs x y).length (wRow (addX p xs x y)) (.slice a' (addX p xs x y).length cap') Hr' ∧ Hn = (bl, CB [.slice a' (addX p xs x y).length cap'] 167) :: (bso, CB [.func (.func fid) first.toArray caps.toArray] 99) :: (G ++ Hr') := by
 have hF := wide_wide
 refine Cs_start (args := [_, _, _, _]) Tryz.func105 rf Tryz.ntmps105 rf ?_
 refine zR fun ds => ?_
 refine WS_new hF rf (y_box rf) (fun b1 => ?_)
 refine WS_new hF rf (y_box rf) (fun b2 => ?_)
 refine zP fun ds => ?_
 refine zD hF (y_load1 rf Tryz.isAgg99 (Mem.own1 3 rf rf)) ?_
 refine zD hF (y_loadN rf Tryz.isAgg106 Tryz.sizeOf106 (Mem.own (us := [.int .i64 _, .int .i64 _, .int .i64 _, .int .i64 _]) 1 rf rf) rf) ?_
 refine zD hF (y_callL (first := first) (captured := caps) rf rf hA.enter (fun w hw => hA.call x hq _ _ w rfl (hHA.trans sbA) hw)) ?_
 refine zN ?_
 refine W_cond rf (fun c1 => ?_) (fun c1 => ?_)
 ·
  try simp only [qz1, qz2, qz3, qz4, qz5, qz6, qz7, qz8] at c1
  refine W_region_lit (fun ds => ?_)
  refine zD hF (y_load1 rf Tryz.isAgg167 (Mem.own1 2 rf rf)) ?_
  refine zD hF (y_loadN rf Tryz.isAgg118 Tryz.sizeOf118 (Mem.own (us := [.slice _ _ _, .int .i64 _]) 0 rf rf) rf) ?_
  refine WS_newS hF rf (y_buildSliceL bs167_1_0 rf) (fun b3 => ?_)
  refine WS_appendN hF (H1 := (_ :: _ :: _ :: _ :: _ :: (G))) (Hn := Hr) rf rf rf Tryz.underlying167 infWay rf rf hrow (rowOf_len wl_len _ _) (.inr ⟨_, _, rfl, Mem.own (us := [.slice _ _ _, .int _ _]) 0 rf rf⟩) rf rf om0 om0 om0 ?_
  intro a3 cap3 H3 hr3
  refine WS_store hF (i := 3) rf rf Tryz.sizeOf167 rf rf rf d20 ?_
  refine WS_nil ?_
  refine Fin_norm [] ((bl, _) :: (bso, _) :: (G ++ H3)) Tryz.results105 trivial (HSub.sub sbA) ?_
  rw [show addX p xs x y = xs ++ [y] from if_pos c1, wRow_snoc, List.length_append]
  exact ⟨rfl, a3, cap3, H3, hr3, rfl⟩
 ·
  try simp only [qz1, qz2, qz3, qz4, qz5, qz6, qz7, qz8] at c1
  refine W_skip ?_
  refine Fin_norm [] ((bl, _) :: (bso, _) :: (G ++ Hr)) Tryz.results105 trivial (HSub.sub sbA) ?_
  rw [show addX p xs x y = xs from if_neg (by simp [c1])]
  exact ⟨rfl, a, cap, Hr, hrow, rfl⟩
structure FwI (c : Cn) (p : Co → Bool) (l : List (EntK Co)) (HX : List Blk) (seen : Array Nat) (xs : List Wl) : Prop where
 snd : ∀ y ∈ xs, ∃ k, p k = true ∧ c.Best y.w k ∧ y.RdH HX
 cmp : ∀ e ∈ l, e.2.2 ∈ seen → p e.1 = true → ∃ y ∈ xs, c.Best y.w e.1
 len : xs.length + leftL l seen ≤ l.length
theorem FwI.nil (c : Cn) (p : Co → Bool) (l : List (EntK Co)) (HX : List Blk) : FwI c p l HX #[] [] := ⟨fun y h => (by cases h), fun e _ h => (by simp at h), (by rw [List.length_nil, Nat.zero_add]; exact List.length_filter_le _ _)⟩
theorem FwI.step {c : Cn} {p : Co → Bool} {l : List (EntK Co)} {HX : List Blk} {seen : Array Nat} {xs : List Wl} (h : FwI c p l HX seen xs) {k : Co} {y : Wl} {bn : Nat} (hy : (k, y.v, bn) ∈ l) (hb : (l.map (·.2.2)).Nodup) (hns : bn ∉ seen) (hbst : c.Best y.w k) (hr : y.RdH HX) :
  FwI c p l HX (seen.push bn) (addX p xs k y) := by
 have hlt := leftL_lt (l := l) (seen := seen) (y := (k, y.v, bn)) hy hns
 unfold addX
 refine ⟨fun z hz => ?_, fun e he hs hp => ?_, ?_⟩
 ·split at hz
  ·rename_i hp
   rcases List.mem_append.1 hz with hz | hz
   ·exact h.snd z hz
   ·simp only [List.mem_singleton] at hz; subst hz; exact ⟨k, hp, hbst, hr⟩
  ·exact h.snd z hz
 ·rcases Array.mem_push.1 hs with hs | hs
  ·obtain ⟨z, hz, hzv⟩ := h.cmp e he hs hp
   refine ⟨z, ?_, hzv⟩
   split
   ·exact List.mem_append_left _ hz
   ·exact hz
  ·have : ∀ {l : List (EntK Co)}, (l.map (·.2.2)).Nodup → e ∈ l → (k, y.v, bn) ∈ l → e = (k, y.v, bn) := by
    intro l
    induction l with
    | nil => intro _ h; cases h
    | cons z l ih =>
     intro hn a1 a2
     rw [List.map_cons, List.nodup_cons] at hn
     rcases List.mem_cons.1 a1 with e1 | e1
     ·rcases List.mem_cons.1 a2 with e2 | e2
      ·rw [e1, e2]
      ·exact absurd (List.mem_map.2 ⟨_, e2, by rw [← e1]; exact hs.symm⟩) hn.1
     ·rcases List.mem_cons.1 a2 with e2 | e2
      ·exact absurd (List.mem_map.2 ⟨_, e1, by rw [← e2]; exact hs⟩) hn.1
      ·exact ih hn.2 e1 e2
   have he := this hb he hy
   subst he
   rw [if_pos hp]
   exact ⟨y, List.mem_append_right _ (List.mem_singleton.2 rfl), hbst⟩
 ·have := h.len
  split
  ·rw [List.length_append, List.length_singleton]
   change xs.length + 1 + leftL l (seen.push bn) ≤ l.length
   change leftL l (seen.push bn) < leftL l seen at hlt
   omega
  ·change leftL l (seen.push bn) < leftL l seen at hlt
   omega
theorem FwI.few {c : Cn} {p : Co → Bool} {l : List (EntK Co)} {ck : Nat} {HX : List Blk} {seen : Array Nat} {xs : List Wl} (h : FwI c p l HX seen xs) (hT : Tab HX l c.bestO) (hov : ∀ x ∈ l, x.2.2 ∈ seen) {k : Co} {v : Wy} (hp : p k = true) (hb : c.Best v k) : ∃ y ∈ xs, y.w = v := by
 obtain ⟨e, he, rfl⟩ := hT.has (Cn.bestO_iff.2 hb)
 obtain ⟨y, hy, hyb⟩ := h.cmp e he (hov e he) hp
 exact ⟨y, hy, hyb.uniq hb⟩
structure FewV (c : Cn) (p : Co → Bool) (HX : List Blk) (x : Wl) (b : Bool) : Prop where
 rd : x.RdH HX
 yes : b = true → (∃ k, p k = true ∧ c.Best x.w k) ∧ ∀ k v, p k = true → c.Best v k → v.lt x.w = false
 no : b = false → x = Wl.z ∧ ∀ k v, p k = true → ¬ c.Best v k
theorem fewest_cs (w0 : World) (ds0 out0 : List Deferred) (mk ck : Nat) (l : List (EntK Co)) (c : Cn) (HX : List Blk) (fid : FuncId) (first caps : List Value) (p : Co → Bool) (hg : GoodM l ck) (hT : Tab HX l c.bestO) (HA : List Blk) (hA : AimOk Tryz.prog w0 HA fid first caps c.In p) (hHA : HA.Sublist HX) (hok : c.Ok) :
  Cs ⟨Tryz.prog, w0, ds0, out0⟩ 66 #[.map (some mk), .func (.func fid) first.toArray caps.toArray] ((mk, MK encC l ck) :: HX) fun v Hn => ∃ (x : Wl) (b : Bool), v = .tuple #[x.v, .bool b] ∧ FewV c p HX x b ∧ Hn = (mk, MK encC l ck) :: HX := by
 have hln := good_len hok hg hT
 have hF := wide_wide
 refine Cs_start (args := [_, _]) Tryz.func66 rf Tryz.ntmps66 rf ?_
 refine zR fun ds => ?_
 refine WS_new hF rf (y_box rf) (fun bso => ?_)
 refine WS_new hF rf (y_alloc Tryz.zeroValue118 rf) (fun b4 => ?_)
 refine za (.bool _) hF ?_
 refine zP fun ds => ?_
 refine WS_new hF rf (y_alloc Tryz.zeroValue167 rf) (fun bl => ?_)
 refine zP fun ds => ?_
 refine zD hF (y_makeFuncL rf rf) ?_
 refine za (_) hF ?_
 refine zO ?_
 refine zR fun ds => ?_
 refine zm (.map _) hF ?_
 refine WS_pull (bso, _) zu ?_
 refine WS_pull (bl, _) zu ?_
 refine WS_new hF rf (y_rangeK (enc := encC) (i := 3) rf Tryz.underlying94 rf) (fun it => ?_)
 refine zN ?_
 refine W_block ?_
 refine W_loop (γ := Array Nat × Nat × List Wl × Option Addr × Nat × List Blk) (fun q => FwI c p l HX q.1 q.2.2.1 ∧ ck ≤ q.2.1 ∧ NewRow 118 2 q.2.2.1.length (wRow q.2.2.1) (.slice q.2.2.2.1 q.2.2.1.length q.2.2.2.2.1) q.2.2.2.2.2) (fun q => [(4, .pointer (some ⟨b4, 0, none⟩)), (6, .pointer (some ⟨bl, 0, none⟩)), (7, .func (.func 105) #[] #[.pointer (some ⟨bso, 0, none⟩), .pointer (some ⟨bl, 0, none⟩)]), (12, .pointer (some ⟨it, 0, none⟩))]) (fun q => (it, .mapIter (some mk) ck q.1 q.2.1) :: (bl, CB [.slice q.2.2.2.1 q.2.2.1.length q.2.2.2.2.1] 167) :: (bso, CB [.func (.func fid) first.toArray caps.toArray] 99) :: (b4, CB [.slice none 0 0, .int .i64 0] 118) :: (mk, MK encC l ck) :: (HX ++ q.2.2.2.2.2)) (fun q => leftL l q.1) ((#[], ck, [], none, 0, [])) ⟨FwI.nil c p l HX, Nat.le_refl _, ⟨none, 0, rfl, Nat.le_refl _, .inr ⟨rfl, rfl, rfl⟩⟩⟩ s10 ((by simp only [List.append_nil]; exact sbA)) ?_
 rintro ⟨seen, c0, xs, a, cap, Hr⟩ e ⟨hI, hc0, hrow⟩
 refine zR fun ds => ?_
 refine WS_nextK hF (enc := encC) (i := 0) (j := 4) rf rf rf rf hg.old hc0 (fun hov => ?_) (fun y hy hns => ?_)
 ·
  have hlx : xs.length + leftL l seen ≤ l.length := hI.len
  refine zD hF (y_extract (c := .bool _) rf rf) ?_
  refine zO ?_
  refine W_cond rf (fun c4 => ?_) (fun c4 => ?_)
  ·cases c4
  ·
   try simp only [qz1, qz2, qz3, qz4, qz5, qz6, qz7, qz8] at c4
   refine W_exit ?_
   refine Then_exit ?_
   refine Loop_exit ?_
   refine InB_same ?_
   refine Then_normal ?_
   refine W_seq ?_
   refine zR fun ds => ?_
   refine zD hF (y_load1 rf Tryz.isAgg167 (Mem.own1 1 rf rf)) ?_
   refine zD hF (y_len rf Tryz.runUnderlying167) ?_
   refine zD hF (y_eql rf rf) ?_
   refine zN ?_
   refine W_cond rf (fun c7 => ?_) (fun c7 => ?_)
   ·
    try simp only [qz1, qz2, qz3, qz4, qz5, qz6, qz7, qz8] at c7
    refine zR fun ds => ?_
    refine zD hF (y_buildL bd118 rf) ?_
    refine WS_store hF (i := 3) rf rf Tryz.sizeOf118 rf rf rf d20 ?_
    refine za (.bool _) hF ?_
    refine zN ?_
    refine W_ret ?_
    refine Then_ret ?_
    refine Fin_ret [_, .bool _] ((mk, _) :: HX) Tryz.results66 ⟨lvN rf Tryz.isAgg118 Tryz.sizeOf118 (Mem.own (us := [.slice _ _ _, .int .i64 _]) 3 rf rf) rf, by rfl, trivial⟩ (HSub.sub sbA) ?_
    have h0 : xs = [] := List.eq_nil_of_length_eq_zero om0
    subst h0
    refine ⟨Wl.z, false, rfl, ⟨Wl.RdH.z HX, fun h => (by cases h), fun _ => ⟨rfl, fun k v hk hv => ?_⟩⟩, rfl⟩
    obtain ⟨y, hy, _⟩ := hI.few (ck := ck) hT hov hk hv
    cases hy
   ·
    try simp only [qz1, qz2, qz3, qz4, qz5, qz6, qz7, qz8] at c7
    refine W_skip ?_
    refine zS fun ds => ?_
    refine zD hF (y_load1 rf Tryz.isAgg167 (Mem.own1 1 rf rf)) ?_
    refine WS_gen hF rf (y_callL rf rf Tryz.call95 (fun w hw => firstW_any a xs.length cap xs w om0 om0 (NewRow.rws wl_len hrow rfl sbA w hw) (fun y hy => by obtain ⟨_, _, _, hr⟩ := hI.snd y hy; exact hr _ _ w sbA hw))) ?_
    rintro _ HL ⟨fx, hfm, rfl, hfmin⟩
    refine WS_back ?_
    refine WS_store hF (i := 3) rf rf Tryz.sizeOf118 rf rf rf d20 ?_
    refine za (.bool _) hF ?_
    refine zN ?_
    refine W_ret ?_
    refine Fin_ret [_, .bool _] ((mk, _) :: HX) Tryz.results66 ⟨lvN rf Tryz.isAgg118 Tryz.sizeOf118 (Mem.own (us := [.slice _ _ _, .int .i64 _]) 3 rf rf) rf, by rfl, trivial⟩ (HSub.sub sbA) ?_
    obtain ⟨fk, hfp, hfb, hfr⟩ := hI.snd fx hfm
    refine ⟨fx, true, rfl, ⟨hfr, fun _ => ⟨⟨fk, hfp, hfb⟩, fun k v hk hv => ?_⟩, fun h => (by cases h)⟩, rfl⟩
    obtain ⟨y, hy, rfl⟩ := hI.few (ck := ck) hT hov hk hv
    exact hfmin y hy
 ·
  obtain ⟨xk, v, bn⟩ := y
  obtain ⟨y, hvy, hyl, hyr⟩ := hT.mem hg hy
  change v = y.v at hvy
  subst hvy
  have hyb : c.Best y.w xk := Cn.bestO_iff.1 hyl
  have hq := (hyb.way.in hok).1
  have hlx : xs.length + leftL l seen ≤ l.length := hI.len
  refine zD hF (y_extract (c := .bool _) rf rf) ?_
  refine zO ?_
  refine W_cond rf (fun c4 => ?_) (fun c4 => ?_)
  ·
   try simp only [qz1, qz2, qz3, qz4, qz5, qz6, qz7, qz8] at c4
   refine zU ?_
   refine W_block ?_
   refine zR fun ds => ?_
   refine zD hF (y_entryK (enc := encC) (y := (xk, y.v, bn)) (i := 0) (j := 4) rf rf rf hy hg.born) ?_
   refine zD hF (y_extract (c := .agg _) rf rf) ?_
   refine zD hF (y_extract (c := .agg _) rf rf) ?_
   refine WS_new hF rf (y_alloc Tryz.zeroValue106 rf) (fun b8 => ?_)
   refine WS_new hF rf (y_alloc Tryz.zeroValue118 rf) (fun b9 => ?_)
   refine WS_store hF (i := 1) rf rf Tryz.sizeOf106 rf rf rf d20 ?_
   refine WS_store hF (i := 0) rf rf Tryz.sizeOf118 rf rf rf d20 ?_
   refine zQ fun ds => ?_
   refine zm (_) hF ?_
   refine zD hF (y_loadN rf Tryz.isAgg106 Tryz.sizeOf106 (Mem.own (us := [.int .i64 _, .int .i64 _, .int .i64 _, .int .i64 _]) 1 rf rf) rf) ?_
   refine zD hF (y_loadN rf Tryz.isAgg118 Tryz.sizeOf118 (Mem.own (us := [.slice _ _ _, .int .i64 _]) 0 rf rf) rf) ?_
   refine WS_pull (bso, _) zu ?_
   refine WS_pull (bl, _) zu ?_
   refine WS_callS hF rf rf rf Tryz.call105 (add_cs _ _ _ bso bl fid first caps c.In p HA hA xk hq y xs a cap (_ :: _ :: _ :: _ :: _ :: HX) Hr hrow om0 (hHA.trans sbA)) ?_
   rintro _ _ ⟨rfl, a2, cap2, Hr2, hrow2, rfl⟩
   refine WS_pull (it, _) zu ?_
   refine WS_nil ?_
   refine InB_normal ?_
   exact Loop_next (seen.push bn, ck, addX p xs xk y, a2, cap2, Hr2) ⟨hI.step hy hg.born hns hyb hyr, Nat.le_refl _, hrow2⟩ s10 sbA (leftL_lt hy hns)
  ·cases c4
def Cn.someP (c : Cn) (n : Int) (x : Co) : Bool := decide (n ∈ (c.of x).inn)
def totP (n : Int) (x : Co) : Bool := decide (x.b + x.c + x.d = n)
def Cn.bothP (c : Cn) (want : List Int) (x : Co) : Bool := (List.range want.length).all fun k => decide (want.getD k 0 < 0 ∨ (c.of x).i k = want.getD k 0)
def Cn.IsFew (c : Cn) (p : Co → Bool) (w : Wy) : Prop := (∃ k, p k = true ∧ c.Best w k) ∧ ∀ k v, p k = true → c.Best v k → v.lt w = false
open Classical in
noncomputable def Cn.few (c : Cn) (p : Co → Bool) : Option Wy := if h : ∃ w, c.IsFew p w then some h.choose else none
theorem Cn.IsFew.uniq {c : Cn} {p : Co → Bool} {w v : Wy} (h : c.IsFew p w) (h' : c.IsFew p v) : w = v := by
 obtain ⟨⟨k, h1, h2⟩, h3⟩ := h
 obtain ⟨⟨k', h1', h2'⟩, h3'⟩ := h'
 exact Wy.tot (h3' k w h1 h2) (h3 k' v h1' h2')
theorem Cn.few_some {c : Cn} {p : Co → Bool} {w : Wy} (h : c.IsFew p w) : c.few p = some w := by
 unfold Cn.few
 have hx : ∃ w, c.IsFew p w := ⟨w, h⟩
 rw [dif_pos hx, hx.choose_spec.uniq h]
theorem Cn.few_none {c : Cn} {p : Co → Bool} (h : ∀ k v, p k = true → ¬ c.Best v k) : c.few p = none := by
 unfold Cn.few
 rw [dif_neg]
 rintro ⟨w, ⟨k, h1, h2⟩, _⟩
 exact h k w h1 h2
theorem Cn.few_of {c : Cn} {p : Co → Bool} {w : Wy} (h : c.few p = some w) : c.IsFew p w := by
 unfold Cn.few at h
 split at h
 ·rename_i hx; cases h; exact hx.choose_spec
 ·cases h
def fewL (o : Option Wy) : List Po := match o with | some w => w.l | none => []
def fewB (o : Option Wy) : Int := match o with | some w => w.back | none => 0
def fewE (o : Option Wy) : Int := match o with | some _ => 0 | none => 6
theorem FewV.yes' {c : Cn} {p : Co → Bool} {HX : List Blk} {x : Wl} {b : Bool} (h : FewV c p HX x b) (hb : b = true) : c.few p = some x.w := Cn.few_some (h.yes hb)
theorem FewV.no' {c : Cn} {p : Co → Bool} {HX : List Blk} {x : Wl} {b : Bool} (h : FewV c p HX x b) (hb : b = false) : x = Wl.z ∧ c.few p = none := ⟨(h.no hb).1, Cn.few_none (h.no hb).2⟩
def TwinP (l : List Po) (v : Value) (Hn : List Blk) : Prop := ∃ a k, v = .slice a l.length k ∧ ∀ (C : Ctx) (H : List Blk) (w : World), Hn.Sublist H → St C H w → Pos w a l.length k l
theorem TwinP.nil (Hn : List Blk) : TwinP [] (.slice none 0 0) Hn := ⟨none, 0, rfl, fun C H w _ _ => Rws.nil _ _ _⟩
def AimV (o : Option Wy) (v : Value) (Hn : List Blk) : Prop := ∃ v0, v = .tuple #[v0, .int .i64 (fewB o), .int .i64 (fewE o)] ∧ TwinP (fewL o) v0 Hn
def FewK (p : Co → Bool) (xs : List (Co × Wy)) (k : Nat) (b : Bool) (i : Nat) : Prop :=
 if b then i < k ∧ (∃ z : Co × Wy, xs[i]? = some z ∧ p z.1 = true ∧ ∀ (j : Nat) (y : Co × Wy), j < k → xs[j]? = some y → p y.1 = true → y.2.lt z.2 = false)
 else ∀ (j : Nat) (y : Co × Wy), j < k → xs[j]? = some y → p y.1 = false
theorem FewK.zero (p : Co → Bool) (xs : List (Co × Wy)) : FewK p xs 0 false 0 := fun j y h => absurd h (Nat.not_lt_zero _)
theorem FewK.skip {p : Co → Bool} {xs : List (Co × Wy)} {k i : Nat} {b : Bool} {z : Co × Wy} (h : FewK p xs k b i) (hz : xs[k]? = some z) (hp : p z.1 = false) : FewK p xs (k + 1) b i := by
 unfold FewK at h ⊢
 cases b
 ·intro j y hj hy
  by_cases he : j = k
  ·subst he; rw [hz] at hy; cases hy; exact hp
  ·exact h j y om0 hy
 ·obtain ⟨h1, z', h2, h3, h4⟩ := h
  refine ⟨by omega, z', h2, h3, fun j y hj hy hpy => ?_⟩
  by_cases he : j = k
  ·subst he; rw [hz] at hy; cases hy; rw [hp] at hpy; cases hpy
  ·exact h4 j y om0 hy hpy
theorem FewK.fst {p : Co → Bool} {xs : List (Co × Wy)} {k i : Nat} {z : Co × Wy} (h : FewK p xs k false i) (hz : xs[k]? = some z) (hp : p z.1 = true) : FewK p xs (k + 1) true k := by
 refine ⟨Nat.lt_succ_self _, z, hz, hp, fun j y hj hy hpy => ?_⟩
 by_cases he : j = k
 ·subst he; rw [hz] at hy; cases hy; exact Wy.lt_irrefl _
 ·have := h j y om0 hy
  rw [hpy] at this; cases this
theorem FewK.take {p : Co → Bool} {xs : List (Co × Wy)} {k i : Nat} {z u : Co × Wy} (h : FewK p xs k true i) (hi : xs[i]? = some u) (hz : xs[k]? = some z) (hp : p z.1 = true) (hl : z.2.lt u.2 = true) : FewK p xs (k + 1) true k := by
 obtain ⟨h1, z', h2, h3, h4⟩ := h
 rw [hi] at h2
 cases h2
 refine ⟨Nat.lt_succ_self _, z, hz, hp, fun j y hj hy hpy => ?_⟩
 by_cases he : j = k
 ·subst he; rw [hz] at hy; cases hy; exact Wy.lt_irrefl _
 ·cases hlt : y.2.lt z.2 with
  | false => rfl
  | true => have := h4 j y om0 hy hpy; rw [Wy.lt_trans hlt hl] at this; exact this
theorem FewK.keep {p : Co → Bool} {xs : List (Co × Wy)} {k i : Nat} {z u : Co × Wy} (h : FewK p xs k true i) (hi : xs[i]? = some u) (hz : xs[k]? = some z) (hl : z.2.lt u.2 = false) : FewK p xs (k + 1) true i := by
 obtain ⟨h1, z', h2, h3, h4⟩ := h
 rw [hi] at h2
 cases h2
 refine ⟨by omega, u, hi, h3, fun j y hj hy hpy => ?_⟩
 by_cases he : j = k
 ·subst he; rw [hz] at hy; cases hy; exact hl
 ·exact h4 j y om0 hy hpy
def wbetB (a b : Wy) : Bool := decide (a.back < b.back) || (decide (a.back = b.back) && plt a.l b.l)
theorem Cn.Rcd.mono {c : Cn} {xs : List (Co × Wy)} (hR : c.Rcd xs) {i k : Nat} {a b : Co × Wy} (hik : i < k) (hi : xs[i]? = some a) (hk : xs[k]? = some b) : a.2.l.length ≤ b.2.l.length := by
 obtain ⟨h1, e1⟩ := List.getElem?_eq_some_iff.1 hi
 obtain ⟨h2, e2⟩ := List.getElem?_eq_some_iff.1 hk
 have := List.pairwise_iff_getElem.1 hR.srt i k h1 h2 hik
 rw [e1, e2] at this
 exact this
def sumL : List Int → Int
 | [] => 0
 | x :: l => x + sumL l
def sumTo (xs : List Int) (k : Nat) : Int := sumL (xs.take k)
theorem sumL_app (l m : List Int) : sumL (l ++ m) = sumL l + sumL m := by
 induction l with
 | nil => simp [sumL]
 | cons x l ih => simp only [List.cons_append, sumL, ih]; omega
theorem sumTo_succ {xs : List Int} {k : Nat} (h : k < xs.length) : sumTo xs (k + 1) = sumTo xs k + xs.getD k 0 := by
 unfold sumTo
 rw [List.take_add_one, sumL_app]
 simp [h, sumL, List.getD_eq_getElem?_getD]
theorem Cn.sum_of {c : Cn} (hok : c.Ok) {x : Co} (hx : c.In x) : sumL (c.of x).inn = x.b + x.c + x.d := by
 have h1 := hok.n1
 have h3 := hok.n3
 have z2 : c.n < 2 → x.c = 0 := fun hn => hx.z 2 hn dc
 have z3 : c.n < 3 → x.d = 0 := fun hn => hx.z 3 hn dc
 unfold Cn.of
 simp only
 obtain h | h | h : c.n = 1 ∨ c.n = 2 ∨ c.n = 3 := by omega
 ·have := z2 om0; have := z3 om0
  rw [h]; simp [sumL]; omega
 ·have := z3 om0
  rw [h]; simp [sumL]; omega
 ·rw [h]; simp [sumL]; omega
def kyT (xs : List Int) (k : Nat) : Int := kyL 0 (xs.take k)
def pcmp : List Po → List Po → Nat → Prop := fun l m k => plt (l.drop k) (m.drop k) = plt l m
structure Rl where
 x : Co
 w : Wy
 s : Option Addr
 ks : Nat
 i : Option Addr
 ki : Nat
 l : Option Addr
 kl : Nat
def Rl.z : Rl := ⟨Co.z, ⟨[], 0⟩, none, 0, none, 0, none, 0⟩
def Rl.cells (c : Cn) (r : Rl) : List Value := [.slice r.s c.n r.ks, .slice r.i (c.of r.x).inn.length r.ki, .int .i64 r.x.a, .slice r.l r.w.l.length r.kl, .int .i64 r.w.back]
theorem rl_len (c : Cn) : ∀ r, (Rl.cells c r).length = 5 := fun _ => rfl
def Rl.zz (r : Rl) : Co × Wy := (r.x, r.w)
structure Rl.RdH (c : Cn) (HH : List Blk) (r : Rl) : Prop where
 s : ∀ (C : Ctx) (H : List Blk) (w : World), HH.Sublist H → St C H w → Ints w r.s c.n r.ks c.sz
 i : ∀ (C : Ctx) (H : List Blk) (w : World), HH.Sublist H → St C H w → Ints w r.i (c.of r.x).inn.length r.ki (c.of r.x).inn
 p : ∀ (C : Ctx) (H : List Blk) (w : World), HH.Sublist H → St C H w → Pos w r.l r.w.l.length r.kl r.w.l
theorem Rl.RdH.mono {c : Cn} {HH HH' : List Blk} {r : Rl} (h : r.RdH c HH) (hs : HH.Sublist HH') : r.RdH c HH' :=
 ⟨fun C H w h2 hw => h.s C H w (hs.trans h2) hw, fun C H w h2 hw => h.i C H w (hs.trans h2) hw, fun C H w h2 hw => h.p C H w (hs.trans h2) hw⟩
theorem Rl.RdH.new {c : Cn} {HH H1 H2 H3 : List Blk} {r : Rl} (h1 : NewRow 3 1 c.n (iv c.sz) (.slice r.s c.n r.ks) H1) (h2 : NewRow 3 1 (c.of r.x).inn.length (iv (c.of r.x).inn) (.slice r.i (c.of r.x).inn.length r.ki) H2)
  (h3 : NewRow 47 2 r.w.l.length (rowOf Po.cells (fun k => r.w.l.getD k Po.z) r.w.l.length) (.slice r.l r.w.l.length r.kl) H3) (s1 : H1.Sublist HH) (s2 : H2.Sublist HH) (s3 : H3.Sublist HH) : r.RdH c HH :=
 ⟨fun C H w h hw => NewRow.ints h1 rfl (s1.trans h) w hw, fun C H w h hw => NewRow.ints h2 rfl (s2.trans h) w hw, fun C H w h hw => NewRow.rws po_len h3 rfl (s3.trans h) w hw⟩
def rRow (c : Cn) (rs : List Rl) : List Value := rowOf (Rl.cells c) (fun k => rs.getD k Rl.z) rs.length
theorem rRow_len (c : Cn) (rs : List Rl) : (rRow c rs).length = rs.length * 5 := rowOf_len (rl_len c) _ _
structure RcG where
 k : Nat
 P : Co → Wy → Prop
 look : Co → Option Wy
 rs : List Rl
 ks : List Int
 bo : Nat
 cap : Nat
 junk : List Value
 HX : List Blk
structure RcS (c : Cn) (n fr en i : Nat) (q : RcG) : Prop where
 rc : c.RcI n fr en q.P q.look (q.rs.map Rl.zz) q.ks
 rd : ∀ r ∈ q.rs, r.RdH c q.HX
 len : (rRow c q.rs ++ q.junk).length = q.cap * 5
 cap : q.rs.length ≤ q.cap
 dn : ∀ (j : Nat) (z : Co × Wy), fr ≤ j → j < i → (q.rs.map Rl.zz)[j]? = some z → c.Dn n q.P z.1 z.2 (c.ps z.1).length
structure RcR (c : Cn) (n fr en i : Nat) (r : Rl) (J : Nat) (q : RcG) : Prop where
 s : RcS c n fr en i q
 e : q.rs[i]? = some r
 fi : fr ≤ i
 ie : i < en
 d : c.Dn n q.P r.x r.w (c.psJ r.x J).length
theorem zz_at {rs : List Rl} {i : Nat} {r : Rl} (h : rs[i]? = some r) : (rs.map Rl.zz)[i]? = some (r.x, r.w) := by rw [List.getElem?_map, h]; rfl
theorem zz_of {rs : List Rl} {i : Nat} {z : Co × Wy} (h : (rs.map Rl.zz)[i]? = some z) : ∃ r, rs[i]? = some r ∧ r.x = z.1 ∧ r.w = z.2 := by
 rw [List.getElem?_map] at h
 obtain ⟨r, h1, rfl⟩ := Option.map_eq_some_iff.1 h
 exact ⟨r, h1, rfl, rfl⟩
theorem RcS.bd {c : Cn} (hok : c.Ok) {n fr en i : Nat} {q : RcG} (h : RcS c n fr en i q) : q.rs.length ≤ 9261 := by
 have := h.rc.tb.bd hok
 rwa [List.length_map] at this
theorem RcS.ent {c : Cn} {n fr en i : Nat} {q : RcG} (h : RcS c n fr en i q) (hi : i < en) (hf : fr ≤ i) : ∃ r, q.rs[i]? = some r ∧ RcR c n fr en i r 0 q := by
 have he := h.rc.enl
 rw [List.length_map] at he
 exact ⟨_, List.getElem?_eq_getElem om0, h, List.getElem?_eq_getElem om0, hf, hi, fun j hj => absurd hj (by simp [Cn.psJ])⟩
theorem RcR.lv {c : Cn} {n fr en i J : Nat} {r : Rl} {q : RcG} (h : RcR c n fr en i r J q) : c.Lv n r.w r.x := by
 obtain ⟨h1, _, h3⟩ := h.s.rc.best i _ h.ie (zz_at h.e)
 exact ⟨h1, h3 h.fi⟩
theorem RcR.fin {c : Cn} {n fr en i : Nat} {r : Rl} {q : RcG} (h : RcR c n fr en i r ((c.n + 1) * (c.n + 1)) q) (k : Nat) : RcS c n fr en (i + 1) { q with k := k } := by
 refine ⟨h.s.rc, h.s.rd, h.s.len, h.s.cap, fun j z h1 h2 h3 => ?_⟩
 by_cases hj : j = i
 ·subst hj
  have := zz_at h.e
  change (List.map Rl.zz q.rs)[j]? = some z at h3
  rw [this] at h3
  cases h3
  exact h.d
 ·exact h.s.dn j z h1 om0 h3
theorem RcR.skip {c : Cn} {n fr en i J : Nat} {r : Rl} {q : RcG} (h : RcR c n fr en i r J q) (k : Nat) (hp : ¬ c.pE r.x (pA c.n J) = 0) : RcR c n fr en i r (J + 1) { q with k := k } :=
 ⟨⟨h.s.rc, h.s.rd, h.s.len, h.s.cap, h.s.dn⟩, h.e, h.fi, h.ie, by rw [Cn.psJ_no hp]; exact h.d⟩
theorem RcR.nxt {c : Cn} {n fr en i J : Nat} {r : Rl} {q : RcG} (h : RcR c n fr en i r J q) (hJ : J < (c.n + 1) * (c.n + 1)) (hp : c.pE r.x (pA c.n J) = 0) (q' : RcG) (hP : q'.P = addP q.P (c.stp r.x (pA c.n J)) (c.nx r.w r.x (pA c.n J)))
  (hrc : c.RcI n fr en q'.P q'.look (q'.rs.map Rl.zz) q'.ks) (hrd : ∀ r ∈ q'.rs, r.RdH c q'.HX) (hlen : (rRow c q'.rs ++ q'.junk).length = q'.cap * 5) (hcap : q'.rs.length ≤ q'.cap) (hsame : ∀ j, j < en → q'.rs[j]? = q.rs[j]?) : RcR c n fr en i r (J + 1) q' := by
 obtain ⟨_, h2⟩ := Cn.ps_at hJ hp
 have hm : ∀ y v, q.P y v → q'.P y v := fun y v h => by rw [hP]; exact .inl h
 refine ⟨⟨hrc, hrd, hlen, hcap, fun j z h1 h2 h3 => ?_⟩, by rw [hsame i h.ie]; exact h.e, h.fi, h.ie, ?_⟩
 ·rw [List.getElem?_map, hsame j (by have := h.ie; omega), ← List.getElem?_map] at h3
  have := h.s.dn j z h1 h2 h3
  exact fun t ht hn => hm _ _ (this t ht hn)
 ·rw [Cn.psJ_yes hp, List.length_append, List.length_singleton]
  exact h.d.step hm fun hn => by rw [hP, h2]; exact .inr ⟨rfl, rfl⟩
theorem RcR.push {c : Cn} (hok : c.Ok) {n fr en i J : Nat} {r y : Rl} {q : RcG} (h : RcR c n fr en i r J q) {p : Po} (hpA : pA c.n J = p) (hJ : J < (c.n + 1) * (c.n + 1)) (hp : c.pE r.x (p) = 0) (hk : q.ks.getD (c.ky (c.stp r.x (p))).toNat 0 = 0)
  (hyx : y.x = c.stp r.x (p)) (hyw : y.w = c.nx r.w r.x (p)) {HX : List Blk} (hs : q.HX.Sublist HX) (hy : y.RdH c HX) (k bo : Nat) {cap : Nat} {junk : List Value} (hlen : (rRow c (q.rs ++ [y]) ++ junk).length = cap * 5) (hcap : q.rs.length + 1 ≤ cap) :
  RcR c n fr en i r (J + 1) ⟨k, addP q.P (c.stp r.x (p)) (c.nx r.w r.x (p)), addL q.look (c.stp r.x (p)) (c.nx r.w r.x (p)), q.rs ++ [y], q.ks.set (c.ky (c.stp r.x (p))).toNat ((q.rs.length : Int) + 1), bo, cap, junk, HX⟩ := by
 subst hpA
 refine h.nxt hJ hp _ rfl ?_ (fun z hz => ?_) hlen (by simpa using hcap) fun j hj => ?_
 ·have := h.s.rc.push hok h.lv hp hk
  rw [List.length_map] at this
  simp only [List.map_append, List.map_cons, List.map_nil]
  rw [show y.zz = (c.stp r.x (pA c.n J), c.nx r.w r.x (pA c.n J)) by unfold Rl.zz; rw [hyx, hyw]]
  exact this
 ·rcases List.mem_append.1 hz with hz | hz
  ·exact (h.s.rd z hz).mono hs
  ·simp only [List.mem_singleton] at hz; subst hz; exact hy
 ·have he := h.s.rc.enl
  rw [List.length_map] at he
  exact List.getElem?_append_left om0
theorem set_same {α : Type} {l : List α} {j : Nat} {a : α} (h : l[j]? = some a) : l.set j a = l := by
 obtain ⟨hj, rfl⟩ := List.getElem?_eq_some_iff.1 h
 exact List.set_getElem_self hj
theorem RcR.keep {c : Cn} {n fr en i J j : Nat} {r : Rl} {u : Wy} {q : RcG} (h : RcR c n fr en i r J q) {p : Po} (hpA : pA c.n J = p) (hJ : J < (c.n + 1) * (c.n + 1)) (hp : c.pE r.x (p) = 0) (hj : (q.rs.map Rl.zz)[j]? = some (c.stp r.x (p), u)) (hje : en ≤ j) (hl : q.look (c.stp r.x (p)) = some u) (hkn : ¬ c.Kn n (c.stp r.x (p)))
  (hlt : (c.nx r.w r.x (p)).lt u = false) (k : Nat) :
  RcR c n fr en i r (J + 1) ⟨k, addP q.P (c.stp r.x (p)) (c.nx r.w r.x (p)), addL q.look (c.stp r.x (p)) (c.nx r.w r.x (p)), q.rs, q.ks, q.bo, q.cap, q.junk, q.HX⟩ := by
 subst hpA
 refine h.nxt hJ hp _ rfl ?_ h.s.rd h.s.len h.s.cap fun _ _ => rfl
 have := h.s.rc.upd h.lv hp hj hje hl hkn
 rw [show pickW (some u) (c.nx r.w r.x (pA c.n J)) = u by unfold pickW; simp [hlt], set_same hj] at this
 exact this
theorem RcR.upd {c : Cn} {n fr en i J j : Nat} {r y : Rl} {u : Wy} {q : RcG} (h : RcR c n fr en i r J q) {p : Po} (hpA : pA c.n J = p) (hJ : J < (c.n + 1) * (c.n + 1)) (hp : c.pE r.x (p) = 0) (hj : (q.rs.map Rl.zz)[j]? = some (c.stp r.x (p), u)) (hje : en ≤ j) (hl : q.look (c.stp r.x (p)) = some u) (hkn : ¬ c.Kn n (c.stp r.x (p)))
  (hlt : (c.nx r.w r.x (p)).lt u = true) (hyx : y.x = c.stp r.x (p)) (hyw : y.w = c.nx r.w r.x (p)) {HX : List Blk} (hs : q.HX.Sublist HX) (hy : y.RdH c HX) (k : Nat) :
  RcR c n fr en i r (J + 1) ⟨k, addP q.P (c.stp r.x (p)) (c.nx r.w r.x (p)), addL q.look (c.stp r.x (p)) (c.nx r.w r.x (p)), q.rs.set j y, q.ks, q.bo, q.cap, q.junk, HX⟩ := by
 subst hpA
 refine h.nxt hJ hp _ rfl ?_ (fun z hz => ?_) ?_ (by rw [List.length_set]; exact h.s.cap) fun t ht => ?_
 ·have := h.s.rc.upd h.lv hp hj hje hl hkn
  rw [show pickW (some u) (c.nx r.w r.x (pA c.n J)) = c.nx r.w r.x (pA c.n J) by unfold pickW; simp [hlt]] at this
  simp only [List.map_set]
  rw [show y.zz = (c.stp r.x (pA c.n J), c.nx r.w r.x (pA c.n J)) by unfold Rl.zz; rw [hyx, hyw]]
  exact this
 ·rcases List.mem_or_eq_of_mem_set hz with hz | rfl
  ·exact (h.s.rd z hz).mono hs
  ·exact hy
 ·have := h.s.len
  rw [List.length_append, rRow_len] at this ⊢
  rw [List.length_set]; exact this
 ·exact List.getElem?_set_ne om0
def Cn.key (c : Cn) (y : Co) : Nat := (c.ky y).toNat
structure AimW (P : Program) (w : World) (fid : FuncId) (first caps : List Value) (Q : Co → Prop) (p : Co → Bool) : Prop where
 enter : ∀ args w, (callFunc fid args).run P w = .ok (.enter fid args) w
 call : ∀ x, Q x → ∀ w', Below w.heap.size w w' → Ct P fid (first ++ (Value.agg x.cells.toArray :: caps)).toArray w' fun v _ => v = .bool (p x)
theorem AimW.st {C : Ctx} {H : List Blk} {fid : FuncId} {first caps : List Value} {Q : Co → Prop} {p : Co → Bool} (h : AimW C.P C.w0 fid first caps Q p) (w : World) (hw : St C H w) : AimW C.P w fid first caps Q p :=
 ⟨h.enter, fun x hx w' hb => h.call x hx w' (hw.1.trans (hb.mono hw.1.size))⟩
def idxF (x : Int) : List Int → Nat → Int
 | [], _ => -1
 | y :: l, k => if x = y then (k : Int) else idxF x l (k + 1)
theorem idxF_step {x : Int} {xs : List Int} {k : Nat} (h : k < xs.length) : idxF x (xs.drop k) k = if x = xs.getD k 0 then (k : Int) else idxF x (xs.drop (k + 1)) (k + 1) := by
 rw [List.drop_eq_getElem_cons h]; simp [idxF, h, List.getD_eq_getElem?_getD]
theorem idxF_mem {x : Int} : ∀ {l : List Int} {k : Nat}, 0 ≤ idxF x l k ↔ x ∈ l
 | [], k => by simp [idxF]
 | y :: l, k => by
  unfold idxF
  by_cases h : x = y
  ·simp [h]
  ·rw [if_neg h, idxF_mem]; simp [h]
theorem indexI_any (a : Option Addr) (n cap : Nat) (xs : List Int) (x : Int) (w : World) (hn : n ≤ 1000000) (hx : Ints w a n cap xs) : Ct Tryz.prog 125 #[.slice a n cap, .int .i64 x] w fun v _ => v = .int .i64 (idxF x xs 0) := by
 have hl := hx.len
 have hF := wide_wide
 refine Ct_start (args := [_, _]) Tryz.func125 rf Tryz.ntmps125 rf ?_
 refine zR fun ds => ?_
 refine za (.int .i64 _) hF ?_
 refine zO ?_
 refine zR fun ds => ?_
 refine zm (.slice _ _ _) hF ?_
 refine zD hF (y_len rf Tryz.runUnderlying22) ?_
 refine zm (.int .i64 _) hF ?_
 refine zN ?_
 refine W_block ?_
 refine W_loop (γ := Nat) (fun k => k ≤ n ∧ idxF x (xs.drop k) k = idxF x xs 0) (fun k => [(0, .slice a n cap), (1, .int .i64 x), (6, .slice a n cap), (7, .int .i64 (n : Int)), (8, .int .i64 (k : Int))]) (fun _ => _) (fun k => n - k) (0) ⟨Nat.zero_le _, by simp⟩ s10 (List.Sublist.refl _) ?_
 intro k e hk
 refine zR fun ds => ?_
 refine zD hF (y_lss rf rf) ?_
 refine zO ?_
 refine W_cond rf (fun c2 => ?_) (fun c2 => ?_)
 ·
  try simp only [qz1, qz2, qz3, qz4, qz5, qz6, qz7, qz8] at c2
  obtain ⟨b, o, rfl, hc⟩ := hx.cell k om0
  have hst := idxF_step (x := x) (xs := xs) (k := k) om0
  refine zU ?_
  refine W_seq ?_
  refine W_block ?_
  refine zR fun ds => ?_
  refine zm (.int .i64 _) hF ?_
  refine za (.int .i64 _) hF ?_
  refine zP fun ds => ?_
  refine zm (.int .i64 _) hF ?_
  refine zm (.slice _ _ _) hF ?_
  refine zm (.int .i64 _) hF ?_
  refine zD hF (y_index (k := k) rf rf r10 d10 Tryz.runUnderlying22 Tryz.sizeOf3) ?_
  refine zD hF (y_load1 rf Tryz.isAgg3 zo) ?_
  refine zD hF (y_eql rf rf) ?_
  refine zN ?_
  refine W_cond rf (fun c4 => ?_) (fun c4 => ?_)
  ·
   try simp only [qz1, qz2, qz3, qz4, qz5, qz6, qz7, qz8] at c4
   refine zR fun ds => ?_
   refine zm (.int .i64 _) hF ?_
   refine za (.int .i64 _) hF ?_
   refine zN ?_
   refine W_ret ?_
   refine InB_ret ?_
   refine Then_ret ?_
   refine Loop_ret ?_
   refine InB_ret ?_
   refine Then_ret ?_
   refine Fin_ret [.int .i64 _] [] Tryz.results125 ⟨by rfl, trivial⟩ HSub.nil ?_
   rw [← hk.2, idxF_step om0, if_pos c4]; rfl
  ·
   try simp only [qz1, qz2, qz3, qz4, qz5, qz6, qz7, qz8] at c4
   refine W_skip ?_
   refine InB_normal ?_
   refine zT fun ds => ?_
   refine zD hF (y_add rf rf ui) ?_
   refine zm (.int .i64 _) hF ?_
   refine WS_nil ?_
   exact Loop_next (k + 1) ⟨by omega, by rw [← hk.2, hst, if_neg c4]⟩ s10 s20 om0
 ·
  try simp only [qz1, qz2, qz3, qz4, qz5, qz6, qz7, qz8] at c2
  refine W_exit ?_
  refine Then_exit ?_
  refine Loop_exit ?_
  refine InB_same ?_
  refine zS fun ds => ?_
  refine za (.int .i64 _) hF ?_
  refine zN ?_
  refine W_ret ?_
  refine Fin_ret [.int .i64 _] [] Tryz.results125 ⟨by rfl, trivial⟩ HSub.nil ?_
  rw [← hk.2, List.drop_eq_nil_of_le om0]; rfl
theorem containsI_any (a : Option Addr) (n cap : Nat) (xs : List Int) (x : Int) (w : World) (hn : n ≤ 1000000) (hx : Ints w a n cap xs) : Ct Tryz.prog 101 #[.slice a n cap, .int .i64 x] w fun v _ => v = .bool (decide (x ∈ xs)) := by
 have hF := wide_wide
 refine Ct_start (args := [_, _]) Tryz.func101 rf Tryz.ntmps101 rf ?_
 refine zR fun ds => ?_
 refine za (.bool _) hF ?_
 refine zP fun ds => ?_
 refine zm (.slice _ _ _) hF ?_
 refine zm (.int .i64 _) hF ?_
 refine zD hF (y_callL rf rf Tryz.call125 (fun w hw => indexI_any a n cap xs x w hn (hx.st w hw))) ?_
 refine zD hF (y_geq rf rf) ?_
 refine za (.bool _) hF ?_
 refine zN ?_
 refine W_ret ?_
 refine Fin_ret [.bool _] [] Tryz.results101 ⟨by rfl, trivial⟩ HSub.nil ?_
 show Value.bool _ = _
 congr 1
 rw [Bool.eq_iff_iff]
 simp only [decide_eq_true_eq]
 exact idxF_mem
theorem some1_any (c : Cn) (a1 : Option Addr) (p1 : Nat) (a2 : Option Addr) (p2 : Nat) (x : Co) (n : Int) (bb bp : Nat) (w : World) (hok : c.Ok) (hb : At w bb 0 [.slice a1 c.n p1, .slice a2 c.inn.length p2, .int .i64 c.st]) (hp : At w bp 0 [.int .i64 n]) :
  Ct Tryz.prog 100 #[.agg x.cells.toArray, .pointer (some ⟨bb, 0, none⟩), .pointer (some ⟨bp, 0, none⟩)] w fun v _ => v = .bool (c.someP n x) := by
 have hn3 := hok.n3
 have hF := wide_wide
 refine Ct_start (args := [_, _, _]) Tryz.func100 rf Tryz.ntmps100 rf ?_
 refine zR fun ds => ?_
 refine WS_new hF rf (y_box rf) (fun b1 => ?_)
 refine za (.bool _) hF ?_
 refine zO ?_
 refine W_draw0 hF Tryzmixed [] dk0 (fun ds => ?_)
 refine P_det rf (Over_nil (y_fieldAddr rf fa92_0)) ?_
 refine P_det rf (Over_nil (y_fieldAddr rf fa24_0)) ?_
 refine P_det rf (Over_nil (y_load1 rf Tryz.isAgg22 zo)) ?_
 refine P_det rf (Over_nil (y_len rf Tryz.runUnderlying22)) ?_
 refine P_det rf (Over_nil (y_add rf rf ui)) ?_
 refine P_det rf (Over_nil (YD_eq (y_sliceA_lohi (l := 1) (h := c.n + 1) (m := 4) rf rf rf rf om0 dc om0 om0 Tryz.runUnderlying106 Tryz.sizeOf3) (show Value.slice (some ⟨b1, 1, none⟩) (c.n + 1 - 1) 3 = .slice (some ⟨b1, 1, none⟩) c.n 3 by rw [Nat.add_sub_cancel]))) ?_
 refine P_det rf (Over_nil (y_load1 rf Tryz.isAgg3 zo)) ?_
 refine P_det rf (Over_nil (y_callL rf rf Tryz.call101 (fun w hw => containsI_any (some ⟨b1, 1, none⟩) c.n 3 (c.of x).inn n w om0 (ints_of c x hn3 0 rf w hw)))) ?_
 refine P_det rf (Over_nil (y_assign (c := .bool _) rf)) ?_
 refine PW_end rf ?_
 refine OverAll_nil ?_
 rintro -
 refine Then_normal ?_
 refine W_ret ?_
 refine Fin_ret [.bool _] [] Tryz.results100 ⟨by rfl, trivial⟩ HSub.nil ?_
 rfl
theorem some_any (c : Cn) (a1 : Option Addr) (p1 : Nat) (a2 : Option Addr) (p2 : Nat) (n : Int) (w : World) : Ct Tryz.prog 54 #[.agg #[.slice a1 c.n p1, .slice a2 c.inn.length p2, .int .i64 c.st], .int .i64 n] w fun v Hn => ∃ bb bp, v = .func (.func 100) #[] #[.pointer (some ⟨bb, 0, none⟩), .pointer (some ⟨bp, 0, none⟩)] ∧ Hn = [(bp, CB [.int .i64 n] 3), (bb, CB [.slice a1 c.n p1, .slice a2 c.inn.length p2, .int .i64 c.st] 92)] := by
 have hF := wide_wide
 refine Ct_start (args := [_, _]) Tryz.func54 rf Tryz.ntmps54 rf ?_
 refine zR fun ds => ?_
 refine WS_new hF rf (y_box rf) (fun b1 => ?_)
 refine WS_new hF rf (y_box rf) (fun b2 => ?_)
 refine za (_) hF ?_
 refine zP fun ds => ?_
 refine zD hF (y_makeFuncL rf rf) ?_
 refine za (_) hF ?_
 refine zN ?_
 refine W_ret ?_
 refine Fin_ret [_] [(b2, _), (b1, _)] Tryz.results54 ⟨by rfl, trivial⟩ (HSub.sub (by repeat (first | exact List.nil_sublist _ | apply List.Sublist.cons_cons | apply List.Sublist.cons))) ?_
 exact ⟨_, _, rfl, rfl⟩
theorem aim_some (c : Cn) (a1 : Option Addr) (p1 : Nat) (a2 : Option Addr) (p2 : Nat) (n : Int) (hok : c.Ok) {C : Ctx} {H : List Blk} {bb bp : Nat} (hP : C.P = Tryz.prog) (hb : Mem C H bb 0 [.slice a1 c.n p1, .slice a2 c.inn.length p2, .int .i64 c.st]) (hp : Mem C H bp 0 [.int .i64 n]) (w : World) (hw : St C H w) :
  AimW Tryz.prog w 100 [] [.pointer (some ⟨bb, 0, none⟩), .pointer (some ⟨bp, 0, none⟩)] c.In (c.someP n) :=
 ⟨Tryz.call100, fun x hx w' h => some1_any c a1 p1 a2 p2 x n bb bp w' hok (At.old h (hb w hw)) (At.old h (hp w hw))⟩
theorem aimis_any (fid : FuncId) (first caps : List Value) (Q : Co → Prop) (p : Co → Bool) (x : Co) (hq : Q x) (w : World) (hA : AimW Tryz.prog w fid first caps Q p) : Ct Tryz.prog 99 #[.func (.func fid) first.toArray caps.toArray, .agg x.cells.toArray] w fun v _ => v = .bool (p x) := by
 have hF := wide_wide
 refine Ct_start (args := [_, _]) Tryz.func99 rf Tryz.ntmps99 rf ?_
 refine zR fun ds => ?_
 refine WS_new hF rf (y_box rf) (fun b1 => ?_)
 refine za (.bool _) hF ?_
 refine zP fun ds => ?_
 refine zm (_) hF ?_
 refine zD hF (y_loadN rf Tryz.isAgg106 Tryz.sizeOf106 (Mem.own (us := [.int .i64 _, .int .i64 _, .int .i64 _, .int .i64 _]) 0 rf rf) rf) ?_
 refine zD hF (y_callL (first := first) (captured := caps) rf rf hA.enter (fun w hw => hA.call x hq _ hw.1)) ?_
 refine za (.bool _) hF ?_
 refine zN ?_
 refine W_ret ?_
 refine Fin_ret [.bool _] [] Tryz.results99 ⟨by rfl, trivial⟩ HSub.nil ?_
 rfl
theorem basked_any (c : Cn) (a1 : Option Addr) (p1 : Nat) (a2 : Option Addr) (p2 : Nat) (fid : FuncId) (first caps : List Value) (p : Co → Bool) (w : World) (hok : c.Ok) (hn : c.n ≤ 1000000) (hm : c.inn.length ≤ 1000000) (h1 : Ints w a1 c.n p1 c.sz) (h2 : Ints w a2 c.inn.length p2 c.inn) (hA : AimW Tryz.prog w fid first caps c.In p) : Ct Tryz.prog 53 #[.agg #[.slice a1 c.n p1, .slice a2 c.inn.length p2, .int .i64 c.st], .func (.func fid) first.toArray caps.toArray] w (AimV (c.few p)) := by
 have hF := wide_wide
 refine Ct_start (args := [_, _]) Tryz.func53 rf Tryz.ntmps53 rf ?_
 refine zR fun ds => ?_
 refine WS_new hF rf (y_box rf) (fun b1 => ?_)
 refine za (.slice _ _ _) hF ?_
 refine za (.int .i64 _) hF ?_
 refine za (.int .i64 _) hF ?_
 refine zP fun ds => ?_
 refine zm (_) hF ?_
 refine zD hF (y_makeFuncL rf rf) ?_
 refine za (_) hF ?_
 refine zP fun ds => ?_
 refine zD hF (y_loadN rf Tryz.isAgg92 Tryz.sizeOf92 (Mem.own (us := [.slice _ _ _, .slice _ _ _, .int .i64 _]) 0 rf rf) rf) ?_
 refine WS_gen hF rf (y_callL rf rf Tryz.call50 (fun w hw => ways_any c a1 p1 a2 p2 w hok hn hm (h1.st w hw) (h2.st w hw))) ?_
 rintro _ _ ⟨mk, l, ck, HX, rfl, rfl, hg, hT⟩
 refine zm (_) hF ?_
 refine WS_callS hF rf rf rf Tryz.call66 (fewest_cs _ _ _ mk ck l c (HX ++ [_]) 99 [.func (.func fid) first.toArray caps.toArray] [] p hg (hT.mono (List.sublist_append_left _ _)) [] ⟨Tryz.call99, fun x hx C H w' hC _ hw => by subst hC; exact aimis_any fid first caps c.In p x hx w' ⟨hA.enter, fun x hx w'' hb => hA.call x hx w'' (hw.1.trans (hb.mono hw.1.size))⟩⟩ (List.nil_sublist _) hok) ?_
 rintro _ _ ⟨fx, fb, rfl, hfv, rfl⟩
 refine zm (.tuple _) hF ?_
 refine zD hF (y_extract (c := .agg _) rf rf) ?_
 refine zD hF (y_extract (c := .bool _) rf rf) ?_
 refine WS_new hF rf (y_alloc Tryz.zeroValue118 rf) (fun b2 => ?_)
 refine WS_store hF (i := 0) rf rf Tryz.sizeOf118 rf rf rf d20 ?_
 refine za (.bool _) hF ?_
 refine zO ?_
 refine zR fun ds => ?_
 refine zm (.bool _) hF ?_
 refine zD hF (y_not rf) ?_
 refine zN ?_
 refine W_cond rf (fun c3 => ?_) (fun c3 => ?_)
 ·
  try simp only [qz1, qz2, qz3, qz4, qz5, qz6, qz7, qz8] at c3
  refine zR fun ds => ?_
  refine za (.slice _ _ _) hF ?_
  refine za (.int .i64 _) hF ?_
  refine za (.int .i64 _) hF ?_
  refine zN ?_
  refine W_ret ?_
  refine Then_ret ?_
  refine Fin_ret [.slice _ _ _, .int .i64 _, .int .i64 _] [] Tryz.results53 ⟨by rfl, by rfl, by rfl, trivial⟩ HSub.nil ?_
  obtain ⟨rfl, hn⟩ := hfv.no' c3
  exact ⟨_, by rw [hn]; rfl, by rw [hn]; exact TwinP.nil _⟩
 ·
  try simp only [qz1, qz2, qz3, qz4, qz5, qz6, qz7, qz8] at c3
  refine zU ?_
  refine W_seq ?_
  refine W_draw0 hF Tryzmixed [] dk0 (fun ds => ?_)
  refine P_det rf (Over_nil (y_fieldAddr rf fa118_0)) ?_
  refine P_det rf (Over_nil (y_load1 rf Tryz.isAgg35 (Mem.own1 0 rf rf))) ?_
  refine P_det rf (Over_nil (y_fieldAddr rf fa118_1)) ?_
  refine P_det rf (Over_nil (y_load1 rf Tryz.isAgg3 (Mem.own1 0 rf rf))) ?_
  refine P_det rf (Over_nil (y_assign (c := .slice _ _ _) rf)) ?_
  refine P_det rf (Over_nil (y_assign (c := .int .i64 _) rf)) ?_
  refine P_det rf (Over_nil (y_assign (c := .int .i64 _) rf)) ?_
  refine PW_end rf ?_
  refine OverAll_nil ?_
  rintro -
  refine Then_normal ?_
  refine W_ret ?_
  refine Fin_ret [.slice _ _ _, .int .i64 _, .int .i64 _] (HX ++ [(b1, _)]) Tryz.results53 ⟨by rfl, by rfl, by rfl, trivial⟩ (HSub.sub sbA) ?_
  have hy := hfv.yes' c3
  exact ⟨_, by rw [hy]; rfl, by rw [hy]; exact ⟨fx.a, fx.k, rfl, fun C H w h hw => (hfv.rd C H w h hw).p⟩⟩
def AskA (e : Int) (o : Option Wy) (v : Value) (Hn : List Blk) : Prop := ∃ v0, v = .tuple #[v0, .int .i64 (if e = 0 then fewB o else 0), .int .i64 (if e = 0 then fewE o else e)] ∧ TwinP (if e = 0 then fewL o else []) v0 Hn
theorem AskA.err {e e' : Int} {o : Option Wy} {Hn : List Blk} (h : e = e') (h0 : e' ≠ 0) : AskA e o (.tuple #[.slice none 0 0, .int .i64 0, .int .i64 e']) Hn := by
 subst h
 refine ⟨_, by rw [if_neg h0, if_neg h0], ?_⟩
 rw [if_neg h0]
 exact TwinP.nil _
theorem AskA.ok {e : Int} {o : Option Wy} {v0 : Value} {Hn : List Blk} (h : e = 0) (hT : TwinP (fewL o) v0 Hn) : AskA e o (.tuple #[v0, .int .i64 (fewB o), .int .i64 (fewE o)]) Hn := by
 subst h
 exact ⟨_, rfl, hT⟩
def Cn.lsE (c : Cn) (n : Int) : Int := if c.okB then if inB 0 20 [n] then 0 else 2 else 80
def Cn.ttE (c : Cn) (n : Int) : Int := if c.okB then if inB 0 (sumL c.sz) [n] then 0 else 2 else 80
def Cn.wantB (c : Cn) (want : List Int) : Bool := decide (want.length = c.n) && (List.range want.length).all fun k => inB (-1) (c.s k) [want.getD k 0]
def Cn.boE (c : Cn) (want : List Int) : Int := if c.okB then if c.wantB want then 0 else 2 else 80
theorem cleast_any (c : Cn) (a1 : Option Addr) (p1 : Nat) (a2 : Option Addr) (p2 : Nat) (n : Int) (w : World) (hG : Gv w) (hn : c.n ≤ 1000000) (hm : c.inn.length ≤ 1000000) (h1 : Ints w a1 c.n p1 c.sz) (h2 : Ints w a2 c.inn.length p2 c.inn) : Ct Tryz.prog 19 #[.agg #[.slice a1 c.n p1, .slice a2 c.inn.length p2, .int .i64 c.st], .int .i64 n] w (AskA (c.lsE n) (c.few (c.someP n))) := by
 have hF := wide_wide
 refine Ct_start (args := [_, _]) Tryz.func19 rf Tryz.ntmps19 rf ?_
 refine zR fun ds => ?_
 refine WS_new hF rf (y_box rf) (fun b1 => ?_)
 refine za (.slice _ _ _) hF ?_
 refine za (.int .i64 _) hF ?_
 refine za (.int .i64 _) hF ?_
 refine zO ?_
 refine zR fun ds => ?_
 refine zD hF (y_loadN rf Tryz.isAgg24 Tryz.sizeOf24 (Mem.own (us := [.slice _ _ _, .slice _ _ _, .int .i64 _]) 0 rf rf) rf) ?_
 refine zD hF (y_callL rf rf Tryz.call47 (fun w hw => ccheck_any c a1 p1 a2 p2 w (hG.st w hw) hn hm (h1.st w hw) (h2.st w hw))) ?_
 refine za (.int .i64 _) hF ?_
 refine zP fun ds => ?_
 refine zm (.int .i64 _) hF ?_
 refine zD hF (y_neq rf rf) ?_
 refine zN ?_
 refine W_cond rf (fun c2 => ?_) (fun c2 => ?_)
 ·
  try simp only [qz1, qz2, qz3, qz4, qz5, qz6, qz7, qz8] at c2
  refine zR fun ds => ?_
  refine zm (.int .i64 _) hF ?_
  refine za (.slice _ _ _) hF ?_
  refine za (.int .i64 _) hF ?_
  refine za (.int .i64 _) hF ?_
  refine zN ?_
  refine W_ret ?_
  refine Then_ret ?_
  refine Fin_ret [.slice _ _ _, .int .i64 _, .int .i64 _] [] Tryz.results19 ⟨by rfl, by rfl, by rfl, trivial⟩ HSub.nil ?_
  obtain ⟨h3, h4⟩ := Cn.err_no c2
  rw [h4]
  exact AskA.err (by unfold Cn.lsE; rw [h3]; rfl) dc
 ·
  try simp only [qz1, qz2, qz3, qz4, qz5, qz6, qz7, qz8] at c2
  have hokB := Cn.err_iff.1 c2
  have hok := Cn.ok_iff.1 hokB
  refine zU ?_
  refine W_seq ?_
  refine zR fun ds => ?_
  refine zm (.int .i64 _) hF ?_
  refine WS_newS hF rf (y_buildSliceL bs22_1_0 rf) (fun b2 => ?_)
  refine zD hF (y_callL rf rf Tryz.call52 (fun w hw => cin_any _ _ _ _ _ _ w dc (by first | exact Ints.one 0 rfl w hw | exact Ints.two 0 rfl w hw))) ?_
  refine zD hF (y_not rf) ?_
  refine zN ?_
  refine W_cond rf (fun c4 => ?_) (fun c4 => ?_)
  ·
   try simp only [qz1, qz2, qz3, qz4, qz5, qz6, qz7, qz8] at c4
   refine zR fun ds => ?_
   refine za (.slice _ _ _) hF ?_
   refine za (.int .i64 _) hF ?_
   refine za (.int .i64 _) hF ?_
   refine zN ?_
   refine W_ret ?_
   refine Then_ret ?_
   refine Fin_ret [.slice _ _ _, .int .i64 _, .int .i64 _] [] Tryz.results19 ⟨by rfl, by rfl, by rfl, trivial⟩ HSub.nil ?_
   exact AskA.err (by unfold Cn.lsE; rw [hokB, c4]; rfl) dc
  ·
   try simp only [qz1, qz2, qz3, qz4, qz5, qz6, qz7, qz8] at c4
   refine W_skip ?_
   refine zS fun ds => ?_
   refine zD hF (y_loadN rf Tryz.isAgg24 Tryz.sizeOf24 (Mem.own (us := [.slice _ _ _, .slice _ _ _, .int .i64 _]) 1 rf rf) rf) ?_
   refine zD hF (y_buildL bd92_0 rf) ?_
   refine WS_new hF rf (y_alloc Tryz.zeroValue92 rf) (fun bb8 => ?_)
   refine WS_store hF (i := 0) rf rf Tryz.sizeOf92 rf rf rf d20 ?_
   refine zO ?_
   refine W_draw0 hF Tryzmixed [] dk0 (fun ds => ?_)
   refine P_det rf (Over_nil (y_loadN rf Tryz.isAgg92 Tryz.sizeOf92 (Mem.own (us := [.slice _ _ _, .slice _ _ _, .int .i64 _]) 0 rf rf) rf)) ?_
   refine P_det rf (Over_nil (y_loadN rf Tryz.isAgg92 Tryz.sizeOf92 (Mem.own (us := [.slice _ _ _, .slice _ _ _, .int .i64 _]) 0 rf rf) rf)) ?_
   refine P_det rf (Over_nil (y_move (c := .int .i64 _) rf)) ?_
   refine P_new rf rf (Over_nil (y_callL rf rf Tryz.call54 (fun w hw => some_any c a1 p1 a2 p2 n w))) ?_
   refine P_new rf rf (Over_in rf (Over_nil (by intro vb4 l23 hb4; obtain ⟨bb, bp, rfl, rfl⟩ := hb4; exact (y_callL rf rf Tryz.call53 (fun w hw => basked_any c a1 p1 a2 p2 100 [] [_, _] (c.someP n) w hok hn hm (h1.st w hw) (h2.st w hw) (aim_some c a1 p1 a2 p2 n hok rfl (Mem.own (us := [.slice _ _ _, .slice _ _ _, .int _ _]) 1 rf rf) (Mem.own1 0 rf rf) w hw)))))) ?_
   refine P_ali [24] (fun e => tupAt (e 24) 0) rf rf rf (fun _ _ h => congrArg (tupAt · 0) (h 24 (List.mem_singleton.2 rfl))) (Over_in rf (Over_out rf (Over_nil (by intro vb6 l24 hb6; obtain ⟨v0, rfl, ta, tk, rfl, hTp⟩ := hb6; obtain ⟨L24, rfl⟩ : ∃ L24, L24 = l24 := ⟨_, rfl⟩; exact (YD0_of (y_extract (c := .slice _ _ _) rf rf)))))) ?_
   refine P_ali [24] (fun e => tupAt (e 24) 1) rf rf rf (fun _ _ h => congrArg (tupAt · 1) (h 24 (List.mem_singleton.2 rfl))) (Over_out rf (Over_in rf (Over_out rf (Over_nil (by intro vb8 l24 hb8; obtain ⟨v0, rfl, ta, tk, rfl, hTp⟩ := hb8; obtain ⟨L24, rfl⟩ : ∃ L24, L24 = l24 := ⟨_, rfl⟩; exact (YD0_of (y_extract (c := .int .i64 _) rf rf))))))) ?_
   refine P_ali [24] (fun e => tupAt (e 24) 2) rf rf rf (fun _ _ h => congrArg (tupAt · 2) (h 24 (List.mem_singleton.2 rfl))) (Over_out rf (Over_out rf (Over_in rf (Over_out rf (Over_nil (by intro vb10 l24 hb10; obtain ⟨v0, rfl, ta, tk, rfl, hTp⟩ := hb10; obtain ⟨L24, rfl⟩ : ∃ L24, L24 = l24 := ⟨_, rfl⟩; exact (YD0_of (y_extract (c := .int .i64 _) rf rf)))))))) ?_
   refine P_ali [25] (fun e => e 25) rf rf rf (fun _ _ h => h 25 (List.mem_singleton.2 rfl)) (Over_out rf (Over_out rf (Over_in rf (Over_in rf (Over_out rf (Over_nil (by intro vb12 l24 hb12; obtain ⟨v0, rfl, ta, tk, rfl, hTp⟩ := hb12; obtain ⟨L24, rfl⟩ : ∃ L24, L24 = l24 := ⟨_, rfl⟩; rintro vb13 _ ⟨hvb13, rfl⟩; replace hvb13 : vb13 = .slice _ _ _ := hvb13; subst hvb13; exact (YD0_of (y_assign (c := .slice _ _ _) rf))))))))) ?_
   refine P_ali [26] (fun e => e 26) rf rf rf (fun _ _ h => h 26 (List.mem_singleton.2 rfl)) (Over_out rf (Over_out rf (Over_in rf (Over_out rf (Over_in rf (Over_out rf (Over_nil (by intro vb15 l24 hb15; obtain ⟨v0, rfl, ta, tk, rfl, hTp⟩ := hb15; obtain ⟨L24, rfl⟩ : ∃ L24, L24 = l24 := ⟨_, rfl⟩; rintro vb16 _ ⟨hvb16, rfl⟩; replace hvb16 : vb16 = .int .i64 _ := hvb16; subst hvb16; exact (YD0_of (y_assign (c := .int .i64 _) rf)))))))))) ?_
   refine P_ali [27] (fun e => e 27) rf rf rf (fun _ _ h => h 27 (List.mem_singleton.2 rfl)) (Over_out rf (Over_out rf (Over_in rf (Over_out rf (Over_out rf (Over_in rf (Over_out rf (Over_nil (by intro vb18 l24 hb18; obtain ⟨v0, rfl, ta, tk, rfl, hTp⟩ := hb18; obtain ⟨L24, rfl⟩ : ∃ L24, L24 = l24 := ⟨_, rfl⟩; rintro vb19 _ ⟨hvb19, rfl⟩; replace hvb19 : vb19 = .int .i64 _ := hvb19; subst hvb19; exact (YD0_of (y_assign (c := .int .i64 _) rf))))))))))) ?_
   refine PW_end rf ?_
   refine OverAll_cons (fun w6 l6 => ?_)
   refine OverAll_cons (fun w5 l5 => ?_)
   refine OverAll_cons (fun w4 l4 => ?_)
   refine OverAll_cons (fun w27 l27 => ?_)
   refine OverAll_cons (fun w26 l26 => ?_)
   refine OverAll_cons (fun w25 l25 => ?_)
   refine OverAll_cons (fun w24 l24 => ?_)
   refine OverAll_cons (fun w23 l23 => ?_)
   refine OverAll_nil ?_
   rintro ⟨⟨⟨⟨⟨⟨⟨⟨-, h6⟩, h5⟩, h4⟩, h27⟩, h26⟩, h25⟩, h24⟩, h23⟩
   obtain ⟨bb, bp, rfl, rfl⟩ := h23
   obtain ⟨v0, rfl, ta, tk, rfl, hTp⟩ := h24
   obtain ⟨L24, rfl⟩ : ∃ L24, L24 = l24 := ⟨_, rfl⟩
   obtain ⟨h25, rfl⟩ := h25
   replace h25 : w25 = .slice _ _ _ := h25
   subst h25
   obtain ⟨h26, rfl⟩ := h26
   replace h26 : w26 = .int .i64 _ := h26
   subst h26
   obtain ⟨h27, rfl⟩ := h27
   replace h27 : w27 = .int .i64 _ := h27
   subst h27
   obtain ⟨h4, rfl⟩ := h4
   replace h4 : w4 = .slice _ _ _ := h4
   subst h4
   obtain ⟨h5, rfl⟩ := h5
   replace h5 : w5 = .int .i64 _ := h5
   subst h5
   obtain ⟨h6, rfl⟩ := h6
   replace h6 : w6 = .int .i64 _ := h6
   subst h6
   refine Then_normal ?_
   refine W_ret ?_
   refine Fin_ret [.slice _ _ _, .int .i64 _, .int .i64 _] L24 Tryz.results19 ⟨by rfl, by rfl, by rfl, trivial⟩ (HSub.sub sbA) ?_
   exact AskA.ok (by unfold Cn.lsE; rw [hokB, c4]; rfl) ⟨ta, tk, rfl, hTp⟩
theorem sumTo_bd {xs : List Int} (h : ∀ k, k < xs.length → 0 ≤ xs.getD k 0 ∧ xs.getD k 0 ≤ 600) : ∀ k, k ≤ xs.length → 0 ≤ sumTo xs k ∧ sumTo xs k ≤ 600 * (k : Int)
 | 0, _ => by unfold sumTo; simp [sumL]
 | k + 1, hk => by
  have ih := sumTo_bd h k om0
  have hx := h k om0
  rw [sumTo_succ om0]
  omega
theorem sumTo_all (xs : List Int) : sumTo xs xs.length = sumL xs := by unfold sumTo; rw [List.take_length]
theorem total_any (a : Option Addr) (cap : Nat) (xs : List Int) (w : World) (hn : xs.length ≤ 1000) (hbd : ∀ k, k < xs.length → 0 ≤ xs.getD k 0 ∧ xs.getD k 0 ≤ 600) (hx : Ints w a xs.length cap xs) : Ct Tryz.prog 87 #[.slice a xs.length cap] w fun v _ => v = .int .i64 (sumL xs) := by
 have hF := wide_wide
 refine Ct_start (args := [_]) Tryz.func87 rf Tryz.ntmps87 rf ?_
 refine zR fun ds => ?_
 refine za (.int .i64 _) hF ?_
 refine zP fun ds => ?_
 refine za (.int .i64 _) hF ?_
 refine zO ?_
 refine zR fun ds => ?_
 refine zm (.slice _ _ _) hF ?_
 refine zD hF (y_len rf Tryz.runUnderlying22) ?_
 refine zm (.int .i64 _) hF ?_
 refine zN ?_
 refine W_block ?_
 refine W_loop (γ := Nat) (fun k => k ≤ xs.length) (fun k => [(3, .int .i64 (sumTo xs k)), (6, .slice a xs.length cap), (7, .int .i64 (xs.length : Int)), (8, .int .i64 (k : Int))]) (fun _ => _) (fun k => xs.length - k) (0) (Nat.zero_le _) s10 (List.Sublist.refl _) ?_
 intro k e hk
 refine zR fun ds => ?_
 refine zD hF (y_lss rf rf) ?_
 refine zO ?_
 refine W_cond rf (fun c3 => ?_) (fun c3 => ?_)
 ·
  try simp only [qz1, qz2, qz3, qz4, qz5, qz6, qz7, qz8] at c3
  obtain ⟨b, o, rfl, hc⟩ := hx.cell k om0
  have hb := sumTo_bd hbd k hk
  have hx' := hbd k om0
  have hsc := sumTo_succ (xs := xs) (k := k) om0
  refine zU ?_
  refine W_seq ?_
  refine W_block ?_
  refine zR fun ds => ?_
  refine zD hF (y_index (k := k) rf rf r10 d10 Tryz.runUnderlying22 Tryz.sizeOf3) ?_
  refine zD hF (y_load1 rf Tryz.isAgg3 zo) ?_
  refine za (.int .i64 _) hF ?_
  refine zQ fun ds => ?_
  refine zm (.int .i64 _) hF ?_
  refine zm (.int .i64 _) hF ?_
  refine zD hF (y_add rf rf ui) ?_
  refine za (.int .i64 _) hF ?_
  refine WS_nil ?_
  refine InB_normal ?_
  refine Then_normal ?_
  rw [← hsc]
  refine W_region_lit (fun ds => ?_)
  refine zD hF (y_add rf rf ui) ?_
  refine zm (.int .i64 _) hF ?_
  refine WS_nil ?_
  exact Loop_next (k + 1) om0 s10 s20 om0
 ·
  try simp only [qz1, qz2, qz3, qz4, qz5, qz6, qz7, qz8] at c3
  refine W_exit ?_
  refine Then_exit ?_
  refine Loop_exit ?_
  refine InB_same ?_
  refine zS fun ds => ?_
  refine zm (.int .i64 _) hF ?_
  refine za (.int .i64 _) hF ?_
  refine zN ?_
  refine W_ret ?_
  refine Fin_ret [.int .i64 _] [] Tryz.results87 ⟨by rfl, trivial⟩ HSub.nil ?_
  have : k = xs.length := by omega
  subst this
  rw [sumTo_all]
  rfl
theorem ints_co {x : Co} {C : Ctx} {H : List Blk} {b T : Nat} (i : Nat) (hi : H[i]? = some (b, CB x.cells T)) (w : World) (hw : St C H w) : Ints w (some ⟨b, 1, none⟩) 3 3 [x.b, x.c, x.d] := by
 refine ⟨rfl, Nat.le_refl _, fun k hk => ⟨b, 1, rfl, ?_⟩⟩
 have hb := hw.get hi
 obtain rfl | rfl | rfl : k = 0 ∨ k = 1 ∨ k = 2 := by omega
 ·exact at_block (rest := [.int .i64 x.c, .int .i64 x.d]) hb rfl
 ·exact at_block (rest := [.int .i64 x.d]) hb rfl
 ·exact at_block (rest := []) hb rfl
theorem total1_any (c : Cn) (x : Co) (n : Int) (bp : Nat) (w : World) (hok : c.Ok) (hin : c.In x) (hp : At w bp 0 [.int .i64 n]) :
  Ct Tryz.prog 88 #[.agg x.cells.toArray, .pointer (some ⟨bp, 0, none⟩)] w fun v _ => v = .bool (totP n x) := by
 have hb : 0 ≤ x.b ∧ x.b ≤ 20 := hin.bd hok (k := 1) dc dc
 have hc : 0 ≤ x.c ∧ x.c ≤ 20 := hin.bd hok (k := 2) dc dc
 have hd : 0 ≤ x.d ∧ x.d ≤ 20 := hin.bd hok (k := 3) dc dc
 have hbd : ∀ k, k < [x.b, x.c, x.d].length → 0 ≤ [x.b, x.c, x.d].getD k 0 ∧ [x.b, x.c, x.d].getD k 0 ≤ 600 := fun k hk => by
  simp only [List.length_cons, List.length_nil] at hk
  obtain rfl | rfl | rfl : k = 0 ∨ k = 1 ∨ k = 2 := by omega
  ·show 0 ≤ x.b ∧ x.b ≤ 600; omega
  ·show 0 ≤ x.c ∧ x.c ≤ 600; omega
  ·show 0 ≤ x.d ∧ x.d ≤ 600; omega
 have hF := wide_wide
 refine Ct_start (args := [_, _]) Tryz.func88 rf Tryz.ntmps88 rf ?_
 refine zR fun ds => ?_
 refine WS_new hF rf (y_box rf) (fun b1 => ?_)
 refine za (.bool _) hF ?_
 refine zO ?_
 refine W_draw0 hF Tryzmixed [] dk0 (fun ds => ?_)
 refine P_det rf (Over_nil (y_sliceA_lo (l := 1) (m := 4) rf rf rf dc Tryz.runUnderlying106 Tryz.sizeOf3)) ?_
 refine P_det rf (Over_nil (y_callL rf rf Tryz.call87 (fun w hw => total_any (some ⟨b1, 1, none⟩) 3 [x.b, x.c, x.d] w (by simp) hbd (ints_co 0 rf w hw)))) ?_
 refine P_det rf (Over_nil (y_load1 rf Tryz.isAgg3 zo)) ?_
 refine P_det rf (Over_nil (y_eql rf rf)) ?_
 refine P_det rf (Over_nil (y_assign (c := .bool _) rf)) ?_
 refine PW_end rf ?_
 refine OverAll_nil ?_
 rintro -
 refine Then_normal ?_
 refine W_ret ?_
 refine Fin_ret [.bool _] [] Tryz.results88 ⟨by rfl, trivial⟩ HSub.nil ?_
 show Value.bool _ = _
 congr 1
 unfold totP
 rw [Bool.eq_iff_iff]
 simp only [decide_eq_true_eq, sumL]
 constructor
 ·intro h
  have := of_decide_eq_true h
  omega
 ·intro h
  exact decide_eq_true om0
theorem Cn.Ok.sz_bd {c : Cn} (h : c.Ok) : c.sz.length ≤ 1000 ∧ ∀ k, k < c.sz.length → 0 ≤ c.sz.getD k 0 ∧ c.sz.getD k 0 ≤ 600 := by
 have h3 : c.sz.length ≤ 3 := h.n3
 refine ⟨by omega, fun k hk => ?_⟩
 have := h.s k hk
 unfold Cn.s at this
 omega
theorem ctotal_any (c : Cn) (a1 : Option Addr) (p1 : Nat) (a2 : Option Addr) (p2 : Nat) (n : Int) (w : World) (hG : Gv w) (hn : c.n ≤ 1000000) (hm : c.inn.length ≤ 1000000) (h1 : Ints w a1 c.n p1 c.sz) (h2 : Ints w a2 c.inn.length p2 c.inn) : Ct Tryz.prog 40 #[.agg #[.slice a1 c.n p1, .slice a2 c.inn.length p2, .int .i64 c.st], .int .i64 n] w (AskA (c.ttE n) (c.few (totP n))) := by
 have hF := wide_wide
 refine Ct_start (args := [_, _]) Tryz.func40 rf Tryz.ntmps40 rf ?_
 refine zR fun ds => ?_
 refine WS_new hF rf (y_box rf) (fun b1 => ?_)
 refine WS_new hF rf (y_box rf) (fun b2 => ?_)
 refine za (.slice _ _ _) hF ?_
 refine za (.int .i64 _) hF ?_
 refine za (.int .i64 _) hF ?_
 refine zO ?_
 refine zR fun ds => ?_
 refine zD hF (y_loadN rf Tryz.isAgg24 Tryz.sizeOf24 (Mem.own (us := [.slice _ _ _, .slice _ _ _, .int .i64 _]) 1 rf rf) rf) ?_
 refine zD hF (y_callL rf rf Tryz.call47 (fun w hw => ccheck_any c a1 p1 a2 p2 w (hG.st w hw) hn hm (h1.st w hw) (h2.st w hw))) ?_
 refine za (.int .i64 _) hF ?_
 refine zP fun ds => ?_
 refine zm (.int .i64 _) hF ?_
 refine zD hF (y_neq rf rf) ?_
 refine zN ?_
 refine W_cond rf (fun c2 => ?_) (fun c2 => ?_)
 ·
  try simp only [qz1, qz2, qz3, qz4, qz5, qz6, qz7, qz8] at c2
  refine zR fun ds => ?_
  refine zm (.int .i64 _) hF ?_
  refine za (.slice _ _ _) hF ?_
  refine za (.int .i64 _) hF ?_
  refine za (.int .i64 _) hF ?_
  refine zN ?_
  refine W_ret ?_
  refine Then_ret ?_
  refine Fin_ret [.slice _ _ _, .int .i64 _, .int .i64 _] [] Tryz.results40 ⟨by rfl, by rfl, by rfl, trivial⟩ HSub.nil ?_
  obtain ⟨h3, h4⟩ := Cn.err_no c2
  rw [h4]
  exact AskA.err (by unfold Cn.ttE; rw [h3]; rfl) dc
 ·
  try simp only [qz1, qz2, qz3, qz4, qz5, qz6, qz7, qz8] at c2
  have hokB := Cn.err_iff.1 c2
  have hok := Cn.ok_iff.1 hokB
  have hszb := hok.sz_bd
  refine zU ?_
  refine W_seq ?_
  refine W_seq ?_
  refine W_draw0 hF Tryzmixed [] dk0 (fun ds => ?_)
  refine P_det rf (Over_nil (y_fieldAddr rf fa24_0)) ?_
  refine P_det rf (Over_nil (y_load1 rf Tryz.isAgg22 (Mem.own1 1 rf rf))) ?_
  refine P_det rf (Over_nil (y_callL rf rf Tryz.call87 (fun w hw => total_any a1 p1 c.sz w hszb.1 hszb.2 (h1.st w hw)))) ?_
  refine P_det rf (Over_nil (y_load1 rf Tryz.isAgg3 (Mem.own1 0 rf rf))) ?_
  refine P_new rf rf (Over_nil (y_buildSliceL bs22_1_0 rf)) ?_
  refine P_det rf (Over_in rf (Over_nil (by rintro _ _ ⟨b4, rfl, rfl⟩; exact (y_callL rf rf Tryz.call52 (fun w hw => cin_any _ _ _ _ _ _ w dc (by first | exact Ints.one 0 rfl w hw | exact Ints.two 0 rfl w hw)))))) ?_
  refine P_det rf (Over_out rf (Over_nil (y_not rf))) ?_
  refine PW_end rf ?_
  refine OverAll_cons (fun w17 l17 => ?_)
  refine OverAll_nil ?_
  rintro ⟨-, h17⟩
  obtain ⟨b3, rfl, rfl⟩ := h17
  refine Then_normal ?_
  refine W_cond rf (fun c4 => ?_) (fun c4 => ?_)
  ·
   try simp only [qz1, qz2, qz3, qz4, qz5, qz6, qz7, qz8] at c4
   refine zR fun ds => ?_
   refine za (.slice _ _ _) hF ?_
   refine za (.int .i64 _) hF ?_
   refine za (.int .i64 _) hF ?_
   refine zN ?_
   refine W_ret ?_
   refine Then_ret ?_
   refine Fin_ret [.slice _ _ _, .int .i64 _, .int .i64 _] [] Tryz.results40 ⟨by rfl, by rfl, by rfl, trivial⟩ HSub.nil ?_
   exact AskA.err (by unfold Cn.ttE; rw [hokB, c4]; rfl) dc
  ·
   try simp only [qz1, qz2, qz3, qz4, qz5, qz6, qz7, qz8] at c4
   refine W_skip ?_
   refine zS fun ds => ?_
   refine zD hF (y_loadN rf Tryz.isAgg24 Tryz.sizeOf24 (Mem.own (us := [.slice _ _ _, .slice _ _ _, .int .i64 _]) 2 rf rf) rf) ?_
   refine zD hF (y_buildL bd92_0 rf) ?_
   refine zD hF (y_makeFuncL rf rf) ?_
   refine WS_gen hF rf (y_callL rf rf Tryz.call53 (fun w hw => basked_any c a1 p1 a2 p2 88 [] [_] (totP n) w hok hn hm (h1.st w hw) (h2.st w hw) ⟨Tryz.call88, fun x hx w' h => total1_any c x n _ w' hok hx (At.old h (Mem.own1 1 rf rf w hw))⟩)) ?_
   rintro _ L24 ⟨v0, rfl, ta, tk, rfl, hTp⟩
   refine zD hF (y_extract (c := .slice _ _ _) rf rf) ?_
   refine zD hF (y_extract (c := .int .i64 _) rf rf) ?_
   refine zD hF (y_extract (c := .int .i64 _) rf rf) ?_
   refine za (.slice _ _ _) hF ?_
   refine za (.int .i64 _) hF ?_
   refine za (.int .i64 _) hF ?_
   refine zN ?_
   refine W_ret ?_
   refine Fin_ret [.slice _ _ _, .int .i64 _, .int .i64 _] L24 Tryz.results40 ⟨by rfl, by rfl, by rfl, trivial⟩ (HSub.sub sbA) ?_
   exact AskA.ok (by unfold Cn.ttE; rw [hokB, c4]; rfl) ⟨ta, tk, rfl, hTp⟩
structure Am where
 some : Int
 total : Int
 each : List Int
def Am.p (c : Cn) (a : Am) (x : Co) : Bool := if 0 ≤ a.total then totP a.total x else if 0 ≤ a.some then c.someP a.some x else c.bothP a.each x
def sumA (s : Int) (xs : List Int) : Nat → Int
 | 0 => s
 | k + 1 => sumA s xs k + xs.getD k 0
theorem sumA_eq (s : Int) (xs : List Int) : ∀ k, k ≤ xs.length → sumA s xs k = s + sumTo xs k
 | 0, _ => by show s = s + sumTo xs 0; rw [show sumTo xs 0 = 0 from rfl, Int.add_zero]
 | k + 1, h => by
  rw [sumTo_succ om0]
  unfold sumA
  rw [sumA_eq s xs k om0]
  omega
theorem rcsum_any (c : Cn) (a1 : Option Addr) (p1 : Nat) (a2 : Option Addr) (p2 : Nat) (w : World) (hl : c.inn.length ≤ 1000) (hs : 0 ≤ c.st ∧ c.st ≤ 600) (hbd : ∀ k, k < c.inn.length → 0 ≤ c.inn.getD k 0 ∧ c.inn.getD k 0 ≤ 600) (h2 : Ints w a2 c.inn.length p2 c.inn) : Ct Tryz.prog 33 #[.agg #[.slice a1 c.n p1, .slice a2 c.inn.length p2, .int .i64 c.st]] w fun v _ => v = .int .i64 (c.st + sumL c.inn) := by
 have hF := wide_wide
 refine Ct_start (args := [_]) Tryz.func33 rf Tryz.ntmps33 rf ?_
 refine zR fun ds => ?_
 refine WS_new hF rf (y_box rf) (fun b1 => ?_)
 refine za (.int .i64 _) hF ?_
 refine zP fun ds => ?_
 refine zD hF (y_fieldAddr rf fa24_2) ?_
 refine zD hF (y_load1 rf Tryz.isAgg3 (Mem.own1 0 rf rf)) ?_
 refine za (.int .i64 _) hF ?_
 refine zO ?_
 refine zR fun ds => ?_
 refine zD hF (y_fieldAddr rf fa24_1) ?_
 refine zD hF (y_load1 rf Tryz.isAgg22 (Mem.own1 0 rf rf)) ?_
 refine zD hF (y_len rf Tryz.runUnderlying22) ?_
 refine zm (.int .i64 _) hF ?_
 refine zN ?_
 refine W_block ?_
 refine W_loop (γ := Nat) (fun k => k ≤ c.inn.length) (fun k => [(3, .int .i64 (sumA c.st c.inn k)), (9, .slice a2 c.inn.length p2), (10, .int .i64 (c.inn.length : Int)), (11, .int .i64 (k : Int))]) (fun _ => _) (fun k => c.inn.length - k) (0) (Nat.zero_le _) s10 (List.Sublist.refl _) ?_
 intro k e hk
 refine zR fun ds => ?_
 refine zD hF (y_lss rf rf) ?_
 refine zO ?_
 refine W_cond rf (fun c3 => ?_) (fun c3 => ?_)
 ·
  try simp only [qz1, qz2, qz3, qz4, qz5, qz6, qz7, qz8] at c3
  obtain ⟨b, o, rfl, hc⟩ := h2.cell k om0
  have hb := sumTo_bd hbd k hk
  have hx' := hbd k om0
  have hse := sumA_eq c.st c.inn k hk
  refine zU ?_
  refine W_seq ?_
  refine W_block ?_
  refine zR fun ds => ?_
  refine zD hF (y_index (k := k) rf rf r10 d10 Tryz.runUnderlying22 Tryz.sizeOf3) ?_
  refine zD hF (y_load1 rf Tryz.isAgg3 zo) ?_
  refine za (.int .i64 _) hF ?_
  refine zQ fun ds => ?_
  refine zm (.int .i64 _) hF ?_
  refine zm (.int .i64 _) hF ?_
  refine zD hF (y_add rf rf ui) ?_
  refine za (.int .i64 _) hF ?_
  refine WS_nil ?_
  refine InB_normal ?_
  refine zT fun ds => ?_
  refine zD hF (y_add rf rf ui) ?_
  refine zm (.int .i64 _) hF ?_
  refine WS_nil ?_
  exact Loop_next (k + 1) om0 s10 s20 om0
 ·
  try simp only [qz1, qz2, qz3, qz4, qz5, qz6, qz7, qz8] at c3
  refine W_exit ?_
  refine Then_exit ?_
  refine Loop_exit ?_
  refine InB_same ?_
  refine zS fun ds => ?_
  refine zm (.int .i64 _) hF ?_
  refine za (.int .i64 _) hF ?_
  refine zN ?_
  refine W_ret ?_
  refine Fin_ret [.int .i64 _] [] Tryz.results33 ⟨by rfl, trivial⟩ HSub.nil ?_
  have : k = c.inn.length := by omega
  subst this
  rw [← sumTo_all, ← sumA_eq c.st c.inn _ (Nat.le_refl _)]
  rfl
theorem Cn.Ok.inn_bd {c : Cn} (h : c.Ok) : c.inn.length ≤ 1000 ∧ ∀ k, k < c.inn.length → 0 ≤ c.inn.getD k 0 ∧ c.inn.getD k 0 ≤ 600 := by
 have h3 := h.n3
 have hl := h.len
 refine ⟨by omega, fun k hk => ?_⟩
 have h1 := h.i k om0
 have h2 := h.s k om0
 unfold Cn.i at h1
 omega
theorem ye_extract {C : Ctx} {e : Env} {H : List Blk} {d : Option Tmp} {ty : TypeId} {pos : String} {af : Array Edge} {x : Operand} {i : Nat} {vs : Array Value} {c : Value} (hx : ev e x = .tuple vs) (hi : vs[i]? = some c) : YE C ⟨d, .extract x i, ty, pos, af, none⟩ e H c :=
 ⟨fun w _ => by simp [execOp, hx, Instr.extract, hi], fun w => rfl⟩
structure Rv where
 s : Option Addr
 sn : Nat
 sk : Nat
 i : Option Addr
 im : Nat
 ik : Nat
 st : Int
 l : Option Addr
 ln : Nat
 lk : Nat
 back : Int
def Rv.cells (v : Rv) : List Value := [.slice v.s v.sn v.sk, .slice v.i v.im v.ik, .int .i64 v.st, .slice v.l v.ln v.lk, .int .i64 v.back]
def Rv.z : Rv := ⟨none, 0, 0, none, 0, 0, 0, none, 0, 0, 0⟩
def Rl.rv (c : Cn) (r : Rl) : Rv := ⟨r.s, c.n, r.ks, r.i, (c.of r.x).inn.length, r.ki, r.x.a, r.l, r.w.l.length, r.kl, r.w.back⟩
structure Rl.Rd (c : Cn) (w : World) (r : Rl) : Prop where
 i : Ints w r.i (c.of r.x).inn.length r.ki (c.of r.x).inn
 p : Pos w r.l r.w.l.length r.kl r.w.l
theorem Rl.Rd.st {c : Cn} {C : Ctx} {H : List Blk} {r : Rl} (h : r.Rd c C.w0) (w : World) (hw : St C H w) : r.Rd c w := ⟨h.i.st w hw, h.p.st w hw⟩
def FewR (c : Cn) (p : Co → Bool) (rs : List Rl) (v : Value) : Prop := ∃ (b : Bool) (q : Rv), v = .tuple #[.agg q.cells.toArray, .bool b] ∧ (b = true → ∃ r ∈ rs, q = r.rv c ∧ c.few p = some r.w) ∧ (b = false → c.few p = none)
theorem sl_ext : ∀ {l m : List Int}, l.Pairwise (· < ·) → m.Pairwise (· < ·) → (∀ x, x ∈ l ↔ x ∈ m) → l = m
 | [], [], _, _, _ => rfl
 | [], y :: m, _, _, h => by have := (h y).2 List.mem_cons_self; cases this
 | x :: l, [], _, _, h => by have := (h x).1 List.mem_cons_self; cases this
 | x :: l, y :: m, h1, h2, h => by
  rw [List.pairwise_cons] at h1 h2
  have hxy : x = y := by
   rcases List.mem_cons.1 ((h x).1 List.mem_cons_self) with e | e
   ·exact e
   ·rcases List.mem_cons.1 ((h y).2 List.mem_cons_self) with e' | e'
    ·exact e'.symm
    ·have := h2.1 x e; have := h1.1 y e'; omega
  subst hxy
  rw [sl_ext h1.2 h2.2 fun z => ?_]
  have hz := h z
  simp only [List.mem_cons] at hz
  constructor
  ·intro hm
   rcases hz.1 (.inr hm) with e | e
   ·subst e; have := h1.1 _ hm; omega
   ·exact e
  ·intro hm
   rcases hz.2 (.inr hm) with e | e
   ·subst e; have := h2.1 _ hm; omega
   ·exact e
def sortL (xs : List Int) : List Int := xs.mergeSort fun x y => decide (x ≤ y)
theorem sortL_len (xs : List Int) : (sortL xs).length = xs.length := List.length_mergeSort _
theorem sortL_mem {xs : List Int} {x : Int} : x ∈ sortL xs ↔ x ∈ xs := (List.mergeSort_perm xs _).mem_iff
theorem sortL_le (xs : List Int) : (sortL xs).Pairwise (· ≤ ·) := by
 have h := List.pairwise_mergeSort (le := fun x y : Int => decide (x ≤ y)) (fun a b c h1 h2 => by simp only [decide_eq_true_eq] at *; omega) (fun a b => by simp only [Bool.or_eq_true, decide_eq_true_eq]; omega) xs
 exact h.imp fun h => by simpa using h
theorem le_get {zs : List Int} (h : zs.Pairwise (· ≤ ·)) {i j : Nat} (hij : i ≤ j) (hj : j < zs.length) : zs.toArray[i]! ≤ zs.toArray[j]! := by
 have hi : i < zs.length := by omega
 simp only [hi, hj, getElem!_pos, List.size_toArray, List.getElem_toArray]
 by_cases he : i = j
 ·subst he; exact Int.le_refl _
 ·exact List.pairwise_iff_getElem.1 h i j hi hj om0
theorem compact_lt {zs : List Int} (h : zs.Pairwise (· ≤ ·)) : (Lib.compact zs).Pairwise (· < ·) := by
 unfold Lib.compact Lib.compactUpTo
 rw [List.pairwise_map]
 refine (List.Pairwise.filter _ List.pairwise_lt_range).imp_of_mem fun {i j} hi hj hij => ?_
 obtain ⟨hir, hik⟩ := List.mem_filter.1 hi
 obtain ⟨hjr, hjk⟩ := List.mem_filter.1 hj
 rw [List.mem_range] at hir hjr
 unfold Lib.keeps at hjk
 rw [decide_eq_true_eq] at hjk
 have h1 := le_get h (i := i) (j := j - 1) om0 om0
 have h2 := le_get h (i := j - 1) (j := j) om0 hjr
 rcases hjk with h0 | hne
 ·omega
 ·omega
theorem compact_mem {zs : List Int} {x : Int} : x ∈ Lib.compact zs ↔ x ∈ zs := by
 unfold Lib.compact Lib.compactUpTo
 constructor
 ·intro h
  obtain ⟨j, hj, rfl⟩ := List.mem_map.1 h
  have hjr := List.mem_range.1 (List.mem_filter.1 hj).1
  simp only [hjr, getElem!_pos, List.size_toArray, List.getElem_toArray]
  exact List.getElem_mem _
 ·intro h
  obtain ⟨j, hj, rfl⟩ := List.getElem_of_mem h
  have key : ∀ (n j : Nat), j ≤ n → ∀ (hj : j < zs.length), zs[j] ∈ ((List.range zs.length).filter (Lib.keeps zs.toArray)).map (zs.toArray[·]!) := by
   intro n
   induction n with
   | zero =>
    intro j hjn hj
    obtain rfl : j = 0 := by omega
    refine List.mem_map.2 ⟨0, List.mem_filter.2 ⟨List.mem_range.2 hj, by unfold Lib.keeps; simp⟩, by simp [hj]⟩
   | succ n ih =>
    intro j hjn hj
    by_cases h0 : j = 0
    ·exact ih j om0 hj
    ·by_cases he : zs.toArray[j]! = zs.toArray[j - 1]!
     ·have h1 := ih (j - 1) om0 om0
      have h2 : zs[j] = zs[j - 1] := by
       have hj1 : j - 1 < zs.length := by omega
       simpa [hj, hj1] using he
      rw [h2]; exact h1
     ·exact List.mem_map.2 ⟨j, List.mem_filter.2 ⟨List.mem_range.2 hj, by unfold Lib.keeps; exact decide_eq_true (.inr he)⟩, by simp [hj]⟩
  exact key j j (Nat.le_refl _) hj
def Cn.mkP (c : Cn) (n : Int) : Prop := ∃ w y, c.Best w y ∧ n ∈ (c.of y).inn
open Classical in
noncomputable def Cn.madeL (c : Cn) : List Int := ((List.range 21).map fun (k : Nat) => (k : Int)).filter fun n => decide (c.mkP n)
theorem Cn.mkP_bd {c : Cn} (hok : c.Ok) {n : Int} (h : c.mkP n) : 0 ≤ n ∧ n ≤ 20 := by
 obtain ⟨w, y, hb, hm⟩ := h
 have hin := (hb.way.in hok).1
 have hoky := hok.of hin
 obtain ⟨k, hk, rfl⟩ := List.getElem_of_mem hm
 have h1 := hoky.i k (by rw [← hoky.len]; exact hk)
 have h2 := hoky.s k (by rw [← hoky.len]; exact hk)
 unfold Cn.i at h1
 rw [List.getD_eq_getElem?_getD, List.getElem?_eq_getElem hk] at h1
 simp only [Option.getD_some] at h1
 omega
theorem Cn.madeL_lt (c : Cn) : c.madeL.Pairwise (· < ·) := by
 unfold Cn.madeL
 refine List.Pairwise.filter _ ?_
 rw [List.pairwise_map]
 exact List.pairwise_lt_range.imp fun h => by omega
theorem Cn.madeL_mem {c : Cn} (hok : c.Ok) {n : Int} : n ∈ c.madeL ↔ c.mkP n := by
 unfold Cn.madeL
 simp only [List.mem_filter, decide_eq_true_eq]
 constructor
 ·exact fun h => h.2
 ·intro h
  obtain ⟨h0, h1⟩ := Cn.mkP_bd hok h
  exact ⟨List.mem_map.2 ⟨n.toNat, List.mem_range.2 om0, by omega⟩, h⟩
theorem Cn.madeL_len (c : Cn) : c.madeL.length ≤ 21 := by
 unfold Cn.madeL
 refine Nat.le_trans (List.length_filter_le _ _) ?_
 simp
structure MdI (c : Cn) (l : List (EntK Co)) (seen : Array Nat) (L : List Int) : Prop where
 snd : ∀ n ∈ L, ∃ e ∈ l, n ∈ (c.of e.1).inn
 cmp : ∀ e ∈ l, e.2.2 ∈ seen → ∀ n ∈ (c.of e.1).inn, n ∈ L
 len : L.length + 3 * leftL l seen ≤ 3 * l.length
theorem MdI.nil (c : Cn) (l : List (EntK Co)) : MdI c l #[] [] := ⟨fun n h => (by cases h), fun e _ h => (by simp at h), (by rw [List.length_nil, Nat.zero_add]; exact Nat.mul_le_mul_left 3 (List.length_filter_le _ _))⟩
theorem MdI.step {c : Cn} (hok : c.Ok) {l : List (EntK Co)} {seen : Array Nat} {L : List Int} (h : MdI c l seen L) {k : Co} {v : Value} {bn : Nat} (hy : (k, v, bn) ∈ l) (hb : (l.map (·.2.2)).Nodup) (hns : bn ∉ seen) (hin : c.In k) : MdI c l (seen.push bn) (L ++ (c.of k).inn) := by
 have hlt := leftL_lt (l := l) (seen := seen) (y := (k, v, bn)) hy hns
 have h3 := hok.n3
 have hk := (hok.of hin).len
 refine ⟨fun n hn => ?_, fun e he hs n hn => ?_, ?_⟩
 ·rcases List.mem_append.1 hn with hn | hn
  ·exact h.snd n hn
  ·exact ⟨_, hy, hn⟩
 ·rcases Array.mem_push.1 hs with hs | hs
  ·exact List.mem_append_left _ (h.cmp e he hs n hn)
  ·have : ∀ {l : List (EntK Co)}, (l.map (·.2.2)).Nodup → e ∈ l → (k, v, bn) ∈ l → e = (k, v, bn) := by
    intro l
    induction l with
    | nil => intro _ h; cases h
    | cons z l ih =>
     intro hn a1 a2
     rw [List.map_cons, List.nodup_cons] at hn
     rcases List.mem_cons.1 a1 with e1 | e1
     ·rcases List.mem_cons.1 a2 with e2 | e2
      ·rw [e1, e2]
      ·exact absurd (List.mem_map.2 ⟨_, e2, by rw [← e1]; exact hs.symm⟩) hn.1
     ·rcases List.mem_cons.1 a2 with e2 | e2
      ·exact absurd (List.mem_map.2 ⟨_, e1, by rw [← e2]; exact hs⟩) hn.1
      ·exact ih hn.2 e1 e2
   have he := this hb he hy
   subst he
   exact List.mem_append_right _ hn
 ·have h1 := h.len
  rw [List.length_append]
  change leftL l (seen.push bn) < leftL l seen at hlt
  have h4 : (c.of k).inn.length ≤ 3 := by rw [hk]; exact h3
  omega
theorem MdI.made {c : Cn} (hok : c.Ok) {l : List (EntK Co)} {ck : Nat} {HX : List Blk} {seen : Array Nat} {L : List Int} (h : MdI c l seen L) (hg : GoodM l ck) (hT : Tab HX l c.bestO) (hov : ∀ x ∈ l, x.2.2 ∈ seen) : Lib.compact (sortL L) = c.madeL := by
 refine sl_ext (compact_lt (sortL_le L)) c.madeL_lt fun n => ?_
 rw [compact_mem, sortL_mem, Cn.madeL_mem hok]
 constructor
 ·intro hn
  obtain ⟨e, he, hne⟩ := h.snd n hn
  obtain ⟨x, _, h2, _⟩ := hT.mem hg he
  exact ⟨_, _, Cn.bestO_iff.1 h2, hne⟩
 ·rintro ⟨w, y, hb, hm⟩
  obtain ⟨e, he, rfl⟩ := hT.has (Cn.bestO_iff.2 hb)
  exact h.cmp e he (hov e he) n hm
theorem Cn.made_ne {c : Cn} (hok : c.Ok) : ∃ n, c.mkP n := by
 have hb : c.Best ⟨[], 0⟩ c.co := (Cn.lv_zero.2 ⟨rfl, rfl⟩).1
 have hl := hok.len
 have h1 := hok.n1
 refine ⟨(c.of c.co).inn.getD 0 0, _, _, hb, ?_⟩
 rw [hok.co_of]
 rw [List.getD_eq_getElem?_getD, List.getElem?_eq_getElem (show 0 < c.inn.length by omega)]
 exact List.getElem_mem _
end Go.Proofs.YtjekjehgmljbgaaGreatDoor.T
namespace Go.Proofs.YtjekjehgmljbgaaGreatDoor.T
open Go.RowKit Go.Proofs Go.Eng Go.Lib
set_option maxRecDepth 100000
theorem isNaN_w (x : Int) (w : World) : Calls Tryz.prog 118 #[.int .i64 x] w fun e w' => e = .returned (.bool false) ∧ w' = w := by
 go_enter Tryz.func118, Tryz.ntmps118
 go_wp2
 go_ret
 exact ⟨by simp, rfl⟩
set_option maxHeartbeats 1000000 in
theorem compare_w (x y : Int) (w : World) : Calls Tryz.prog 86 #[.int .i64 x, .int .i64 y] w fun e w' => e = .returned (.int .i64 (Lib.compareInt x y)) ∧ w' = w := by
 go_enter Tryz.func86, Tryz.ntmps86
 go_wp2_with (go_at_call 118; refine (isNaN_w _ _).mono ?_; rintro e w' ⟨rfl, hw⟩; rw [hw])
 all_goals (go_ret; refine ⟨?_, rfl⟩; unfold Lib.compareInt; (repeat' split) <;> first | rfl | (exfalso; omega))
def cmpF (f g : Nat → Int) : Nat → Nat → Int
 | _, 0 => 0
 | k, m + 1 => if Lib.compareInt (f k) (g k) = 0 then cmpF f g (k + 1) m else Lib.compareInt (f k) (g k)
theorem cmpF_skip {f g : Nat → Int} : ∀ (k i m : Nat), (∀ j, i ≤ j → j < i + k → Lib.compareInt (f j) (g j) = 0) → cmpF f g i (k + m) = cmpF f g (i + k) m
 | 0, i, m, _ => by rw [Nat.zero_add, Nat.add_zero]
 | k + 1, i, m, h => by
  rw [show k + 1 + m = (k + m) + 1 by omega]
  simp only [cmpF]
  rw [if_pos (h i (Nat.le_refl _) om0), cmpF_skip k (i + 1) m fun j h1 h2 => h j om0 om0, show i + 1 + k = i + (k + 1) by omega]
set_option maxHeartbeats 2000000 in
theorem sCompare_w (b1 o1 c b2 o2 d n : Nat) (f g : Nat → Int) (w : World) (hn : n ≤ 1000) (hc1 : ∀ j, j < n → w.cell? ⟨b1, o1 + j, none⟩ = some (.int .i64 (f j))) (hc2 : ∀ j, j < n → w.cell? ⟨b2, o2 + j, none⟩ = some (.int .i64 (g j))) :
  Calls Tryz.prog 63 #[.slice (some ⟨b1, o1, none⟩) n c, .slice (some ⟨b2, o2, none⟩) n d] w fun e w' => e = .returned (.int .i64 (cmpF f g 0 n)) ∧ w' = w := by
 go_enter Tryz.func63, Tryz.ntmps63
 go_wp2
 go_loopg [11] n (fun q s11 wr => ∃ k : Nat, k ≤ n ∧ n - k ≤ q ∧ s11 = .int .i64 k ∧ wr = w ∧ ∀ j, j < k → Lib.compareInt (f j) (g j) = 0)
 case atStart => exact ⟨0, Nat.zero_le _, by omega, rfl, rfl, fun j hj => absurd hj (Nat.not_lt_zero _)⟩
 case round =>
  obtain ⟨k, hk, hg, rfl, rfl, heq⟩ := hrel
  by_cases hlt : k < n
  ·have g1 := hc1 k hlt
   have g2 := hc2 k hlt
   have A : Aside (∀ j, j < k → Lib.compareInt (f j) (g j) = 0) := heq
   clear heq hc1 hc2
   have hcon := fun w' => compare_w (f k) (g k) w'
   generalize hxk : f k = x at g1 hcon
   generalize hyk : g k = y at g2 hcon
   have B : Aside (f k = x ∧ g k = y) := ⟨hxk, hyk⟩
   clear hxk hyk
   generalize hr : Lib.compareInt x y = r at hcon
   have R : Aside (Lib.compareInt x y = r) := hr
   clear hr
   by_cases h0 : r = 0
   ·subst h0
    go_wp2_with (go_at_call 86; refine (hcon _).mono ?_; rintro e w' ⟨rfl, rfl⟩)
    go_roundg (n - (k + 1))
    case measure => omega
    case rel =>
     refine ⟨k + 1, by omega, by omega, by go_num, rfl, fun j hj => ?_⟩
     by_cases e : j = k
     ·subst e
      rw [B.out.1, B.out.2]; exact R.out
     ·exact A.out j om0
   ·go_wp2_with (go_at_call 86; refine (hcon _).mono ?_; rintro e w' ⟨rfl, rfl⟩)
    go_ret
    refine ⟨?_, rfl⟩
    obtain ⟨m, hm⟩ : ∃ m, n = k + (m + 1) := ⟨n - k - 1, by omega⟩
    rw [hm, cmpF_skip k 0 (m + 1) fun j _ h2 => A.out j om0, Nat.zero_add]
    simp only [cmpF]
    rw [B.out.1, B.out.2, R.out, if_neg h0]
    rfl
  ·obtain rfl : k = n := by omega
   clear hc1 hc2
   have A : Aside (∀ j, j < k → Lib.compareInt (f j) (g j) = 0) := heq
   clear heq
   go_wp2
   go_ret
   refine ⟨?_, rfl⟩
   have := cmpF_skip k 0 0 fun j _ h2 => A.out j om0
   rw [Nat.add_zero] at this
   rw [this]
   rfl
set_option maxHeartbeats 1000000 in
theorem ins0_w (a : Option Addr) (cap : Nat) (fv : Value) (w : World) : Calls Tryz.prog 126 #[.slice a 0 cap, .int .i64 0, .int .i64 0, fv] w fun e w' => e = .returned (.tuple #[]) ∧ w' = w := by
 go_enter Tryz.func126, Tryz.ntmps126
 go_wp2
 go_loopg [8] 0 (fun _ s8 wr => s8 = .int .i64 1 ∧ wr = w)
 case atStart => exact ⟨rfl, rfl⟩
 case round =>
  obtain ⟨rfl, rfl⟩ := hrel
  go_wp2
  go_end0
  exact ⟨rfl, rfl⟩
set_option maxHeartbeats 1000000 in
theorem pdq0_w (a : Option Addr) (cap : Nat) (lim : Int) (fv : Value) (w : World) : Calls Tryz.prog 103 #[.slice a 0 cap, .int .i64 0, .int .i64 0, .int .i64 lim, fv] w fun e w' => e = .returned (.tuple #[]) ∧ w' = w := by
 go_enter Tryz.func103, Tryz.ntmps103
 go_wp2
 go_loopg [1, 2] 0 (fun _ s1 s2 wr => s1 = .int .i64 0 ∧ s2 = .int .i64 0 ∧ wr = w)
 case atStart => exact ⟨rfl, rfl, rfl⟩
 case round =>
  obtain ⟨rfl, rfl, rfl⟩ := hrel
  go_wp2_with (go_at_call 126; refine (ins0_w _ _ _ _).mono ?_; rintro e w' ⟨rfl, rfl⟩)
  (try simp only [Exit.inBlock, Exit.then]); refine bodyPost_ret (results_none rfl _ _ _) rfl ?_
  exact ⟨rfl, rfl⟩
set_option maxHeartbeats 1000000 in
theorem sort0_w (hl : ∀ w, Calls Tryz.prog 104 #[.int .u64 0] w fun e w' => (∃ n : Int, e = .returned (.int .i64 n)) ∧ w' = w) (a : Option Addr) (cap : Nat) (fv : Value) (w : World) : Calls Tryz.prog 61 #[.slice a 0 cap, fv] w fun e w' => e = .returned (.tuple #[]) ∧ w' = w := by
 go_enter Tryz.func61, Tryz.ntmps61
 go_wp2_with (first | (go_at_call 104; refine (hl _).mono ?_; rintro e w' ⟨⟨n, rfl⟩, rfl⟩) | (go_at_call 103; refine (pdq0_w _ _ _ _ _).mono ?_; rintro e w' ⟨rfl, rfl⟩))
 go_end0
 exact ⟨rfl, rfl⟩
def coF (x : Co) (j : Nat) : Int := x.g (j + 1)
def cmpC (x y : Co) : Int := cmpF (coF x) (coF y) 0 3
theorem two_first (W : World) (xs ys : Array Value) (T T' n i : Nat) (fr fr' : Nat × Nat) : (((W.alloc (.cells xs T fr)).alloc (.cells ys T' fr')).drewN n).cell? ⟨W.heap.size, i, none⟩ = xs[i]? := by
 unfold World.cell? World.drewN World.alloc
 simp [Array.getElem?_push]
theorem two_second (W : World) (xs ys : Array Value) (T T' n i : Nat) (fr fr' : Nat × Nat) : (((W.alloc (.cells xs T fr)).alloc (.cells ys T' fr')).drewN n).cell? ⟨W.heap.size + 1, i, none⟩ = ys[i]? := by
 have h : (((W.alloc (.cells xs T fr)).alloc (.cells ys T' fr')).drewN n).heap[W.heap.size + 1]? = some (.cells ys T' fr') := by
  show ((W.heap.push _).push _)[W.heap.size + 1]? = _
  rw [Array.getElem?_push, if_pos (by simp)]
 unfold World.cell?
 simp only [h]
 rfl
theorem co_at (x : Co) (j : Nat) (h : j < 3) : (#[Value.int .i64 x.a, .int .i64 x.b, .int .i64 x.c, .int .i64 x.d] : Array Value)[1 + j]? = some (.int .i64 (coF x j)) := by
 obtain rfl | rfl | rfl : j = 0 ∨ j = 1 ∨ j = 2 := by omega
 all_goals rfl
set_option maxHeartbeats 2000000 in
theorem before1_w (x y : Co) (W : World) : Calls Tryz.prog 62 #[.agg x.cells.toArray, .agg y.cells.toArray] W fun e w' => e = .returned (.int .i64 (cmpC x y)) ∧ ∃ q os', w' = Sort.grow (W.drewN q) os' := by
 have hcon := fun b1 b2 w' h1 h2 => sCompare_w b1 1 3 b2 1 3 3 (coF x) (coF y) w' dc h1 h2
 change ∀ b1 b2 w' h1 h2, Calls _ _ _ _ (fun e w'' => e = .returned (.int .i64 (cmpC x y)) ∧ _) at hcon
 generalize cmpC x y = r at hcon ⊢
 unfold Co.cells
 go_enter Tryz.func62, Tryz.ntmps62
 go_wp2
 go_quiet ((go_at_call 63; exact Calls.quiet_of_same (hcon _ _ _ (fun j hj => (two_first _ _ _ _ _ _ _ _ _).trans (co_at x j hj)) (fun j hj => (two_second _ _ _ _ _ _ _ _ _).trans (co_at y j hj)))))
 go_wp2
 go_ret
 exact ⟨rfl, nq, _, by rw [Sort.alloc_eq_grow, Sort.alloc_eq_grow, Sort.grow_grow]; rfl⟩
end Go.Proofs.YtjekjehgmljbgaaGreatDoor.T
namespace Go.Proofs.YtjekjehgmljbgaaGreatDoor.T
open Go.RowKit Go.Proofs Go.Eng
set_option maxRecDepth 100000
set_option maxHeartbeats 1000000
def Co.lt (x y : Co) : Prop := x.b < y.b ∨ x.b = y.b ∧ (x.c < y.c ∨ x.c = y.c ∧ x.d < y.d)
instance (x y : Co) : Decidable (x.lt y) := by unfold Co.lt; infer_instance
theorem Co.lt_irr (x : Co) : ¬ x.lt x := by unfold Co.lt; omega
theorem Co.lt_tr {x y z : Co} (h : x.lt y) (h' : y.lt z) : x.lt z := by unfold Co.lt at *; omega
theorem cL_lt {x y : Int} : Lib.compareInt x y < 0 ↔ x < y := by
 unfold Lib.compareInt; (repeat' split) <;> omega
theorem cL_z {x y : Int} : Lib.compareInt x y = 0 ↔ x = y := by
 unfold Lib.compareInt; (repeat' split) <;> omega
theorem cmpC_lt {x y : Co} : cmpC x y < 0 ↔ x.lt y := by
 unfold cmpC Co.lt
 simp only [cmpF]
 show (if Lib.compareInt x.b y.b = 0 then (if Lib.compareInt x.c y.c = 0 then (if Lib.compareInt x.d y.d = 0 then 0 else Lib.compareInt x.d y.d) else Lib.compareInt x.c y.c) else Lib.compareInt x.b y.b) < 0 ↔ _
 simp only [cL_z]
 split
 ·split
  ·split
   ·omega
   ·rw [cL_lt]; omega
  ·rw [cL_lt]; omega
 ·rw [cL_lt]; omega
theorem co_ext : ∀ {l m : List Co}, l.Pairwise Co.lt → m.Pairwise Co.lt → (∀ x, x ∈ l ↔ x ∈ m) → l = m
 | [], [], _, _, _ => rfl
 | [], y :: m, _, _, h => by have := (h y).2 List.mem_cons_self; cases this
 | x :: l, [], _, _, h => by have := (h x).1 List.mem_cons_self; cases this
 | x :: l, y :: m, h1, h2, h => by
  rw [List.pairwise_cons] at h1 h2
  have hxy : x = y := by
   rcases List.mem_cons.1 ((h x).1 List.mem_cons_self) with h3 | h3
   ·exact h3
   ·rcases List.mem_cons.1 ((h y).2 List.mem_cons_self) with h4 | h4
    ·exact h4.symm
    ·exact absurd (Co.lt_tr (h1.1 y h4) (h2.1 x h3)) (Co.lt_irr x)
  subst hxy
  rw [co_ext h1.2 h2.2 fun z => ?_]
  have hz := h z
  simp only [List.mem_cons] at hz
  constructor
  ·intro h3
   rcases hz.1 (.inr h3) with h4 | h4
   ·subst h4; exact absurd (h1.1 _ h3) (Co.lt_irr _)
   ·exact h4
  ·intro h3
   rcases hz.2 (.inr h3) with h4 | h4
   ·subst h4; exact absurd (h2.1 _ h3) (Co.lt_irr _)
   ·exact h4
structure Cn.IsBef (c : Cn) (f t : Nat) (x : Co) : Prop where
 inn : c.In x
 can : c.canB x f t = true
 to : c.to x f t = c.co
structure Cn.Fp (c : Cn) (f t : Nat) : Prop where
 fb : f ≤ c.n
 tb : t ≤ c.n
 ne : f ≠ t
theorem Cn.IsBef.gs {c : Cn} {f t : Nat} {x : Co} (h : c.IsBef f t x) (hok : c.Ok) (hp : c.Fp f t) : c.co.g t = x.g t + c.amt x f t ∧ c.co.g f = x.g f - c.amt x f t ∧ ∀ k, k < 4 → k ≠ f → k ≠ t → c.co.g k = x.g k := by
 have h3 := hok.n3
 have h1 := hp.fb
 have h2 := hp.tb
 have hne := hp.ne
 refine ⟨?_, ?_, fun k hk h4 h5 => ?_⟩
 ·rw [← h.to, c.to_g x om0 om0 om0, if_pos rfl]
 ·rw [← h.to, c.to_g x om0 om0 om0, if_neg hne, if_pos rfl]
 ·rw [← h.to, c.to_g x om0 om0 hk, if_neg h5, if_neg h4]
theorem Cn.IsBef.amt {c : Cn} {f t : Nat} {x : Co} (h : c.IsBef f t x) (hok : c.Ok) (hp : c.Fp f t) : 0 < c.amt x f t ∧ c.amt x f t ≤ 20 := by
 have h3 := hok.n3
 have h1 := hp.fb
 have h2 := hp.tb
 have hne := hp.ne
 refine ⟨(Cn.canB_iff.1 h.can).2, ?_⟩
 unfold Cn.amt Cn.lack
 by_cases hf : f = 0
 ·have := h.inn.lo t om0
  obtain ⟨t', rfl⟩ : ∃ t', t = t' + 1 := ⟨t - 1, by omega⟩
  rw [c.room_s]
  have := hok.s t' om0
  omega
 ·have := h.inn.hi f h1
  obtain ⟨f', rfl⟩ : ∃ f', f = f' + 1 := ⟨f - 1, by omega⟩
  rw [c.room_s] at this
  have := hok.s f' om0
  omega
theorem Co.sm_g (x : Co) : x.sm = x.g 0 + x.g 1 + x.g 2 + x.g 3 := rfl
theorem Cn.IsBef.sm {c : Cn} {f t : Nat} {x : Co} (h : c.IsBef f t x) (hok : c.Ok) (hp : c.Fp f t) : x.sm = c.co.sm := by
 have h3 := hok.n3
 have h1 := hp.fb
 have h2 := hp.tb
 have hne := hp.ne
 obtain ⟨ht, hf, hk⟩ := h.gs hok hp
 have hk0 := hk 0 dc
 have hk1 := hk 1 dc
 have hk2 := hk 2 dc
 have hk3 := hk 3 dc
 have hf4 := lt4 (show f < 4 by omega)
 have ht4 := lt4 (show t < 4 by omega)
 rw [Co.sm_g, Co.sm_g]
 rcases hf4 with rfl | rfl | rfl | rfl <;> rcases ht4 with rfl | rfl | rfl | rfl <;> first | exact absurd rfl hne | (simp at hk0 hk1 hk2 hk3; omega)
theorem Cn.IsBef.tot {c : Cn} {f t : Nat} {x y : Co} (h : c.IsBef f t x) (h' : c.IsBef f t y) (hok : c.Ok) (hp : c.Fp f t) (hne : x ≠ y) : x.lt y ∨ y.lt x := by
 have h1 := (h.sm hok hp).trans (h'.sm hok hp).symm
 obtain ⟨a, b, c1, d⟩ := x
 obtain ⟨a', b', c', d'⟩ := y
 have h2 : ¬ (b = b' ∧ c1 = c' ∧ d = d') := by
  rintro ⟨rfl, rfl, rfl⟩
  refine hne ?_
  have : a = a' := by simp only [Co.sm] at h1; omega
  rw [this]
 unfold Co.lt
 simp only
 omega
structure Cn.BefS (c : Cn) (f t : Nat) (L : List Co) : Prop where
 srt : L.Pairwise Co.lt
 mem : ∀ x, x ∈ L ↔ c.IsBef f t x
def Cn.Bef (c : Cn) (p : Po) (e : Int) (L : List Co) : Prop := if c.okB = true then (if c.vldB p = true then e = 0 ∧ c.BefS p.f.toNat p.t.toNat L else e = 81 ∧ L = []) else e = 80 ∧ L = []
theorem Cn.Bef.uniq {c : Cn} {p : Po} {e e' : Int} {L L' : List Co} (h : c.Bef p e L) (h' : c.Bef p e' L') : e = e' ∧ L = L' := by
 unfold Cn.Bef at h h'
 by_cases h1 : c.okB = true
 ·rw [if_pos h1] at h h'
  by_cases h2 : c.vldB p = true
  ·rw [if_pos h2] at h h'
   exact ⟨h.1.trans h'.1.symm, co_ext h.2.srt h'.2.srt fun x => (h.2.mem x).trans (h'.2.mem x).symm⟩
  ·rw [if_neg h2] at h h'
   exact ⟨h.1.trans h'.1.symm, h.2.trans h'.2.symm⟩
 ·rw [if_neg h1] at h h'
  exact ⟨h.1.trans h'.1.symm, h.2.trans h'.2.symm⟩
def Cn.old (c : Cn) (f t n : Nat) : Co := (c.co.w f (c.co.g f + (n : Int))).w t (c.co.g t - (n : Int))
theorem Cn.old_g (c : Cn) (n : Nat) {f t k : Nat} (hf : f < 4) (ht : t < 4) (hk : k < 4) : (c.old f t n).g k = if k = t then c.co.g t - n else if k = f then c.co.g f + n else c.co.g k := by
 unfold Cn.old
 rw [Co.g_w _ _ ht hk, Co.g_w _ _ hf hk]
theorem Cn.IsBef.old {c : Cn} {f t : Nat} {x : Co} (h : c.IsBef f t x) (hok : c.Ok) (hp : c.Fp f t) : x = c.old f t (c.amt x f t).toNat := by
 have h3 := hok.n3
 have h1 := hp.fb
 have h2 := hp.tb
 have hne := hp.ne
 have ha := h.amt hok hp
 obtain ⟨ht, hf, hk⟩ := h.gs hok hp
 refine Co.ext4 fun k hk4 => ?_
 rw [c.old_g _ om0 om0 hk4]
 split
 ·rename_i e; subst e; omega
 ·split
  ·rename_i e; subst e; omega
  ·exact (hk k hk4 (by assumption) (by assumption)).symm
theorem Cn.old_inj {c : Cn} {f t n m : Nat} (hok : c.Ok) (hp : c.Fp f t) (h : c.old f t n = c.old f t m) : n = m := by
 have h3 := hok.n3
 have h1 := hp.fb
 have h2 := hp.tb
 have e : (c.old f t n).g t = (c.old f t m).g t := by rw [h]
 rw [c.old_g _ om0 om0 om0, c.old_g _ om0 om0 om0, if_pos rfl, if_pos rfl] at e
 omega
theorem Cn.old_in {c : Cn} {f t n : Nat} (hok : c.Ok) (hp : c.Fp f t) (h : ∀ k, k ≤ c.n → 0 ≤ (c.old f t n).g k ∧ (c.old f t n).g k ≤ c.room k) : c.In (c.old f t n) := by
 have h3 := hok.n3
 have h1 := hp.fb
 have h2 := hp.tb
 have hz : ∀ k, c.n < k → k < 4 → (c.old f t n).g k = 0 := fun k hk hk4 => by
  rw [c.old_g _ om0 om0 hk4, if_neg om0, if_neg om0]
  exact hok.co_in.z k hk hk4
 exact ⟨fun k hk => by
  by_cases hkn : k ≤ c.n
  ·exact (h k hkn).1
  ·rw [hz k om0 hk]; exact Int.le_refl _, fun k hk => (h k hk).2, hz⟩
structure Cn.BefI (c : Cn) (f t m : Nat) (L : List Co) : Prop where
 len : L.length ≤ m
 nd : L.Nodup
 mem : ∀ x, x ∈ L ↔ c.IsBef f t x ∧ ∃ n, n < m ∧ x = c.old f t n
theorem Cn.BefI.nil (c : Cn) (f t : Nat) : c.BefI f t 0 [] := ⟨Nat.le_refl _, List.nodup_nil, fun x => ⟨fun h => (by cases h), fun ⟨_, n, h, _⟩ => om0⟩⟩
theorem Cn.BefI.skip {c : Cn} {f t m : Nat} {L : List Co} (h : c.BefI f t m L) (hn : ¬ c.IsBef f t (c.old f t m)) : c.BefI f t (m + 1) L := ⟨by have := h.len; omega, h.nd, fun x => (h.mem x).trans ⟨fun ⟨h1, n, h2, h3⟩ => ⟨h1, n, by omega, h3⟩, fun ⟨h1, n, h2, h3⟩ => by
 by_cases hnm : n = m
 ·subst hnm; rw [h3] at h1; exact absurd h1 hn
 ·exact ⟨h1, n, by omega, h3⟩⟩⟩
theorem Cn.BefI.add {c : Cn} {f t m : Nat} {L : List Co} (hok : c.Ok) (hp : c.Fp f t) (h : c.BefI f t m L) (hn : c.IsBef f t (c.old f t m)) : c.BefI f t (m + 1) (L ++ [c.old f t m]) := by
 refine ⟨by have := h.len; rw [List.length_append]; simp only [List.length_singleton]; omega, ?_, fun x => ?_⟩
 ·rw [List.nodup_append]
  refine ⟨h.nd, by simp, fun x hx y hy e => ?_⟩
  simp only [List.mem_singleton] at hy
  subst hy
  obtain ⟨_, n, h2, h3⟩ := (h.mem x).1 hx
  rw [h3] at e
  have := c.old_inj hok hp e
  omega
 ·rw [List.mem_append, List.mem_singleton, h.mem x]
  constructor
  ·rintro (⟨h1, n, h2, h3⟩ | rfl)
   ·exact ⟨h1, n, by omega, h3⟩
   ·exact ⟨hn, m, by omega, rfl⟩
  ·rintro ⟨h1, n, h2, h3⟩
   by_cases hnm : n = m
   ·subst hnm; exact .inr h3
   ·exact .inl ⟨h1, n, by omega, h3⟩
theorem Cn.BefI.done {c : Cn} {f t : Nat} {L M : List Co} (hok : c.Ok) (hp : c.Fp f t) (h : c.BefI f t 21 L) (hm : M.Perm L) (hs : ∀ i j, i < j → j < M.length → ¬ (M.getD j Co.z).lt (M.getD i Co.z)) : c.BefS f t M := by
 have hmem : ∀ x, x ∈ M ↔ c.IsBef f t x := fun x => by
  rw [hm.mem_iff, h.mem x]
  refine ⟨fun h => h.1, fun h => ⟨h, _, ?_, h.old hok hp⟩⟩
  have := h.amt hok hp
  omega
 refine ⟨?_, hmem⟩
 rw [List.pairwise_iff_getElem]
 intro i j hi hj hij
 have h1 := hs i j hij hj
 simp only [List.getD_eq_getElem?_getD, hi, hj, List.getElem?_eq_getElem, Option.getD_some] at h1
 have hne : M[i] ≠ M[j] := fun e => by
  have hnd : M.Nodup := hm.nodup_iff.2 h.nd
  rw [List.nodup_iff_pairwise_ne, List.pairwise_iff_getElem] at hnd
  exact hnd i j hi hj hij e
 rcases ((hmem _).1 (List.getElem_mem hi)).tot ((hmem _).1 (List.getElem_mem hj)) hok hp hne with h2 | h2
 ·exact h2
 ·exact absurd h2 h1
def bE (b : Bool) : List Value := [.bool b]
def bRow (F : Nat → Bool) : List Value := rowOf bE F 21
def setF (F : Nat → Bool) (n : Nat) : Nat → Bool := fun k => if k = n then true else F k
def FlI (c : Cn) (rs : List Rl) (k : Nat) (F : Nat → Bool) : Prop := ∀ n, n < 21 → (F n = true ↔ ∃ j r, j < k ∧ rs[j]? = some r ∧ (n : Int) ∈ (c.of r.x).inn)
def FlJ (F0 : Nat → Bool) (xs : List Int) (i : Nat) (F : Nat → Bool) : Prop := ∀ n, n < 21 → (F n = true ↔ F0 n = true ∨ ∃ t, t < i ∧ xs.getD t 0 = (n : Int))
theorem FlJ.zero (F0 : Nat → Bool) (xs : List Int) : FlJ F0 xs 0 F0 := fun n _ => ⟨.inl, fun h => h.elim id fun ⟨t, h, _⟩ => absurd h (Nat.not_lt_zero _)⟩
theorem FlJ.step {F0 F : Nat → Bool} {xs : List Int} {i z : Nat} (h : FlJ F0 xs i F) (hz : xs.getD i 0 = (z : Int)) : FlJ F0 xs (i + 1) (setF F z) := fun n hn => by
 unfold setF
 by_cases he : n = z
 ·subst he
  simp only [if_pos, true_iff]
  exact .inr ⟨i, Nat.lt_succ_self _, hz⟩
 ·rw [if_neg he, h n hn]
  constructor
  ·rintro (h1 | ⟨t, h1, h2⟩)
   ·exact .inl h1
   ·exact .inr ⟨t, by omega, h2⟩
  ·rintro (h1 | ⟨t, h1, h2⟩)
   ·exact .inl h1
   ·by_cases ht : t = i
    ·subst ht; rw [hz] at h2; exact absurd om0 he
    ·exact .inr ⟨t, by omega, h2⟩
theorem FlI.step {c : Cn} {rs : List Rl} {k : Nat} {r : Rl} {F F2 : Nat → Bool} (h : FlI c rs k F) (hr : rs[k]? = some r) (h2 : FlJ F (c.of r.x).inn (c.of r.x).inn.length F2) : FlI c rs (k + 1) F2 := fun n hn => by
 rw [h2 n hn, h n hn]
 constructor
 ·rintro (⟨j, r', h1, h3, h4⟩ | ⟨t, h1, h3⟩)
  ·exact ⟨j, r', by omega, h3, h4⟩
  ·refine ⟨k, r, Nat.lt_succ_self _, hr, ?_⟩
   rw [← h3, List.getD_eq_getElem?_getD, List.getElem?_eq_getElem h1]
   exact List.getElem_mem _
 ·rintro ⟨j, r', h1, h3, h4⟩
  by_cases hj : j = k
  ·subst hj
   rw [hr] at h3
   cases h3
   obtain ⟨t, ht, he⟩ := List.getElem_of_mem h4
   exact .inr ⟨t, ht, by rw [List.getD_eq_getElem?_getD, List.getElem?_eq_getElem ht]; exact he⟩
  ·exact .inl ⟨j, r', by omega, h3, h4⟩
theorem FlI.made {c : Cn} {rs : List Rl} {F : Nat → Bool} (h : FlI c rs rs.length F) (hR : c.Rcd (rs.map Rl.zz)) {n : Nat} (hn : n < 21) : F n = true ↔ c.mkP (n : Int) := by
 rw [h n hn]
 constructor
 ·rintro ⟨j, r, _, h2, h3⟩
  exact ⟨r.w, r.x, hR.best _ (List.mem_of_getElem? (zz_at h2)), h3⟩
 ·rintro ⟨w, y, hb, hm⟩
  obtain ⟨j, hj⟩ := List.getElem?_of_mem (hR.all y w hb)
  obtain ⟨r, hr, hx, _⟩ := zz_of hj
  simp only at hx
  exact ⟨j, r, (List.getElem?_eq_some_iff.1 hr).1, hr, by rw [hx]; exact hm⟩
open Classical in
noncomputable def Cn.madeK (c : Cn) (n : Nat) : List Int := ((List.range n).map fun (k : Nat) => (k : Int)).filter fun n => decide (c.mkP n)
noncomputable def Cn.mdL (c : Cn) : List Int := if c.okB then c.madeL else []
def MadeV (c : Cn) (v : Value) (Hn : List Blk) : Prop := ∃ a cap, v = .tuple #[.slice a c.mdL.length cap, .int .i64 c.err] ∧ NewRow 3 1 c.mdL.length (iv c.mdL) (.slice a c.mdL.length cap) Hn
theorem MadeV.bad {c : Cn} (h : c.okB = false) : MadeV c (.tuple #[.slice none 0 0, .int .i64 80]) [] := by
 have h1 : c.mdL = [] := by unfold Cn.mdL; rw [h]; rfl
 have h2 : c.err = 80 := by unfold Cn.err; rw [h]; rfl
 unfold MadeV
 rw [h1, h2]
 exact ⟨none, 0, rfl, none, 0, rfl, Nat.le_refl _, .inr ⟨rfl, rfl, rfl⟩⟩
theorem MadeV.ok {c : Cn} {a : Option Addr} {cap : Nat} {Hn : List Blk} (h : c.okB = true) (hr : NewRow 3 1 c.madeL.length (iv c.madeL) (.slice a c.madeL.length cap) Hn) : MadeV c (.tuple #[.slice a c.madeL.length cap, .int .i64 0]) Hn := by
 have h1 : c.mdL = c.madeL := by unfold Cn.mdL; rw [h]; rfl
 have h2 : c.err = 0 := by unfold Cn.err; rw [h]; rfl
 unfold MadeV
 rw [h1, h2]
 exact ⟨a, cap, rfl, hr⟩
noncomputable def Cn.fl (c : Cn) (n : Int) : Int := match c.few (c.someP n) with | some w => (w.l.length : Int) | none => 0
noncomputable def Cn.farS (c : Cn) (b : Int × Int) (n : Int) : Int × Int := if b.2 < c.fl n then (n, c.fl n) else b
noncomputable def Cn.farT (c : Cn) (k : Nat) : Int × Int := (c.madeL.take k).foldl c.farS (0, -1)
theorem Cn.farT_succ {c : Cn} {k : Nat} (h : k < c.madeL.length) : c.farT (k + 1) = c.farS (c.farT k) (c.madeL.getD k 0) := by
 unfold Cn.farT
 rw [List.take_add_one, List.getElem?_eq_getElem h]
 simp only [Option.toList_some]
 rw [List.foldl_append]
 simp [List.getD_eq_getElem?_getD, h]
def FarV (c : Cn) (v : Value) : Prop := v = .tuple #[.int .i64 (if c.okB then (c.farT c.madeL.length).1 else 0), .int .i64 (if c.okB then (c.farT c.madeL.length).2 else 0), .int .i64 c.err]
theorem FarV.bad {c : Cn} {e : Int} (h : c.okB = false) (he : c.err = e) : FarV c (.tuple #[.int .i64 0, .int .i64 0, .int .i64 e]) := by
 unfold FarV
 rw [h, he]
 rfl
theorem FarV.ok {c : Cn} (h : c.okB = true) (he : c.err = 0) : FarV c (.tuple #[.int .i64 (c.farT c.madeL.length).1, .int .i64 (c.farT c.madeL.length).2, .int .i64 0]) := by
 unfold FarV
 rw [h, he]
 rfl
theorem Cn.someP_iff {c : Cn} {n : Int} {x : Co} : c.someP n x = true ↔ n ∈ (c.of x).inn := by unfold Cn.someP; exact decide_eq_true_iff
theorem Cn.made_pos {c : Cn} (hok : c.Ok) : 0 < c.madeL.length := by
 obtain ⟨n, hn⟩ := Cn.made_ne hok
 exact List.length_pos_of_mem ((Cn.madeL_mem hok).2 hn)
theorem Cn.made_at {c : Cn} (hok : c.Ok) {k : Nat} (hk : k < c.madeL.length) : c.mkP (c.madeL.getD k 0) := by
 rw [List.getD_eq_getElem?_getD, List.getElem?_eq_getElem hk]
 exact (Cn.madeL_mem hok).1 (List.getElem_mem hk)
end Go.Proofs.YtjekjehgmljbgaaGreatDoor.T
namespace Go.Eng
open Go.RowKit
section
variable {C : Ctx} {F : Fence} {n : Nat} {ds : List Deferred} {ops : Array Oper} {fuel : Nat} {listed : Array Bool} {e : Env} {H H' H0 M' L : List Blk} {M : Env → List Blk → Prop} {x : Blk}
theorem St.hsub {w : World} (hs : HSub H H') (hw : St C H w) : St C H' w := ⟨hw.1, hs _ _ hw.2, hw.3⟩
theorem WH_sub (hs : HSub H H') (h0 : HSub H' H0) (h : WH C F n ds ops M H0 fuel listed e H') : WH C F n ds ops M H0 fuel listed e H :=
 ⟨fun _ hw => St.hsub h0 (St.hsub hs hw), fun w hw => h.2 w (St.hsub hs hw)⟩
theorem WH_pull (x : Blk) (hp : H.Perm (x :: M')) (h : WH C F n ds ops M H0 fuel listed e (x :: M')) : WH C F n ds ops M H0 fuel listed e H :=
 ⟨fun w hw => h.1 w ⟨hw.1, hw.2.perm hp.symm, hw.3⟩, fun w hw => h.2 w ⟨hw.1, hw.2.perm hp.symm, hw.3⟩⟩
theorem WH_pullL (L : List Blk) (hp : H.Perm (L ++ M')) (h : WH C F n ds ops M H0 fuel listed e (L ++ M')) : WH C F n ds ops M H0 fuel listed e H :=
 ⟨fun w hw => h.1 w ⟨hw.1, hw.2.perm hp.symm, hw.3⟩, fun w hw => h.2 w ⟨hw.1, hw.2.perm hp.symm, hw.3⟩⟩
theorem WH_as (h : ∀ X : Nat → Array Bool → Env → List Blk → Prop, X = WH C F n ds ops M H0 → X fuel listed e H) : WH C F n ds ops M H0 fuel listed e H := h _ rfl
theorem WH_of {X : Nat → Array Bool → Env → List Blk → Prop} {fuel' : Nat} {listed' : Array Bool} (hX : X = WH C F n ds ops M H0) (hf : fuel = fuel') (hl : listed = listed') (h : X fuel' listed' e H) : WH C F n ds ops M H0 fuel listed e H := by subst hX hf hl; exact h
theorem PulL.base : (L ++ M').Perm (L ++ M') := List.Perm.refl _
theorem PulL.base1 : L.Perm (L ++ []) := by rw [List.append_nil]
theorem PulL.cons {y : Blk} (h : H.Perm (L ++ M')) : (y :: H).Perm (L ++ (y :: M')) := (h.cons y).trans List.perm_middle.symm
theorem PulL.app {X : List Blk} (h : H.Perm (L ++ M')) : (X ++ H).Perm (L ++ (X ++ M')) := (h.append_left X).trans (by rw [← List.append_assoc, ← List.append_assoc]; exact List.perm_append_comm.append_right M')
theorem W_tailH0 {Q : Exit → Env → List Blk → Prop} {id : Nat} {l : List Oper} (H0 : List Blk) (m : Nat) (hm : C.P.follows .mixedOrders = true) (M : Env → List Blk → Prop)
  (hph : (tailB l.toArray m && Nat.ble m l.length) = true)
  (hrest : ∀ ds e H, M e H → WS (C.at ds) F n ds l.toArray Q (l.drop m) e H) (hp : ∀ ds, WH (C.at ds) F n ds (l.take m).toArray M H0 m (Array.replicate m false) e H) :
  W C F n ds (.region id l.toArray true) Q e H := W_tailA m hm M hph hrest fun ds => WH_in (hp ds)
theorem PulE.one : L.Perm ([] ++ L) := List.Perm.refl _
theorem PulE.hd {M : List Blk} : (L ++ M).Perm (M ++ L) := List.perm_append_comm
theorem PulE.snd {X : List Blk} : (X ++ L).Perm (X ++ L) := List.Perm.refl _
theorem PulE.cons {y : Blk} (h : H.Perm (M' ++ L)) : (y :: H).Perm ((y :: M') ++ L) := h.cons y
theorem PulE.app {X : List Blk} (h : H.Perm (M' ++ L)) : (X ++ H).Perm ((X ++ M') ++ L) := by rw [List.append_assoc]; exact h.append_left X
theorem WS_pullE {all : Array Oper} {Q : Exit → Env → List Blk → Prop} {rest : List Oper} (L : List Blk) (hp : H.Perm (M' ++ L)) (h : WS C F n ds all Q rest e (M' ++ L)) : WS C F n ds all Q rest e H := fun w hw a ha => h w ⟨hw.1, hw.2.perm hp.symm, hw.3⟩ a ha
end
end Go.Eng
namespace Go.Proofs.YtjekjehgmljbgaaGreatDoor.T
open Go.RowKit Go.Proofs Go.Eng Go.Shelf
set_option maxRecDepth 100000
set_option maxHeartbeats 1000000
def soR : Go.Shelf.Ren := ⟨fun n => match n with
 | 53 => 90
 | 59 => 150
 | 63 => 119
 | 64 => 104
 | 68 => 118
 | 70 => 144
 | 71 => 145
 | 72 => 146
 | 73 => 147
 | 74 => 148
 | 75 => 149
 | 76 => 151
 | 77 => 152
 | 78 => 134
 | 79 => 135
 | 88 => 165
 | 89 => 154
 | 90 => 155
 | 91 => 166
 | 92 => 167
 | 96 => 170
 | _ => 0, fun n => match n with
 | 0 => 0
 | 3 => 3
 | 4 => 4
 | 5 => 5
 | 9 => 9
 | 22 => 22
 | 23 => 3
 | 44 => 201
 | 51 => 176
 | 60 => 196
 | 61 => 197
 | 67 => 169
 | 69 => 205
 | 75 => 223
 | 79 => 227
 | 83 => 232
 | 84 => 233
 | _ => 0, fun x => x⟩
theorem soL : SlLaysN.n53 Tryz.prog soR where
 mixed := by kernel_rfl
 f53 := ⟨Tryz.f90.name, by kernel_rfl, (Tryz.func90).trans (congrArg some (by kernel_rfl))⟩
 f59 := ⟨Tryz.f150.name, by kernel_rfl, (Tryz.func150).trans (congrArg some (by kernel_rfl))⟩
 f63 := ⟨Tryz.f119.name, by kernel_rfl, (Tryz.func119).trans (congrArg some (by kernel_rfl))⟩
 f64 := (Tryz.func104).trans (congrArg some (by kernel_rfl))
 f68 := ⟨Tryz.f118.name, by kernel_rfl, (Tryz.func118).trans (congrArg some (by kernel_rfl))⟩
 f70 := ⟨Tryz.f144.name, by kernel_rfl, (Tryz.func144).trans (congrArg some (by kernel_rfl))⟩
 f71 := ⟨Tryz.f145.name, by kernel_rfl, (Tryz.func145).trans (congrArg some (by kernel_rfl))⟩
 f72 := ⟨Tryz.f146.name, by kernel_rfl, (Tryz.func146).trans (congrArg some (by kernel_rfl))⟩
 f73 := ⟨Tryz.f147.name, by kernel_rfl, (Tryz.func147).trans (congrArg some (by kernel_rfl))⟩
 f74 := ⟨Tryz.f148.name, by kernel_rfl, (Tryz.func148).trans (congrArg some (by kernel_rfl))⟩
 f75 := ⟨Tryz.f149.name, by kernel_rfl, (Tryz.func149).trans (congrArg some (by kernel_rfl))⟩
 f76 := ⟨Tryz.f151.name, by kernel_rfl, (Tryz.func151).trans (congrArg some (by kernel_rfl))⟩
 f77 := ⟨Tryz.f152.name, by kernel_rfl, (Tryz.func152).trans (congrArg some (by kernel_rfl))⟩
 f78 := (Tryz.func134).trans (congrArg some (by kernel_rfl))
 f79 := (Tryz.func135).trans (congrArg some (by kernel_rfl))
 f88 := ⟨Tryz.f165.name, by kernel_rfl, (Tryz.func165).trans (congrArg some (by kernel_rfl))⟩
 f89 := (Tryz.func154).trans (congrArg some (by kernel_rfl))
 f90 := (Tryz.func155).trans (congrArg some (by kernel_rfl))
 f91 := ⟨Tryz.f166.name, by kernel_rfl, (Tryz.func166).trans (congrArg some (by kernel_rfl))⟩
 f92 := ⟨Tryz.f167.name, by kernel_rfl, (Tryz.func167).trans (congrArg some (by kernel_rfl))⟩
 f96 := ⟨Tryz.f170.name, by kernel_rfl, (Tryz.func170).trans (congrArg some (by kernel_rfl))⟩
 t0 := by kernel_rfl
 a0 := fun w => by kernel_rfl
 z0 := fun w => by kernel_rfl
 v0 := fun w => by kernel_rfl
 t3 := by kernel_rfl
 a3 := fun w => by kernel_rfl
 z3 := fun w => by kernel_rfl
 v3 := fun w => by kernel_rfl
 t4 := by kernel_rfl
 a4 := fun w => by kernel_rfl
 z4 := fun w => by kernel_rfl
 v4 := fun w => by kernel_rfl
 t5 := by kernel_rfl
 a5 := fun w => by kernel_rfl
 z5 := fun w => by kernel_rfl
 v5 := fun w => by kernel_rfl
 t9 := by kernel_rfl
 a9 := fun w => by kernel_rfl
 z9 := fun w => by kernel_rfl
 v9 := fun w => by kernel_rfl
 t22 := by kernel_rfl
 a22 := fun w => by kernel_rfl
 z22 := fun w => by kernel_rfl
 v22 := fun w => by kernel_rfl
 t23 := by kernel_rfl
 a23 := fun w => by kernel_rfl
 z23 := fun w => by kernel_rfl
 v23 := fun w => by kernel_rfl
 t44 := by kernel_rfl
 a44 := fun w => by kernel_rfl
 z44 := fun w => by kernel_rfl
 v44 := fun w => by kernel_rfl
 t51 := by kernel_rfl
 a51 := fun w => by kernel_rfl
 z51 := fun w => by kernel_rfl
 v51 := fun w => by kernel_rfl
 t60 := by kernel_rfl
 a60 := fun w => by kernel_rfl
 z60 := fun w => by kernel_rfl
 v60 := fun w => by kernel_rfl
 t61 := by kernel_rfl
 a61 := fun w => by kernel_rfl
 z61 := fun w => by kernel_rfl
 v61 := fun w => by kernel_rfl
 t67 := by kernel_rfl
 a67 := fun w => by kernel_rfl
 z67 := fun w => by kernel_rfl
 v67 := fun w => by kernel_rfl
 t69 := by kernel_rfl
 a69 := fun w => by kernel_rfl
 z69 := fun w => by kernel_rfl
 v69 := fun w => by kernel_rfl
 t75 := by kernel_rfl
 a75 := fun w => by kernel_rfl
 z75 := fun w => by kernel_rfl
 v75 := fun w => by kernel_rfl
 t79 := by kernel_rfl
 a79 := fun w => by kernel_rfl
 z79 := fun w => by kernel_rfl
 v79 := fun w => by kernel_rfl
 t83 := by kernel_rfl
 a83 := fun w => by kernel_rfl
 z83 := fun w => by kernel_rfl
 v83 := fun w => by kernel_rfl
 t84 := by kernel_rfl
 a84 := fun w => by kernel_rfl
 z84 := fun w => by kernel_rfl
 v84 := fun w => by kernel_rfl
def coR : Go.Shelf.Ren := ⟨fun n => match n with
 | 43 => 91
 | _ => 0, fun n => match n with
 | 0 => 0
 | 3 => 3
 | 4 => 4
 | 22 => 22
 | 23 => 3
 | _ => 0, fun x => x⟩
theorem coL : SlLaysN.n43 Tryz.prog coR where
 mixed := by kernel_rfl
 f43 := ⟨Tryz.f91.name, by kernel_rfl, (Tryz.func91).trans (congrArg some (by kernel_rfl))⟩
 t0 := by kernel_rfl
 a0 := fun w => by kernel_rfl
 z0 := fun w => by kernel_rfl
 v0 := fun w => by kernel_rfl
 t3 := by kernel_rfl
 a3 := fun w => by kernel_rfl
 z3 := fun w => by kernel_rfl
 v3 := fun w => by kernel_rfl
 t4 := by kernel_rfl
 a4 := fun w => by kernel_rfl
 z4 := fun w => by kernel_rfl
 v4 := fun w => by kernel_rfl
 t22 := by kernel_rfl
 a22 := fun w => by kernel_rfl
 z22 := fun w => by kernel_rfl
 v22 := fun w => by kernel_rfl
 t23 := by kernel_rfl
 a23 := fun w => by kernel_rfl
 z23 := fun w => by kernel_rfl
 v23 := fun w => by kernel_rfl
 i23 := by kernel_rfl
theorem swap_map {w : World} {b T : Nat} {vs us : List Value} {f : Array Value → Array Value} (h : w.heap[b]? = some (CB vs T)) (hf : f vs.toArray = us.toArray) : Swap [(b, CB vs T)] [(b, CB us T)] w (Sort.mapBlock w b f) :=
 ⟨rfl, rfl, rfl, rfl, by simp [Sort.mapBlock], fun k hk => by
  have hk' : b ≠ k := fun e => hk (by simp [e])
  simp [Sort.mapBlock, Array.getElem?_modify, hk'], fun x hx => by
  simp only [List.mem_singleton] at hx
  subst hx
  simp only [Sort.mapBlock, Array.getElem?_modify, if_pos, h]
  show some (Sort.onCells f (CB vs T)) = some (CB us T)
  unfold CB
  simp only [Sort.onCells, hf], fun x hx => by
  simp only [List.mem_singleton] at hx
  subst hx
  unfold CB
  simp⟩
theorem st_mapRow {C : Ctx} {X : List Blk} {w : World} {b T : Nat} {vs us : List Value} {f : Array Value → Array Value} (h : St C ((b, CB vs T) :: X) w) (hf : f vs.toArray = us.toArray) : St C ((b, CB us T) :: X) (Sort.mapBlock w b f) := by
 have hs := swap_map (f := f) (h.get (i := 0) rfl) hf
 exact ⟨swap_below (X := X) hs h.2 h.1, swap_ok (X := X) hs h.2, swap_marks (X := X) hs h.2 h.3⟩
theorem st_ahead {C : Ctx} {H : List Blk} {w : World} (h : St C H w) : ∀ n, St C H (Sort.ahead w n)
 | 0 => h
 | n + 1 => by rw [← Sort.ahead_drew]; exact (st_ahead h n).drew
theorem st_more {C : Ctx} {H : List Blk} {w : World} (h : St C H w) (os : Array Obj) : St C H (Sort.grow w os) := by
 have hb : Below w.heap.size w (Sort.grow w os) := ⟨rfl, rfl, rfl, by simp [Sort.grow], fun k hk => by simp [Sort.grow, Array.getElem?_append_left hk]⟩
 exact h.grow (Hn := []) hb (HOk.nil _ _)
theorem put_iv {xs zs : List Int} {junk : List Value} (hl : zs.length = xs.length) : Sort.putCells (Value.int .i64) 0 zs.toArray (iv xs ++ junk).toArray = (iv zs ++ junk).toArray := by
 have hix : (iv xs).length = xs.length := List.length_map _
 have hiz : (iv zs).length = zs.length := List.length_map _
 apply Array.ext
 ·simp [Sort.putCells, hix, hiz, hl]
 ·intro k h1 h2
  simp only [Sort.putCells, Array.getElem_mapIdx, List.getElem_toArray, List.size_toArray, Nat.zero_add, Nat.zero_le, true_and, Nat.sub_zero]
  by_cases hk : k < zs.length
  ·rw [if_pos hk, List.getElem_append_left om0]
   simp [iv, hk]
  ·rw [if_neg hk, List.getElem_append_right om0, List.getElem_append_right om0]
   congr 1
   omega
theorem holds_iv {w : World} {b T : Nat} {xs : List Int} {junk : List Value} (h : w.heap[b]? = some (CB (iv xs ++ junk) T)) : Sort.Holds (Value.int .i64) w b 0 xs.toArray := fun j hj => by
 simp only [List.size_toArray] at hj
 have h2 : At w b 0 (iv xs) := at_block (rest := junk) h rfl
 refine ⟨?_, ?_⟩
 ·have := h2.get j (.int .i64 xs[j]) (by simp [iv, hj])
  simpa [hj] using this
 ·unfold World.frozen?
  rw [h]
  unfold CB
  simp
theorem sort_cs (w0 : World) (ds0 out0 : List Deferred) (b T cap : Nat) (xs : List Int) (junk : List Value) (G : List Blk) (hn : xs.length ≤ 1000000) :
  Cs ⟨Tryz.prog, w0, ds0, out0⟩ 90 #[.slice (some ⟨b, 0, none⟩) xs.length cap] ((b, CB (iv xs ++ junk) T) :: G) fun v Hn => v = .tuple #[] ∧ Hn = (b, CB (iv (sortL xs) ++ junk) T) :: G := fun w hw => by
 have hh := hw.get (i := 0) rfl
 refine Calls.mono (AnyG.slices_Sort_int soL b 0 cap xs w (holds_iv hh) (Array.getElem?_eq_some_iff.1 hh).1 om0) ?_
 rintro e w' ⟨rfl, n, os, rfl⟩
 exact ⟨_, _, rfl, st_more (st_mapRow (st_ahead hw n) (put_iv (by simp))) os, rfl, rfl⟩
theorem compact_cs (w0 : World) (ds0 out0 : List Deferred) (b T cap : Nat) (xs : List Int) (junk : List Value) (G : List Blk) (hn : xs.length ≤ 1000000) (hc : xs.length ≤ cap) :
  Cs ⟨Tryz.prog, w0, ds0, out0⟩ 91 #[.slice (some ⟨b, 0, none⟩) xs.length cap] ((b, CB (iv xs ++ junk) T) :: G) fun v Hn => v = .slice (some ⟨b, 0, none⟩) (Lib.compact xs).length cap ∧ ∃ j2 : List Value, j2.length = junk.length + (xs.length - (Lib.compact xs).length) ∧ Hn = (b, CB (iv (Lib.compact xs) ++ j2) T) :: G := fun w hw => by
 have hh := hw.get (i := 0) rfl
 refine Calls.mono (AnyG.slices_Compact_int coL b 0 cap xs w (holds_iv hh) om0 hc) ?_
 rintro e w' ⟨rfl, q, rfl⟩
 have hcl : (Lib.compact xs).length ≤ xs.length := by
  unfold Lib.compact Lib.compactUpTo
  rw [List.length_map]
  refine Nat.le_trans (List.length_filter_le _ _) ?_
  simp
 have h1 := st_mapRow (st_ahead hw q) (put_iv (xs := xs) (zs := Lib.compact xs ++ List.replicate (xs.length - (Lib.compact xs).length) 0) (junk := junk) (by rw [List.length_append, List.length_replicate]; omega))
 refine ⟨_, _, rfl, h1, rfl, iv (List.replicate (xs.length - (Lib.compact xs).length) 0) ++ junk, ?_, ?_⟩
 ·rw [List.length_append]
  simp only [iv, List.length_map, List.length_replicate]
  omega
 ·rw [show iv (Lib.compact xs ++ List.replicate (xs.length - (Lib.compact xs).length) 0) = iv (Lib.compact xs) ++ iv (List.replicate (xs.length - (Lib.compact xs).length) 0) from List.map_append, List.append_assoc]
end Go.Proofs.YtjekjehgmljbgaaGreatDoor.T
namespace Go.Proofs.YtjekjehgmljbgaaGreatDoor.T
open Go.RowKit Go.Proofs Go.Eng Go.Shelf Go.Sort
set_option maxRecDepth 100000
set_option maxHeartbeats 1000000
def sfR : Go.Shelf.Ren := ⟨fun n => match n with
 | 6 => 61
 | 14 => 103
 | 15 => 104
 | 20 => 126
 | 21 => 127
 | 22 => 128
 | 23 => 129
 | 24 => 130
 | 25 => 131
 | 26 => 132
 | 27 => 133
 | 28 => 134
 | 29 => 135
 | 46 => 153
 | 47 => 154
 | 48 => 155
 | 49 => 156
 | 50 => 157
 | 57 => 168
 | _ => 0, fun n => match n with
 | 0 => 0
 | 3 => 3
 | 4 => 4
 | 5 => 5
 | 9 => 9
 | 22 => 108
 | 24 => 106
 | 25 => 114
 | 39 => 176
 | 45 => 196
 | 46 => 197
 | 50 => 201
 | 53 => 169
 | 55 => 205
 | 66 => 223
 | 70 => 227
 | 76 => 232
 | 77 => 233
 | _ => 0, fun x => x⟩
theorem sfL : SlLaysF0.n6 Tryz.prog sfR where
 mixed := by kernel_rfl
 f6 := ⟨Tryz.f61.name, by kernel_rfl, (Tryz.func61).trans (congrArg some (by kernel_rfl))⟩
 f14 := ⟨Tryz.f103.name, by kernel_rfl, (Tryz.func103).trans (congrArg some (by kernel_rfl))⟩
 f15 := (Tryz.func104).trans (congrArg some (by kernel_rfl))
 f20 := ⟨Tryz.f126.name, by kernel_rfl, (Tryz.func126).trans (congrArg some (by kernel_rfl))⟩
 f21 := ⟨Tryz.f127.name, by kernel_rfl, (Tryz.func127).trans (congrArg some (by kernel_rfl))⟩
 f22 := ⟨Tryz.f128.name, by kernel_rfl, (Tryz.func128).trans (congrArg some (by kernel_rfl))⟩
 f23 := ⟨Tryz.f129.name, by kernel_rfl, (Tryz.func129).trans (congrArg some (by kernel_rfl))⟩
 f24 := ⟨Tryz.f130.name, by kernel_rfl, (Tryz.func130).trans (congrArg some (by kernel_rfl))⟩
 f25 := ⟨Tryz.f131.name, by kernel_rfl, (Tryz.func131).trans (congrArg some (by kernel_rfl))⟩
 f26 := ⟨Tryz.f132.name, by kernel_rfl, (Tryz.func132).trans (congrArg some (by kernel_rfl))⟩
 f27 := ⟨Tryz.f133.name, by kernel_rfl, (Tryz.func133).trans (congrArg some (by kernel_rfl))⟩
 f28 := (Tryz.func134).trans (congrArg some (by kernel_rfl))
 f29 := (Tryz.func135).trans (congrArg some (by kernel_rfl))
 f46 := ⟨Tryz.f153.name, by kernel_rfl, (Tryz.func153).trans (congrArg some (by kernel_rfl))⟩
 f47 := (Tryz.func154).trans (congrArg some (by kernel_rfl))
 f48 := (Tryz.func155).trans (congrArg some (by kernel_rfl))
 f49 := ⟨Tryz.f156.name, by kernel_rfl, (Tryz.func156).trans (congrArg some (by kernel_rfl))⟩
 f50 := ⟨Tryz.f157.name, by kernel_rfl, (Tryz.func157).trans (congrArg some (by kernel_rfl))⟩
 f57 := ⟨Tryz.f168.name, by kernel_rfl, (Tryz.func168).trans (congrArg some (by kernel_rfl))⟩
 t0 := by kernel_rfl
 a0 := fun w => by kernel_rfl
 z0 := fun w => by kernel_rfl
 v0 := fun w => by kernel_rfl
 t3 := by kernel_rfl
 a3 := fun w => by kernel_rfl
 z3 := fun w => by kernel_rfl
 v3 := fun w => by kernel_rfl
 t4 := by kernel_rfl
 a4 := fun w => by kernel_rfl
 z4 := fun w => by kernel_rfl
 v4 := fun w => by kernel_rfl
 t5 := by kernel_rfl
 a5 := fun w => by kernel_rfl
 z5 := fun w => by kernel_rfl
 v5 := fun w => by kernel_rfl
 t9 := by kernel_rfl
 a9 := fun w => by kernel_rfl
 z9 := fun w => by kernel_rfl
 v9 := fun w => by kernel_rfl
 t22 := by kernel_rfl
 a22 := fun w => by kernel_rfl
 z22 := fun w => by kernel_rfl
 v22 := fun w => by kernel_rfl
 t25 := by kernel_rfl
 a25 := fun w => by kernel_rfl
 z25 := fun w => by kernel_rfl
 v25 := fun w => by kernel_rfl
 t39 := by kernel_rfl
 a39 := fun w => by kernel_rfl
 z39 := fun w => by kernel_rfl
 v39 := fun w => by kernel_rfl
 t45 := by kernel_rfl
 a45 := fun w => by kernel_rfl
 z45 := fun w => by kernel_rfl
 v45 := fun w => by kernel_rfl
 t46 := by kernel_rfl
 a46 := fun w => by kernel_rfl
 z46 := fun w => by kernel_rfl
 v46 := fun w => by kernel_rfl
 t50 := by kernel_rfl
 a50 := fun w => by kernel_rfl
 z50 := fun w => by kernel_rfl
 v50 := fun w => by kernel_rfl
 t53 := by kernel_rfl
 a53 := fun w => by kernel_rfl
 z53 := fun w => by kernel_rfl
 v53 := fun w => by kernel_rfl
 t55 := by kernel_rfl
 a55 := fun w => by kernel_rfl
 z55 := fun w => by kernel_rfl
 v55 := fun w => by kernel_rfl
 t66 := by kernel_rfl
 a66 := fun w => by kernel_rfl
 z66 := fun w => by kernel_rfl
 v66 := fun w => by kernel_rfl
 t70 := by kernel_rfl
 a70 := fun w => by kernel_rfl
 z70 := fun w => by kernel_rfl
 v70 := fun w => by kernel_rfl
 t76 := by kernel_rfl
 a76 := fun w => by kernel_rfl
 z76 := fun w => by kernel_rfl
 v76 := fun w => by kernel_rfl
 t77 := by kernel_rfl
 a77 := fun w => by kernel_rfl
 z77 := fun w => by kernel_rfl
 v77 := fun w => by kernel_rfl
instance : Inhabited Co := ⟨Co.z⟩
def cRow (xs : List Co) : List Value := rowOf Co.cells (fun k => xs.getD k Co.z) xs.length
theorem co_len4 : ∀ x : Co, (Co.cells x).length = 4 := fun _ => rfl
theorem cRow_len (xs : List Co) : (cRow xs).length = xs.length * 4 := rowOf_len co_len4 _ _
theorem row_range (f : Nat → Co) : ∀ m, rowOf Co.cells f m = (List.range (m * 4)).map fun t => ((f (t / 4)).cells)[t % 4]!
 | 0 => rfl
 | m + 1 => by
  rw [rowOf_succ, row_range f m, show (m + 1) * 4 = m * 4 + 1 + 1 + 1 + 1 by omega]
  simp only [List.range_succ, List.map_append, List.map_cons, List.map_nil, List.append_assoc]
  congr 1
  rw [show m * 4 / 4 = m by omega, show (m * 4 + 1) / 4 = m by omega, show (m * 4 + 1 + 1) / 4 = m by omega, show (m * 4 + 1 + 1 + 1) / 4 = m by omega, show m * 4 % 4 = 0 by omega, show (m * 4 + 1) % 4 = 1 by omega, show (m * 4 + 1 + 1) % 4 = 2 by omega, show (m * 4 + 1 + 1 + 1) % 4 = 3 by omega]
  rfl
theorem toArr_get (xs : List Co) (k : Nat) : xs.toArray[k]! = xs.getD k Co.z := by
 by_cases h : k < xs.length
 ·simp [h, List.getD_eq_getElem?_getD]
 ·simp [h, List.getD_eq_getElem?_getD]; rfl
theorem flat_cRow (xs : List Co) : flatK Co.cells 4 xs.toArray = (cRow xs).toArray := by
 apply Array.ext'
 unfold flatK cRow
 rw [row_range]
 simp only [Array.toList_map, Array.toList_range, List.size_toArray, toArr_get]
theorem put_row {us vs junk : List Value} (h : vs.length = us.length) : Sort.putCells (id : Value → Value) 0 vs.toArray (us ++ junk).toArray = (vs ++ junk).toArray := by
 apply Array.ext
 ·simp [Sort.putCells, h]
 ·intro k h1 h2
  simp only [Sort.putCells, Array.getElem_mapIdx, List.getElem_toArray, List.size_toArray, Nat.zero_add, Nat.zero_le, true_and, Nat.sub_zero]
  by_cases hk : k < vs.length
  ·rw [if_pos hk, List.getElem_append_left om0]
   simp [hk]
  ·rw [if_neg hk, List.getElem_append_right om0, List.getElem_append_right om0]
   congr 1
   omega
theorem holds_row {w : World} {b T : Nat} {us junk : List Value} (h : w.heap[b]? = some (CB (us ++ junk) T)) : Sort.Holds (id : Value → Value) w b 0 us.toArray := fun j hj => by
 simp only [List.size_toArray] at hj
 have h2 : At w b 0 us := at_block (rest := junk) h rfl
 refine ⟨?_, ?_⟩
 ·have := h2.get j us[j] (by simp [hj])
  simpa [hj] using this
 ·unfold World.frozen?
  rw [h]
  unfold CB
  simp
theorem swoC : Sort.SWO (ltOf cmpC) where
 irrefl x := by simp only [ltOf, decide_eq_false_iff_not, cmpC_lt]; exact Co.lt_irr x
 trans x y z h1 h2 := by simp only [ltOf, decide_eq_true_eq, cmpC_lt] at *; exact Co.lt_tr h1 h2
 ntrans x y z h1 h2 := by simp only [ltOf, decide_eq_false_iff_not, cmpC_lt] at *; unfold Co.lt at *; omega
theorem co_one : ∀ x, ∀ v ∈ Co.cells x, v.oneCell' = true := fun x v hv => by
 simp only [Co.cells, List.mem_cons, List.not_mem_nil, or_false] at hv
 rcases hv with rfl | rfl | rfl | rfl <;> rfl
theorem sortF_cs (w0 : World) (ds0 out0 : List Deferred) (b T cap : Nat) (xs : List Co) (junk : List Value) (G : List Blk) (hn : xs.length ≤ 1000000) :
  Cs ⟨Tryz.prog, w0, ds0, out0⟩ 61 #[.slice (some ⟨b, 0, none⟩) xs.length cap, .func (.func 62) #[] #[]] ((b, CB (cRow xs ++ junk) T) :: G) fun v Hn => v = .tuple #[] ∧ ∃ ys, ys.Perm xs ∧ (∀ i j, i < j → j < ys.length → ¬ (ys.getD j Co.z).lt (ys.getD i Co.z)) ∧ Hn = (b, CB (cRow ys ++ junk) T) :: G := fun w hw => by
 have hh := hw.get (i := 0) rfl
 have hblk : b < w.heap.size := (Array.getElem?_eq_some_iff.1 hh).1
 have hH : HoldsK Co.cells 4 w b 0 xs.toArray := by unfold HoldsK; rw [flat_cRow]; exact holds_row hh
 refine Calls.mono (AnyQ.slices_SortFunc sfL 4 (fun w => by kernel_rfl) (fun w => by kernel_rfl) Co.cells co_len4 co_one cmpC swoC 62 #[] b 0 cap xs.toArray w Tryz.call62 (fun _ _ _ _ x y => before1_w x y _) hH hblk (by simp only [List.size_toArray]; omega)) ?_
 rintro e w' ⟨rfl, d', n, os, hp, hs, rfl⟩
 obtain ⟨ys, rfl⟩ : ∃ ys : List Co, d' = ys.toArray := ⟨d'.toList, by simp⟩
 obtain ⟨hsz, _, hpm⟩ := hp
 simp only [List.size_toArray] at hsz hs
 have hperm : ys.Perm xs := by
  simp only [List.size_toArray] at hpm
  rw [show xs.toArray.extract 0 xs.length = xs.toArray by simp, show ys.toArray.extract 0 xs.length = ys.toArray by rw [← hsz]; simp] at hpm
  simpa using hpm
 refine ⟨_, _, rfl, st_more (st_mapRow (us := cRow ys ++ junk) (st_ahead hw n) ?_) os, rfl, ys, hperm, fun i j hij hj => ?_, rfl⟩
 ·rw [flat_cRow]
  exact put_row (by rw [cRow_len, cRow_len, hsz])
 ·have := hs i j (Nat.zero_le _) hij om0
  rw [toArr_get, toArr_get] at this
  simpa only [ltOf, decide_eq_false_iff_not, cmpC_lt] using this
theorem cRow_snoc (xs : List Co) (y : Co) : cRow (xs ++ [y]) = cRow xs ++ y.cells := by
 unfold cRow
 rw [List.length_append, List.length_singleton, rowOf_succ]
 congr 1
 ·exact rowOf_congr _ fun k hk => by simp [List.getD_eq_getElem?_getD, List.getElem?_append_left hk]
 ·simp [List.getD_eq_getElem?_getD]
theorem bits0 (w : World) : Calls Tryz.prog 104 #[.int .u64 0] w fun e w' => (∃ n : Int, e = .returned (.int .i64 n)) ∧ w' = w :=
 (Any.bits_Len (SlLaysF0.n15.bits (P := Tryz.prog) (ρ := sfR) { sfL with }) 0 w om0 om0).mono fun _ _ ⟨h1, h2⟩ => ⟨⟨_, h1⟩, h2⟩
theorem sortN_cs (w0 : World) (ds0 out0 : List Deferred) (a : Option Addr) (cap : Nat) (xs : List Co) (Hr G : List Blk) (hn : xs.length ≤ 1000000) (hrow : NewRow 106 4 xs.length (cRow xs) (.slice a xs.length cap) Hr) :
  Cs ⟨Tryz.prog, w0, ds0, out0⟩ 61 #[.slice a xs.length cap, .func (.func 62) #[] #[]] (Hr ++ G) fun v Hn => v = .tuple #[] ∧ ∃ (ys : List Co) (H2 : List Blk), ys.Perm xs ∧ (∀ i j, i < j → j < ys.length → ¬ (ys.getD j Co.z).lt (ys.getD i Co.z)) ∧ NewRow 106 4 ys.length (cRow ys) (.slice a ys.length cap) H2 ∧ Hn = H2 ++ G := fun w hw => by
 by_cases h0 : xs.length = 0
 ·obtain rfl : xs = [] := List.length_eq_zero_iff.1 h0
  refine Calls.mono (sort0_w bits0 a cap _ w) ?_
  rintro e w' ⟨rfl, rfl⟩
  exact ⟨_, _, rfl, hw, rfl, [], Hr, List.Perm.refl _, fun i j _ h => absurd h (Nat.not_lt_zero _), hrow, rfl⟩
 ·obtain ⟨b, junk, rfl, rfl, hl, hc⟩ := NewRow.head hrow om0
  refine Calls.mono (sortF_cs w0 ds0 out0 b _ cap xs junk G hn w hw) ?_
  rintro e w' ⟨v, H', rfl, hst, rfl, ys, hp, hs, rfl⟩
  refine ⟨_, _, rfl, hst, rfl, ys, _, hp, hs, NewRow.mk rfl ?_ (by rw [hp.length_eq]; exact hc) (by rw [hp.length_eq]; omega), rfl⟩
  rw [← hl, List.length_append, List.length_append, cRow_len, cRow_len, hp.length_eq]
end Go.Proofs.YtjekjehgmljbgaaGreatDoor.T
