/- Lists in order, without those that follow an equal one; the amounts that can be made; pure. -/
import Derived.Test.YtjekjehgmljbgaaGreatDoorMb4
import Derived.OrdersIn
import Derived.Lib.SlicesCompact
set_option linter.unusedVariables false
set_option linter.unusedSimpArgs false
namespace Go.Proofs.YtjekjehgmljbgaaGreatDoor.T
open Go.RowKit Go.Proofs Go.Eng
set_option maxRecDepth 100000
set_option maxHeartbeats 1000000
theorem bd47_0_1 {x0 : Int} {x1 : Int} : ∀ w, (Instr.build 47 #[(0, .int .i64 x0), (1, .int .i64 x1)]).run Tryz.prog w = .ok (.agg #[.int .i64 x0, .int .i64 x1]) w := fun w => by kernel_rfl
theorem bs35_0  : ∀ w, (Instr.buildSlice 35 0 #[]).run Tryz.prog w = .ok (.slice (some ⟨w.heap.size, 0, none⟩) 0 0) (w.alloc (CB [] 47)) := fun w => by kernel_rfl
def pA (n i : Nat) : Po := ⟨((i / (n + 1) : Nat) : Int), ((i % (n + 1) : Nat) : Int)⟩
theorem pA_eq {n f t : Nat} (ht : t < n + 1) : pA n (f * (n + 1) + t) = ⟨(f : Int), (t : Int)⟩ := by
 have h1 : (f * (n + 1) + t) / (n + 1) = f := by rw [Nat.mul_comm, Nat.mul_add_div (Nat.succ_pos n), Nat.div_eq_of_lt ht, Nat.add_zero]
 have h2 : (f * (n + 1) + t) % (n + 1) = t := by rw [Nat.mul_comm, Nat.mul_add_mod, Nat.mod_eq_of_lt ht]
 unfold pA
 rw [h1, h2]
def Cn.psJ (c : Cn) (x : Co) (j : Nat) : List Po := ((List.range j).map (pA c.n)).filter fun p => decide (c.pE x p = 0)
def Cn.ps (c : Cn) (x : Co) : List Po := c.psJ x ((c.n + 1) * (c.n + 1))
theorem Cn.psJ_yes {c : Cn} {x : Co} {j : Nat} (h : c.pE x (pA c.n j) = 0) : c.psJ x (j + 1) = c.psJ x j ++ [pA c.n j] := by
 unfold Cn.psJ
 rw [List.range_succ, List.map_append, List.filter_append]
 simp [h]
theorem Cn.psJ_no {c : Cn} {x : Co} {j : Nat} (h : ¬ c.pE x (pA c.n j) = 0) : c.psJ x (j + 1) = c.psJ x j := by
 unfold Cn.psJ
 rw [List.range_succ, List.map_append, List.filter_append]
 simp [h]
theorem Cn.psJ_pre (c : Cn) (x : Co) (j : Nat) : ∀ m, ∃ r, c.psJ x (j + m) = c.psJ x j ++ r
 | 0 => ⟨[], (List.append_nil _).symm⟩
 | m + 1 => by
  obtain ⟨r, hr⟩ := c.psJ_pre x j m
  by_cases h : c.pE x (pA c.n (j + m)) = 0
  ·exact ⟨r ++ [pA c.n (j + m)], by rw [← Nat.add_assoc, Cn.psJ_yes h, hr, List.append_assoc]⟩
  ·exact ⟨r, by rw [← Nat.add_assoc, Cn.psJ_no h, hr]⟩
theorem Cn.ps_at {c : Cn} {x : Co} {j : Nat} (hj : j < (c.n + 1) * (c.n + 1)) (h : c.pE x (pA c.n j) = 0) : (c.psJ x j).length < (c.ps x).length ∧ (c.ps x).getD (c.psJ x j).length Po.z = pA c.n j := by
 obtain ⟨r, hr⟩ := c.psJ_pre x (j + 1) ((c.n + 1) * (c.n + 1) - (j + 1))
 rw [show j + 1 + ((c.n + 1) * (c.n + 1) - (j + 1)) = (c.n + 1) * (c.n + 1) by omega, Cn.psJ_yes h] at hr
 unfold Cn.ps
 rw [hr]
 refine ⟨by simp, ?_⟩
 simp [List.getD_eq_getElem?_getD]
theorem Cn.ps_ok {c : Cn} {x : Co} {k : Nat} (hk : k < (c.ps x).length) : c.pE x ((c.ps x).getD k Po.z) = 0 := by
 rw [List.getD_eq_getElem?_getD, List.getElem?_eq_getElem hk]
 have := List.getElem_mem hk
 unfold Cn.ps Cn.psJ at this ⊢
 simpa using (List.mem_filter.1 this).2
theorem Cn.ps_mem {c : Cn} {x : Co} {p : Po} (h : c.pE x p = 0) : ∃ k, k < (c.ps x).length ∧ (c.ps x).getD k Po.z = p := by
 obtain ⟨h1, _⟩ := Cn.pE_zero.1 h
 rw [Cn.vld_iff] at h1
 obtain ⟨⟨f0, f1⟩, ⟨t0, t1⟩, _⟩ := h1
 obtain ⟨pf, pt⟩ := p
 simp only at f0 f1 t0 t1
 obtain ⟨f, rfl⟩ := Int.eq_ofNat_of_zero_le f0
 obtain ⟨t, rfl⟩ := Int.eq_ofNat_of_zero_le t0
 have he : pA c.n (f * (c.n + 1) + t) = ⟨(f : Int), (t : Int)⟩ := pA_eq om0
 have hj : f * (c.n + 1) + t < (c.n + 1) * (c.n + 1) := by
  have : f * (c.n + 1) ≤ c.n * (c.n + 1) := Nat.mul_le_mul_right _ om0
  rw [Nat.succ_mul c.n (c.n + 1)]
  omega
 obtain ⟨h2, h3⟩ := Cn.ps_at (x := x) hj (by rw [he]; exact h)
 exact ⟨_, h2, h3.trans he⟩
theorem cloneP_any (l : List Po) (la : Option Addr) (lcap : Nat) (w : World) (hl : l.length ≤ 1000000) (hp : Pos w la l.length lcap l) :
  Ct Tryz.prog 94 #[.slice la l.length lcap] w fun v Hn => ∃ a' cap', v = .slice a' l.length cap' ∧ NewRow 47 2 l.length (rowOf Po.cells (fun k => l.getD k Po.z) l.length) (.slice a' l.length cap') Hn := by
 have hF := wide_wide
 refine Ct_start (args := [_]) Tryz.func94 rf Tryz.ntmps94 rf ?_
 refine zR fun ds => ?_
 refine za (.slice _ _ _) hF ?_
 refine zO ?_
 refine zR fun ds => ?_
 refine zm (.slice _ _ _) hF ?_
 refine zD hF (y_eqlNil rf rf Tryz.runUnderlying35) ?_
 refine zN ?_
 refine W_cond rf (fun c1 => ?_) (fun c1 => ?_)
 ·
  try simp only [qz1, qz2, qz3, qz4, qz5, qz6, qz7, qz8] at c1
  obtain rfl : la = none := Option.isNone_iff_eq_none.1 c1
  have h0 : l = [] := by
   cases l with
   | nil => rfl
   | cons p l => obtain ⟨b, o, h, _⟩ := hp.cell 0 (Nat.zero_lt_succ _); cases h
  subst h0
  refine zR fun ds => ?_
  refine za (.slice _ _ _) hF ?_
  refine zN ?_
  refine W_ret ?_
  refine Then_ret ?_
  refine Fin_ret [.slice _ _ _] [] Tryz.results94 ⟨by rfl, trivial⟩ HSub.nil ?_
  exact ⟨none, 0, rfl, none, 0, rfl, Nat.le_refl _, .inr ⟨rfl, rfl, rfl⟩⟩
 ·
  try simp only [qz1, qz2, qz3, qz4, qz5, qz6, qz7, qz8] at c1
  refine W_skip ?_
  refine zS fun ds => ?_
  refine WS_newS hF rf (y_buildSliceL bs35_0 rf) (fun b1 => ?_)
  refine zm (.slice _ _ _) hF ?_
  refine WS_gen hF rf (y_append0 rf rf Tryz.underlying35 infPo rf (Rws.src po_len hp) (rowOf_len po_len _ _) om0 om0) ?_
  rintro _ Hc hrow
  have hrow2 := hrow
  obtain ⟨a', cap', rfl, _⟩ := hrow2
  refine za (.slice _ _ _) hF ?_
  refine zN ?_
  refine W_ret ?_
  refine Fin_ret [.slice _ _ _] Hc Tryz.results94 ⟨by rfl, trivial⟩ (HSub.sub sbA) ?_
  exact ⟨_, _, rfl, hrow⟩
theorem pourings_any (c : Cn) (a1 : Option Addr) (p1 : Nat) (a2 : Option Addr) (p2 : Nat) (x : Co) (w : World) : Ct Tryz.prog 93 #[.agg #[.slice a1 c.n p1, .slice a2 c.inn.length p2, .int .i64 c.st], .agg x.cells.toArray] w fun v Hn => ∃ bb bx, v = .func (.func 120) #[] #[.pointer (some ⟨bb, 0, none⟩), .pointer (some ⟨bx, 0, none⟩)] ∧ Hn = [(bx, CB x.cells 106), (bb, CB [.slice a1 c.n p1, .slice a2 c.inn.length p2, .int .i64 c.st] 92)] := by
 have hF := wide_wide
 refine Ct_start (args := [_, _]) Tryz.func93 rf Tryz.ntmps93 rf ?_
 refine zR fun ds => ?_
 refine WS_new hF rf (y_box rf) (fun b1 => ?_)
 refine WS_new hF rf (y_box rf) (fun b2 => ?_)
 refine za (_) hF ?_
 refine zP fun ds => ?_
 refine zD hF (y_makeFuncL rf rf) ?_
 refine za (_) hF ?_
 refine zN ?_
 refine W_ret ?_
 refine Fin_ret [_] [(b2, _), (b1, _)] Tryz.results93 ⟨by rfl, trivial⟩ (HSub.sub (by repeat (first | exact List.nil_sublist _ | apply List.Sublist.cons_cons | apply List.Sublist.cons))) ?_
 exact ⟨_, _, rfl, rfl⟩
theorem pourings_it (w0 : World) (ds0 out0 : List Deferred) (bb bx : Nat) (c : Cn) (a1 : Option Addr) (p1 : Nat) (a2 : Option Addr) (p2 : Nat) (x : Co) (hok : c.Ok) (hin : c.In x) (hn : c.n ≤ 1000000) (hm : c.inn.length ≤ 1000000) (h1 : Ints w0 a1 c.n p1 c.sz) (h2 : Ints w0 a2 c.inn.length p2 c.inn) :
  It ⟨Tryz.prog, w0, ds0, out0⟩ 120 [.pointer (some ⟨bb, 0, none⟩), .pointer (some ⟨bx, 0, none⟩)] (fun k => [.agg ((c.ps x).getD k Po.z).cells.toArray, .agg (c.stp x ((c.ps x).getD k Po.z)).cells.toArray]) (c.ps x).length [(bx, CB x.cells 106), (bb, CB [.slice a1 c.n p1, .slice a2 c.inn.length p2, .int .i64 c.st] 92)] := by
 intro lp J Jx hY G hJ
 have hn3 := hok.n3
 have hJ0 : J (c.psJ x (0 * (c.n + 1))).length G := by rw [Nat.zero_mul]; exact hJ
 have hF := wide_wide
 refine Cs_start (args := [_, _, _]) Tryz.func120 rf Tryz.ntmps120 rf ?_
 refine zR fun ds => ?_
 refine zD hF (y_fieldAddr rf fa92_0) ?_
 refine zD hF (y_fieldAddr rf fa24_0) ?_
 refine zD hF (y_load1 rf Tryz.isAgg22 (Mem.own1 1 rf rf)) ?_
 refine zD hF (y_len rf Tryz.runUnderlying22) ?_
 refine zD hF (y_add rf rf ui) ?_
 refine zm (.int .i64 _) hF ?_
 refine zN ?_
 refine W_block ?_
 refine W_loop (γ := Nat × List Blk) (fun p => p.1 ≤ c.n + 1 ∧ J (c.psJ x (p.1 * (c.n + 1))).length p.2) (fun p => [(0, .func (.yield lp) #[] #[]), (1, .pointer (some ⟨bb, 0, none⟩)), (2, .pointer (some ⟨bx, 0, none⟩)), (13, .int .i64 ((c.n : Int) + 1)), (14, .int .i64 (p.1 : Int))]) (fun p => (bx, CB x.cells 106) :: (bb, CB [.slice a1 c.n p1, .slice a2 c.inn.length p2, .int .i64 c.st] 92) :: p.2) (fun p => c.n + 1 - p.1) ((0, G)) ⟨Nat.zero_le _, hJ0⟩ s10 (sbA) ?_
 rintro ⟨f, G1⟩ e ⟨hf, hj1⟩
 refine zR fun ds => ?_
 refine zD hF (y_lss rf rf) ?_
 refine zO ?_
 refine W_cond rf (fun c1 => ?_) (fun c1 => ?_)
 ·
  try simp only [qz1, qz2, qz3, qz4, qz5, qz6, qz7, qz8] at c1
  refine zU ?_
  refine W_seq ?_
  refine W_block ?_
  refine zR fun ds => ?_
  refine zm (.int .i64 _) hF ?_
  refine za (.int .i64 _) hF ?_
  refine zP fun ds => ?_
  refine zD hF (y_fieldAddr rf fa92_0) ?_
  refine zD hF (y_fieldAddr rf fa24_0) ?_
  refine zD hF (y_load1 rf Tryz.isAgg22 (Mem.own1 1 rf rf)) ?_
  refine zD hF (y_len rf Tryz.runUnderlying22) ?_
  refine zD hF (y_add rf rf ui) ?_
  refine zm (.int .i64 _) hF ?_
  refine zN ?_
  refine W_block ?_
  refine W_loop (γ := Nat × List Blk) (fun p => p.1 ≤ c.n + 1 ∧ J (c.psJ x (f * (c.n + 1) + p.1)).length p.2) (fun p => [(0, .func (.yield lp) #[] #[]), (1, .pointer (some ⟨bb, 0, none⟩)), (2, .pointer (some ⟨bx, 0, none⟩)), (13, .int .i64 ((c.n : Int) + 1)), (14, .int .i64 (f : Int)), (4, .int .i64 (f : Int)), (21, .int .i64 ((c.n : Int) + 1)), (22, .int .i64 (p.1 : Int))]) (fun p => (bx, CB x.cells 106) :: (bb, CB [.slice a1 c.n p1, .slice a2 c.inn.length p2, .int .i64 c.st] 92) :: p.2) (fun p => c.n + 1 - p.1) ((0, G1)) ⟨Nat.zero_le _, hj1⟩ s10 (sbA) ?_
  rintro ⟨t, G2⟩ e ⟨ht, hj2⟩
  refine zR fun ds => ?_
  refine zD hF (y_lss rf rf) ?_
  refine zO ?_
  refine W_cond rf (fun c4 => ?_) (fun c4 => ?_)
  ·
   try simp only [qz1, qz2, qz3, qz4, qz5, qz6, qz7, qz8] at c4
   have hje : pA c.n (f * (c.n + 1) + t) = ⟨(f : Int), (t : Int)⟩ := pA_eq om0
   have hjm : f * (c.n + 1) + t < (c.n + 1) * (c.n + 1) := by
    have : f * (c.n + 1) ≤ c.n * (c.n + 1) := Nat.mul_le_mul_right _ om0
    rw [Nat.succ_mul c.n (c.n + 1)]
    omega
   refine zU ?_
   refine W_seq ?_
   refine W_block ?_
   refine zR fun ds => ?_
   refine zm (.int .i64 _) hF ?_
   refine za (.int .i64 _) hF ?_
   refine zP fun ds => ?_
   refine zm (.int .i64 _) hF ?_
   refine zm (.int .i64 _) hF ?_
   refine zD hF (y_buildL bd47_0_1 rf) ?_
   refine WS_new hF rf (y_alloc Tryz.zeroValue47 rf) (fun b1 => ?_)
   refine WS_store hF (i := 0) rf rf Tryz.sizeOf47 rf rf rf d20 ?_
   refine zO ?_
   refine zR fun ds => ?_
   refine zD hF (y_loadN rf Tryz.isAgg92 Tryz.sizeOf92 (Mem.own (us := [.slice _ _ _, .slice _ _ _, .int .i64 _]) 2 rf rf) rf) ?_
   refine zD hF (y_loadN rf Tryz.isAgg47 Tryz.sizeOf47 (Mem.own (us := [.int .i64 _, .int .i64 _]) 0 rf rf) rf) ?_
   refine zD hF (y_callL rf rf Tryz.call57 (fun w hw => bvalid_any c a1 p1 a2 p2 ⟨(f : Int), (t : Int)⟩ w)) ?_
   refine zD hF (y_not rf) ?_
   refine zN ?_
   refine W_cond rf (fun c7 => ?_) (fun c7 => ?_)
   ·
    try simp only [qz1, qz2, qz3, qz4, qz5, qz6, qz7, qz8] at c7
    have hpe : ¬ c.pE x (pA c.n (f * (c.n + 1) + t)) = 0 := by rw [hje, Cn.pE_zero, c7]; simp
    have hj4 : J (c.psJ x (f * (c.n + 1) + (t + 1))).length G2 := by rw [← Nat.add_assoc, Cn.psJ_no hpe]; exact hj2
    refine W_exit ?_
    refine Then_exit ?_
    refine InB_same ?_
    refine zT fun ds => ?_
    refine zD hF (y_add rf rf ui) ?_
    refine zm (.int .i64 _) hF ?_
    refine WS_nil ?_
    exact Loop_next (t + 1, G2) ⟨by simp only; omega, hj4⟩ s10 sbA (by simp only; omega)
   ·
    try simp only [qz1, qz2, qz3, qz4, qz5, qz6, qz7, qz8] at c7
    have hv := Cn.vld_iff.1 c7
    simp only at hv
    refine W_skip ?_
    refine zS fun ds => ?_
    refine zD hF (y_loadN rf Tryz.isAgg92 Tryz.sizeOf92 (Mem.own (us := [.slice _ _ _, .slice _ _ _, .int .i64 _]) 2 rf rf) rf) ?_
    refine zD hF (y_loadN rf Tryz.isAgg106 Tryz.sizeOf106 (Mem.own (us := [.int .i64 _, .int .i64 _, .int .i64 _, .int .i64 _]) 1 rf rf) rf) ?_
    refine zD hF (y_loadN rf Tryz.isAgg47 Tryz.sizeOf47 (Mem.own (us := [.int .i64 _, .int .i64 _]) 0 rf rf) rf) ?_
    refine zD hF (y_callL rf rf Tryz.call60 (fun w hw => bpour_any c a1 p1 a2 p2 x f t w hok hn hm (h1.st w hw) (h2.st w hw) hin om0 om0 om0)) ?_
    refine zm (.tuple _) hF ?_
    refine zD hF (y_extract (c := .agg _) rf rf) ?_
    refine zD hF (y_extract (c := .bool _) rf rf) ?_
    refine WS_new hF rf (y_alloc Tryz.zeroValue106 rf) (fun b2 => ?_)
    refine WS_store hF (i := 0) rf rf Tryz.sizeOf106 rf rf rf d20 ?_
    refine za (.bool _) hF ?_
    refine zP fun ds => ?_
    refine zm (.bool _) hF ?_
    refine zm (.bool _) hF ?_
    refine WS_split 40 rf (fun g9_1 => ?_) (fun g9_1 => ?_)
    ·
     try simp only [qz1, qz2, qz3, qz4, qz5, qz6, qz7, qz8] at g9_1
     rw [Cn.can_to g9_1]
     have hpe : c.pE x (pA c.n (f * (c.n + 1) + t)) = 0 := by rw [hje]; exact Cn.pE_zero.2 ⟨c7, g9_1⟩
     obtain ⟨hlt, hat⟩ := Cn.ps_at hjm hpe
     rw [hje] at hat
     have hYk := hY _ hlt
     simp only [hat] at hYk
     refine zm (_) hF ?_
     refine zD hF (y_loadN rf Tryz.isAgg47 Tryz.sizeOf47 (Mem.own (us := [.int .i64 _, .int .i64 _]) 1 rf rf) rf) ?_
     refine zD hF (y_loadN rf Tryz.isAgg106 Tryz.sizeOf106 (Mem.own (us := [.int .i64 _, .int .i64 _, .int .i64 _, .int .i64 _]) 0 rf rf) rf) ?_
     refine WS_yield rf rf rf (hYk ds [_, _, _, _] G2 hj2) ?_
     rintro yb _ ⟨G3, rfl, hb⟩
     refine zD hF (y_not rf) ?_
     refine zD hF (zpk (.bool _)) ?_
     refine zN ?_
     refine W_cond rf (fun c9 => ?_) (fun c9 => ?_)
     ·
      try simp only [qz1, qz2, qz3, qz4, qz5, qz6, qz7, qz8] at c9
      obtain ⟨rfl, hj5⟩ | ⟨_, hj5⟩ := hb
      ·cases c9
      refine W_ret ?_
      refine InB_ret ?_
      refine Then_ret ?_
      refine Loop_ret ?_
      refine InB_ret ?_
      refine InB_ret ?_
      refine Then_ret ?_
      refine Loop_ret ?_
      refine InB_ret ?_
      refine Fin_ret [] ((bx, _) :: (bb, _) :: G3) Tryz.results120 trivial (HSub.sub sbA) ?_
      exact ⟨G3, rfl, .inr ⟨_, hlt, hj5⟩⟩
     ·
      try simp only [qz1, qz2, qz3, qz4, qz5, qz6, qz7, qz8] at c9
      obtain ⟨_, hj5⟩ | ⟨rfl, hj5⟩ := hb
      case inr => cases c9
      have hj4 : J (c.psJ x (f * (c.n + 1) + (t + 1))).length G3 := by rw [← Nat.add_assoc, Cn.psJ_yes hpe, List.length_append]; exact hj5
      refine W_skip ?_
      refine InB_normal ?_
      refine zT fun ds => ?_
      refine zD hF (y_add rf rf ui) ?_
      refine zm (.int .i64 _) hF ?_
      refine WS_nil ?_
      exact Loop_next (t + 1, G3) ⟨by simp only; omega, hj4⟩ s10 sbA (by simp only; omega)
    ·
     try simp only [qz1, qz2, qz3, qz4, qz5, qz6, qz7, qz8] at g9_1
     have hpe : ¬ c.pE x (pA c.n (f * (c.n + 1) + t)) = 0 := by rw [hje, Cn.pE_zero]; rintro ⟨_, h⟩; change c.canB x f t = true at h; rw [g9_1] at h; cases h
     have hj4 : J (c.psJ x (f * (c.n + 1) + (t + 1))).length G2 := by rw [← Nat.add_assoc, Cn.psJ_no hpe]; exact hj2
     refine zno hF ?_
     refine zno hF ?_
     refine zno hF ?_
     refine zno hF ?_
     refine zno hF ?_
     refine zD hF (zpk (.bool _)) ?_
     refine zN ?_
     refine W_cond rf (fun c9 => ?_) (fun c9 => ?_)
     ·cases c9
     ·
      try simp only [qz1, qz2, qz3, qz4, qz5, qz6, qz7, qz8] at c9
      refine W_skip ?_
      refine InB_normal ?_
      refine zT fun ds => ?_
      refine zD hF (y_add rf rf ui) ?_
      refine zm (.int .i64 _) hF ?_
      refine WS_nil ?_
      exact Loop_next (t + 1, G2) ⟨by simp only; omega, hj4⟩ s10 sbA (by simp only; omega)
  ·
   try simp only [qz1, qz2, qz3, qz4, qz5, qz6, qz7, qz8] at c4
   have hj3 : J (c.psJ x ((f + 1) * (c.n + 1))).length G2 := by
    have : t = c.n + 1 := by omega
    rw [Nat.succ_mul, ← this]; rw [this] at hj2 ⊢; exact hj2
   refine W_exit ?_
   refine Then_exit ?_
   refine Loop_exit ?_
   refine InB_same ?_
   refine InB_normal ?_
   refine zT fun ds => ?_
   refine zD hF (y_add rf rf ui) ?_
   refine zm (.int .i64 _) hF ?_
   refine WS_nil ?_
   exact Loop_next (f + 1, G2) ⟨by simp only; omega, hj3⟩ s10 sbA (by simp only; omega)
 ·
  try simp only [qz1, qz2, qz3, qz4, qz5, qz6, qz7, qz8] at c1
  refine W_exit ?_
  refine Then_exit ?_
  refine Loop_exit ?_
  refine InB_same ?_
  refine Fin_norm [] ((bx, _) :: (bb, _) :: G1) Tryz.results120 trivial (HSub.sub sbA) ?_
  obtain rfl : f = c.n + 1 := by omega
  exact ⟨G1, rfl, .inl hj1⟩
end Go.Proofs.YtjekjehgmljbgaaGreatDoor.T
namespace Go.Eng
open Go.RowKit
section
variable {K : Type} [DecidableEq K] {l : List (EntK K)} {seen : Array Nat} {y : EntK K}
def leftL (l : List (EntK K)) (seen : Array Nat) : Nat := (l.filter fun x => !decide (x.2.2 ∈ seen)).length
omit [DecidableEq K] in
theorem leftL_lt (hy : y ∈ l) (hns : y.2.2 ∉ seen) : leftL l (seen.push y.2.2) < leftL l seen := by
 unfold leftL
 induction l with
 | nil => cases hy
 | cons x l ih =>
  have hle : ∀ l : List (EntK K), (l.filter fun x => !decide (x.2.2 ∈ seen.push y.2.2)).length ≤ (l.filter fun x => !decide (x.2.2 ∈ seen)).length := fun l => by
   induction l with
   | nil => exact Nat.le_refl _
   | cons z l ih =>
    by_cases h : z.2.2 ∈ seen
    ·simpa [h] using ih
    ·by_cases h2 : z.2.2 = y.2.2
     ·simp [h2, hns]; simp at ih; omega
     ·simp [h, h2]; simp at ih; omega
  have := hle l
  rcases List.mem_cons.1 hy with rfl | hy
  ·simp [hns]; simp at this; omega
  ·have ih := ih hy
   by_cases h : x.2.2 ∈ seen
   ·simpa [h] using ih
   ·by_cases h2 : x.2.2 = y.2.2
    ·simp [h2, hns]; simp at this; omega
    ·simp [h, h2]; simp at ih; omega
structure Copied (ls ld l : List (EntK K)) (seen : Array Nat) : Prop where
 yes : ∀ y ∈ ls, y.2.2 ∈ seen → lookK y.1 l = some y.2.1
 no : ∀ k, (∀ y ∈ ls, y.1 = k → y.2.2 ∉ seen) → lookK k l = lookK k ld
theorem Copied.nil (ls ld : List (EntK K)) : Copied ls ld ld #[] := ⟨fun _ _ h => (by simp at h), fun _ _ => rfl⟩
theorem Copied.step {ls ld l : List (EntK K)} {seen : Array Nat} {c : Nat} (h : Copied ls ld l seen) (hk : (ls.map (·.1)).Nodup) (hb : (ls.map (·.2.2)).Nodup) {y : EntK K} (hy : y ∈ ls) : Copied ls ld (putL y.1 y.2.1 l c) (seen.push y.2.2) := by
 have hkey : ∀ {x z : EntK K}, x ∈ ls → z ∈ ls → x.1 = z.1 → x.2.1 = z.2.1 := fun {x z} hx hz he => by
  have h1 := lookK_mem hk hx
  have h2 := lookK_mem hk hz
  rw [he] at h1
  exact Option.some.inj (h1.symm.trans h2)
 refine ⟨fun z hz hs => ?_, fun k hno => ?_⟩
 ·rw [lookK_put]
  by_cases he : z.1 = y.1
  ·rw [if_pos he, hkey hz hy he]
  ·rw [if_neg he]
   refine h.yes z hz ?_
   rcases Array.mem_push.1 hs with hs | hs
   ·exact hs
   ·have : z = y := by
     have : ∀ {l : List (EntK K)}, (l.map (·.2.2)).Nodup → z ∈ l → y ∈ l → z = y := by
      intro l
      induction l with
      | nil => intro _ h; cases h
      | cons x l ih =>
       intro hn h1 h2
       rw [List.map_cons, List.nodup_cons] at hn
       rcases List.mem_cons.1 h1 with e1 | e1
       ·rcases List.mem_cons.1 h2 with e2 | e2
        ·rw [e1, e2]
        ·exact absurd (List.mem_map.2 ⟨y, e2, by rw [← e1]; exact hs.symm⟩) hn.1
       ·rcases List.mem_cons.1 h2 with e2 | e2
        ·exact absurd (List.mem_map.2 ⟨z, e1, by rw [← e2]; exact hs⟩) hn.1
        ·exact ih hn.2 e1 e2
     exact this hb hz hy
    exact absurd (by rw [this]) he
 ·rw [lookK_put]
  have hne : ¬ k = y.1 := fun he => hno y hy he.symm (by simp)
  rw [if_neg hne]
  exact h.no k fun z hz he hs => hno z hz he (by simp [hs])
theorem Copied.done {ls ld l : List (EntK K)} {seen : Array Nat} (h : Copied ls ld l seen) (hall : ∀ x ∈ ls, x.2.2 ∈ seen) (k : K) : lookK k l = (lookK k ls).or (lookK k ld) := by
 cases hl : lookK k ls with
 | some v =>
  obtain ⟨x, hx, rfl, rfl⟩ := lookK_some hl
  exact h.yes x hx (hall x hx)
 | none =>
  rw [lookK_none] at hl
  exact h.no k fun y hy he => absurd (List.mem_map.2 ⟨y, hy, he⟩) hl
end
end Go.Eng
namespace Go.Proofs.YtjekjehgmljbgaaGreatDoor.T
open Go.RowKit Go.Proofs Go.Eng
set_option maxRecDepth 100000
set_option maxHeartbeats 1000000
def encC (x : Co) : Value := .agg x.cells.toArray
def Wl.v (x : Wl) : Value := .agg x.cells.toArray
theorem keyC : KeyOk Tryz.prog 106 encC :=
 keyOk4 (E := 3) ⟨Tryz.underlying106, Tryz.underlying3, Tryz.isAgg3, Tryz.sizeOf3⟩ (fun n x => x.g n) (fun x => rfl) fun x y h0 h1 h2 h3 => Co.ext4 fun k hk => by
  obtain rfl | rfl | rfl | rfl := lt4 hk
  ·exact h0
  ·exact h1
  ·exact h2
  ·exact h3
theorem copy_cs (w0 : World) (ds0 out0 : List Deferred) (md ms : Nat) (ld ls : List (EntK Co)) (cd cs : Nat) (G : List Blk) (hd : GoodM ld cd) (hs : GoodM ls cs) (hv : ∀ y ∈ ls, ∃ x : Wl, y.2.1 = x.v) :
  Cs ⟨Tryz.prog, w0, ds0, out0⟩ 92 #[.map (some md), .map (some ms)] ((md, MK encC ld cd) :: (ms, MK encC ls cs) :: G) fun v Hn => v = .tuple #[] ∧ ∃ l c, GoodM l c ∧ (∀ k, lookK k l = (lookK k ls).or (lookK k ld)) ∧ Hn = (md, MK encC l c) :: (ms, MK encC ls cs) :: G := by
 have hF := wide_wide
 refine Cs_start (args := [_, _]) Tryz.func92 rf Tryz.ntmps92 rf ?_
 refine zR fun ds => ?_
 refine zm (.map _) hF ?_
 refine WS_new hF rf (y_rangeK (enc := encC) (i := 1) rf Tryz.underlying94 rf) (fun it => ?_)
 refine zN ?_
 refine W_block ?_
 refine W_loop (γ := List (EntK Co) × Nat × Array Nat × Nat) (fun q => GoodM q.1 q.2.1 ∧ Copied ls ld q.1 q.2.2.1 ∧ cs ≤ q.2.2.2) (fun q => [(0, .map (some md)), (7, .pointer (some ⟨it, 0, none⟩))]) (fun q => (it, .mapIter (some ms) cs q.2.2.1 q.2.2.2) :: (md, MK encC q.1 q.2.1) :: (ms, MK encC ls cs) :: G) (fun q => leftL ls q.2.2.1) ((ld, cd, #[], cs)) ⟨hd, Copied.nil ls ld, Nat.le_refl _⟩ s10 (sbA) ?_
 rintro ⟨l, c, seen, c0⟩ e ⟨hg, hc, hc0⟩
 refine zR fun ds => ?_
 refine WS_nextK hF (enc := encC) (i := 0) (j := 2) rf rf rf rf hs.old hc0 (fun hov => ?_) (fun y hy hns => ?_)
 ·
  refine zD hF (y_extract (c := .bool _) rf rf) ?_
  refine zO ?_
  refine W_cond rf (fun c1 => ?_) (fun c1 => ?_)
  ·cases c1
  ·
   try simp only [qz1, qz2, qz3, qz4, qz5, qz6, qz7, qz8] at c1
   refine W_exit ?_
   refine Then_exit ?_
   refine Loop_exit ?_
   refine InB_same ?_
   refine Fin_norm [] ((md, _) :: (ms, _) :: G) Tryz.results92 trivial (HSub.sub sbA) ?_
   exact ⟨rfl, l, c, hg, hc.done hov, rfl⟩
 ·
  obtain ⟨k, v, bn⟩ := y
  obtain ⟨x, hvx⟩ := hv _ hy
  change v = x.v at hvx
  subst hvx
  refine zD hF (y_extract (c := .bool _) rf rf) ?_
  refine zO ?_
  refine W_cond rf (fun c1 => ?_) (fun c1 => ?_)
  ·
   try simp only [qz1, qz2, qz3, qz4, qz5, qz6, qz7, qz8] at c1
   refine zU ?_
   refine W_block ?_
   refine zR fun ds => ?_
   refine zD hF (y_entryK (enc := encC) (y := (k, x.v, bn)) (i := 0) (j := 2) rf rf rf hy hs.born) ?_
   refine zD hF (y_extract (c := .agg _) rf rf) ?_
   refine zD hF (y_extract (c := .agg _) rf rf) ?_
   refine WS_new hF rf (y_alloc Tryz.zeroValue106 rf) (fun b1 => ?_)
   refine WS_new hF rf (y_alloc Tryz.zeroValue118 rf) (fun b2 => ?_)
   refine WS_store hF (i := 1) rf rf Tryz.sizeOf106 rf rf rf d20 ?_
   refine WS_store hF (i := 0) rf rf Tryz.sizeOf118 rf rf rf d20 ?_
   refine zQ fun ds => ?_
   refine zm (.map _) hF ?_
   refine zD hF (y_loadN rf Tryz.isAgg106 Tryz.sizeOf106 (Mem.own (us := [.int .i64 _, .int .i64 _, .int .i64 _, .int .i64 _]) 1 rf rf) rf) ?_
   refine zD hF (y_loadN rf Tryz.isAgg118 Tryz.sizeOf118 (Mem.own (us := [.slice _ _ _, .int .i64 _]) 0 rf rf) rf) ?_
   refine WS_mapUpdK hF (enc := encC) (k := k) (u := x.v) (i := 3) keyC rf rf rf Tryz.underlying94 rf ?_
   refine WS_nil ?_
   refine InB_normal ?_
   exact Loop_next (putL k x.v l c, putC k l c, seen.push bn, cs) ⟨hg.put k x.v, hc.step hs.keys hs.born hy, Nat.le_refl _⟩ s10 sbA (leftL_lt hy hns)
  ·cases c1
end Go.Proofs.YtjekjehgmljbgaaGreatDoor.T
namespace Go.Eng
open Go.RowKit
section
variable {F : Fence} {n : Nat} {P : Program} {ops : Array Oper} {Q : Exit → Act → World → Prop} {S : World → Prop}
def Off (d : Option Tmp) (a a' : Act) : Prop := ∃ u ds, a' = { a.put d u with defers := ds }
theorem wpOpIn_off {j : Nat} {o : Oper} {K : Act → World → Prop} {a : Act} {w : World} (hj : ops[j]? = some o) (h : wpOpIn F n P ops Q j K a w) :
  wpOpIn F n P ops Q j (fun a' w' => K a' w' ∧ Off o.dst a a') a w := by
 unfold wpOpIn at *
 simp only [hj] at *
 split
 ·rename_i hw
  simp only [hw, if_true] at h
  unfold Oper.wpIn at *
  obtain ⟨h0, h⟩ := h
  refine ⟨h0, ?_⟩
  clear h0
  generalize (o.semAt F.round a.eval).run P w = r at *
  cases r with
  | ok x w' =>
   cases x <;> simp only [Oper.uponIn] at h ⊢
   case value u => exact ⟨h, u, _, rfl⟩
   case skip => exact ⟨h, undef, _, rfl⟩
   case defer d => exact ⟨h, undef, d :: a.defers, by cases o.dst <;> rfl⟩
   case enter f args =>
    refine ⟨h.1, CallsIn.mono h.2 fun e w'' he => ?_⟩
    cases e with
    | returned u => exact ⟨he, u, _, rfl⟩
    | panicked c => exact he
    | outgrown => exact he
   case row row args => exact ⟨h.1, RowsIn.mono h.2 fun u w'' he => ⟨he, u, _, rfl⟩⟩
   case round l f tmps assign body =>
    refine ⟨h.1, RoundIn.mono h.2 fun e w'' he => ?_⟩
    cases e with
    | returned u => exact ⟨he, u, _, rfl⟩
    | panicked c => exact he
    | outgrown => exact he
  | halt x w' => cases x <;> simp only [Oper.uponIn] at h ⊢ <;> exact h
 ·rename_i hw
  simp only [hw] at h
  exact ⟨h.1, h.2, undef, _, rfl⟩
theorem wpOpIn_putR {j : Nat} {oj : Oper} {d : Option Tmp} {v : Value} (hnd : noDefer oj = true) (hj : ops[j]? = some oj) (h1 : ∀ t, d = some t → t ∉ oj.looksAt ops) (h2 : ∀ t, d = some t → oj.dst ≠ some t)
  (hsj : ∀ cs b, oj.op ≠ .select cs b) {a : Act} {w : World} {K : Act → World → Prop} (hQ : ∀ c a w, Q (.panic c) (a.put d v) w → Q (.panic c) a w) (h : wpOpIn F n P ops Q j K (a.put d v) w) :
  wpOpIn F n P ops Q j (fun a' w' => K (a'.put d v) w') a w := by
 unfold wpOpIn at *
 simp only [hj] at *
 rw [wanted_put oj a d v h1, about_put oj w a d v h1] at h
 split
 ·rename_i hw
  simp only [hw, if_true] at h
  unfold Oper.wpIn at *
  rw [about_put oj w a d v h1] at h
  obtain ⟨h0, h⟩ := h
  refine ⟨h0, ?_⟩
  clear h0
  rw [semAt_of hnd, execOp_put oj hsj a d v h1] at h
  rw [semAt_of hnd]
  generalize (execOp a.eval oj).run P w = r at *
  cases r with
  | ok x w' =>
   cases x <;> simp only [Oper.uponIn] at h ⊢
   case value u => rw [← Act.put_comm a v u h2]; exact h
   case skip => rw [← Act.put_comm a v undef h2]; exact h
   case defer dd => rw [← Act.put_comm _ v undef h2, ← Act.put_defers]; exact h
   case enter f args =>
    refine ⟨h.1, CallsIn.mono h.2 fun e w'' he => ?_⟩
    cases e with
    | returned u => simp only at he ⊢; rw [← Act.put_comm a v u h2]; exact he
    | panicked c => exact hQ _ _ _ he
    | outgrown => exact he
   case row row args => exact ⟨h.1, RowsIn.mono h.2 fun u w'' he => by rw [← Act.put_comm a v u h2]; exact he⟩
   case round l f tmps assign body =>
    refine ⟨h.1, RoundIn.mono h.2 fun e w'' he => ?_⟩
    cases e with
    | returned u => simp only at he ⊢; rw [← Act.put_comm a v u h2]; exact he
    | panicked c => exact hQ _ _ _ he
    | outgrown => exact he
  | halt x w' =>
   cases x <;> simp only [Oper.uponIn] at h ⊢
   case panic u => exact hQ _ _ _ h
 ·rename_i hw
  simp only [hw] at h
  exact ⟨h.1, by rw [← Act.put_comm a v undef h2]; exact h.2⟩
def anyS (F : Fence) (n : Nat) (P : Program) (ops : Array Oper) (Q : Exit → Act → World → Prop) (S : World → Prop) : Nat → Array Bool → Act → World → Prop
 | 0, listed, a, w => Region.ready .any ops listed = [] ∧ Q .normal a w
 | fuel + 1, listed, a, w => (Region.ready .any ops listed = [] → Q .normal a w) ∧
  ∀ j ∈ Region.ready .any ops listed, wpOpIn F n P ops Q j (fun a' w' => S w' ∧ anyS F n P ops Q S fuel (listed.setIfInBounds j true) a' w') a w
theorem anyS_in : ∀ {fuel : Nat} {listed : Array Bool} {a : Act} {w : World}, anyS F n P ops Q S fuel listed a w → wpAnyIn F n P .any ops Q fuel listed a w
 | 0, _, _, _, h => h
 | fuel + 1, listed, a, w, h => ⟨h.1, fun j hj => wpOpIn_mono (fun a' w' h => anyS_in h.2) (h.2 j hj)⟩
structure YieldsS (P : Program) (ops : Array Oper) (S : World → Prop) (o : Oper) (v : Value) (a : Act) : Prop where
 run : ∀ w, S w → (execOp a.eval o).run P w = .ok (.value v) w
 about : ∀ w, o.about P w a.eval = none
theorem anyS_first {i : Nat} {oi : Oper} {v : Value} (hnd : ∀ (j : Nat) (o : Oper), ops[j]? = some o → noDefer o = true) (hi : ops[i]? = some oi) (hg : oi.guard = none) (hsel : ∀ (j : Nat) (o : Oper) cs b, ops[j]? = some o → o.op ≠ .select cs b)
  (hself : ∀ d, oi.dst = some d → d ∉ oi.looksAt ops) (hQ : ∀ c a w, Q (.panic c) (a.put oi.dst v) w → Q (.panic c) a w) :
  ∀ (fuel : Nat) (listed : Array Bool) (a : Act) (w : World),
   (∀ j oj, ops[j]? = some oj → j ≠ i → listed.getD j true = false → (∀ e ∈ oj.after, Region.binds .any e = true → e.on ≠ i) → oi.apart ops oj = true) →
   i ∈ Region.ready .any ops listed → S w → YieldsS P ops S oi v a →
   anyS F n P ops Q S fuel (listed.setIfInBounds i true) (a.put oi.dst v) w → anyS F n P ops Q S (fuel + 1) listed a w := by
 have hmine : ∀ {listed : Array Bool} {fuel : Nat} {a : Act} {w : World}, S w → YieldsS P ops S oi v a → anyS F n P ops Q S fuel (listed.setIfInBounds i true) (a.put oi.dst v) w →
   wpOpIn F n P ops Q i (fun a' w' => S w' ∧ anyS F n P ops Q S fuel (listed.setIfInBounds i true) a' w') a w := fun {listed fuel a w} hS hy H => by
  unfold wpOpIn
  simp only [hi]
  rw [if_pos (by unfold Region.wanted; rw [hg])]
  refine ⟨fun f hf => (by rw [hy.about] at hf; cases hf), ?_⟩
  rw [semAt_of (hnd i oi hi), hy.run w hS]
  exact ⟨hS, H⟩
 intro fuel
 induction fuel with
 | zero =>
  intro listed a w _ hr hS hy H
  refine ⟨fun h => (by rw [h] at hr; cases hr), fun j hj => ?_⟩
  by_cases hji : j = i
  ·subst hji; exact hmine hS hy H
  ·have := ready_mono hj hji
   rw [H.1] at this
   cases this
 | succ fuel ih =>
  intro listed a w hfree hr hS hy H
  refine ⟨fun h => (by rw [h] at hr; cases hr), fun j hj => ?_⟩
  by_cases hji : j = i
  ·subst hji; exact hmine hS hy H
  ·have h1 := H.2 j (ready_mono hj hji)
   obtain ⟨hjun, oj, hoj, hall⟩ := mem_ready.1 hj
   have hnot : ∀ e ∈ oj.after, Region.binds .any e = true → e.on ≠ i := fun e he hb heq => by
    have h1 := hall e he hb
    have h0 := (mem_ready.1 hr).1
    rw [heq] at h1
    rcases Nat.lt_or_ge i listed.size with h' | h'
    ·simp [h'] at h0 h1; rw [h0] at h1; cases h1
    ·simp [Array.getElem?_eq_none h'] at h1
   have hap := hfree j oj hoj hji hjun hnot
   obtain ⟨ap1, ap2, ap3⟩ := Oper.apart_spec hap
   have h2 := wpOpIn_putR (hnd j oj hoj) hoj ap1 ap2 (fun cs b => hsel j oj cs b hoj) hQ (wpOpIn_off hoj h1)
   have hfree' : ∀ k ok, ops[k]? = some ok → k ≠ i → (listed.setIfInBounds j true).getD k true = false →
     (∀ e ∈ ok.after, Region.binds .any e = true → e.on ≠ i) → oi.apart ops ok = true := fun k ok hk hki hun hno => by
    refine hfree k ok hk hki ?_ hno
    by_cases hjk : j = k
    ·subst hjk; exact hjun
    ·rw [getD_set_ne true hjk] at hun; exact hun
   refine wpOpIn_mono (fun a' w' h3 => ?_) h2
   obtain ⟨⟨hS', hk⟩, u, ds, hoff⟩ := h3
   refine ⟨hS', ih (listed.setIfInBounds j true) a' w' hfree' (ready_mono hr (Ne.symm hji)) hS' ?_ (by rw [Array.setIfInBounds_comm _ _ hji]; exact hk)⟩
   have hev : (a'.put oi.dst v).eval = ((a.put oi.dst v).put oj.dst u).eval := by rw [hoff]; rfl
   refine ⟨fun w hw => ?_, fun w => ?_⟩
   ·rw [← execOp_put oi (fun cs b => hsel i oi cs b hi) a' oi.dst v hself, hev, execOp_put oi (fun cs b => hsel i oi cs b hi) _ oj.dst u ap3, execOp_put oi (fun cs b => hsel i oi cs b hi) a oi.dst v hself]
    exact hy.run w hw
   ·rw [← about_put oi w a' oi.dst v hself, hev, about_put oi w _ oj.dst u ap3, about_put oi w a oi.dst v hself]
    exact hy.about w
end
section
variable {C : Ctx} {F : Fence} {n : Nat} {ds : List Deferred} {ops : Array Oper} {fuel : Nat} {listed : Array Bool} {e : Env} {H H0 : List Blk} {M : Env → List Blk → Prop}
def WH (C : Ctx) (F : Fence) (n : Nat) (ds : List Deferred) (ops : Array Oper) (M : Env → List Blk → Prop) (H0 : List Blk) (fuel : Nat) (listed : Array Bool) (e : Env) (H : List Blk) : Prop :=
 (∀ w, St C H w → St C H0 w) ∧ ∀ w, St C H w → ∀ a, Rep n ds a e → anyS F 0 C.P ops (lift C n ds (OnlyQ M)) (St C H0) fuel listed a w
theorem WH_in (h : WH C F n ds ops M H0 fuel listed e H) : WA C F n ds ops (OnlyQ M) fuel listed e H := fun w hw a ha => anyS_in (h.2 w hw a ha)
def YE (C : Ctx) (o : Oper) (e : Env) (H0 : List Blk) (c : Value) : Prop := (∀ w, St C H0 w → (execOp (ev e) o).run C.P w = .ok (.value c) w) ∧ ∀ w, o.about C.P w (ev e) = none
theorem WH_take (i : Nat) {o : Oper} {c : Value} (hnd : ops.all noDefer = true) (hi : ops[i]? = some o) (hs : Region.noSelect ops = true)
  (hf : (Region.free .any ops listed i && (Region.ready .any ops listed).contains i && dOk n o.dst && (match o.dst with | some d => !(o.looksAt ops).contains d | none => true)) = true) (hg : o.guard = none)
  (hp : YE C o e H0 c) (h : WH C F n ds ops M H0 fuel (listed.setIfInBounds i true) (updo e o.dst c) H) : WH C F n ds ops M H0 (fuel + 1) listed e H := by
 simp only [Bool.and_eq_true] at hf
 refine ⟨h.1, fun w hw a ha => ?_⟩
 refine anyS_first (fun j o ho => by rw [Array.all_eq_true] at hnd; have := hnd j (Array.getElem?_eq_some_iff.1 ho).1; rwa [(Array.getElem?_eq_some_iff.1 ho).2] at this) hi hg (fun j o cs b ho => Region.noSelect_spec hs j o cs b ho) (fun d hd => ?_) (fun c a w hq => ?_) fuel listed a w (fun j oj hj hne hun hno => Region.free_spec hi hf.1.1.1 j oj hj hne hun hno) (by simpa using hf.1.1.2) (h.1 w hw) ⟨fun w hw => ?_, fun w => ?_⟩ (h.2 w hw _ (ha.put o.dst hf.1.2))
 ·have h4 := hf.2
  rw [hd] at h4
  simpa using h4
 ·obtain ⟨_, _, _, _, hq⟩ := hq; exact hq.elim
 ·rw [ha.eval]; exact hp.1 w hw
 ·rw [ha.eval]; exact hp.2 w
theorem WH_op {i : Nat} {o : Oper} (hi : ops[i]? = some o) (h : WS C F n ds ops (NextQ M fun e H => WH C F n ds ops M H0 fuel (listed.setIfInBounds i true) e H) [o] e H) (w : World) (hw : St C H w) (a : Act) (ha : Rep n ds a e) :
  wpOpIn F 0 C.P ops (lift C n ds (OnlyQ M)) i (fun a' w' => St C H0 w' ∧ anyS F 0 C.P ops (lift C n ds (OnlyQ M)) (St C H0) fuel (listed.setIfInBounds i true) a' w') a w := by
 have h1 := h w hw a ha
 unfold wpOpIn
 rw [hi]
 simp only []
 have hk : ∀ a w, lift C n ds (NextQ M fun e H => WH C F n ds ops M H0 fuel (listed.setIfInBounds i true) e H) .normal a w → St C H0 w ∧ anyS F 0 C.P ops (lift C n ds (OnlyQ M)) (St C H0) fuel (listed.setIfInBounds i true) a w := fun a w ⟨e', H', g1, g2, g3⟩ => ⟨g3.1 w g2, g3.2 w g2 a g1⟩
 have hq : ∀ x, x ≠ .normal → ∀ a w, lift C n ds (NextQ M fun e H => WH C F n ds ops M H0 fuel (listed.setIfInBounds i true) e H) x a w → lift C n ds (OnlyQ M) x a w := fun x hx a w ⟨e', H', g1, g2, g3⟩ => ⟨e', H', g1, g2, by cases x <;> first | exact g3 | exact absurd rfl hx⟩
 unfold wpListIn at h1
 split at h1
 ·rename_i hwt
  rw [if_pos hwt]
  exact wpIn_to hk hq h1
 ·rename_i hwt
  rw [if_neg hwt]
  exact ⟨h1.1, hk _ _ h1.2⟩
theorem WH_all {rs : List Nat} (hne : rs ≠ []) (hr : Region.ready .any ops listed = rs) (h0 : ∀ w, St C H w → St C H0 w)
  (h : ∀ i ∈ rs, ∃ o, ops[i]? = some o ∧ WS C F n ds ops (NextQ M fun e H => WH C F n ds ops M H0 fuel (listed.setIfInBounds i true) e H) [o] e H) : WH C F n ds ops M H0 (fuel + 1) listed e H :=
 ⟨h0, fun w hw a ha => ⟨fun hn => absurd (hr.symm.trans hn) hne, fun j hj => by
  rw [hr] at hj
  obtain ⟨o, ho, hs⟩ := h j hj
  exact WH_op ho hs w hw a ha⟩⟩
theorem WH_step1 (i : Nat) {o : Oper} (hr : Region.ready .any ops listed = [i]) (h0 : ∀ w, St C H w → St C H0 w) (hi : ops[i]? = some o)
  (h : WS C F n ds ops (NextQ M fun e H => WH C F n ds ops M H0 fuel (listed.setIfInBounds i true) e H) [o] e H) : WH C F n ds ops M H0 (fuel + 1) listed e H :=
 WH_all (by simp) hr h0 fun k hk => by
  obtain rfl := List.mem_singleton.1 hk
  exact ⟨o, hi, h⟩
theorem WH_step2 (i j : Nat) {o p : Oper} (hr : Region.ready .any ops listed = [i, j]) (h0 : ∀ w, St C H w → St C H0 w) (hi : ops[i]? = some o) (hj : ops[j]? = some p)
  (h : WS C F n ds ops (NextQ M fun e H => WH C F n ds ops M H0 fuel (listed.setIfInBounds i true) e H) [o] e H)
  (h' : WS C F n ds ops (NextQ M fun e H => WH C F n ds ops M H0 fuel (listed.setIfInBounds j true) e H) [p] e H) : WH C F n ds ops M H0 (fuel + 1) listed e H :=
 WH_all (by simp) hr h0 fun k hk => by
  rcases List.mem_cons.1 hk with rfl | hk
  ·exact ⟨o, hi, h⟩
  ·obtain rfl := List.mem_singleton.1 hk
   exact ⟨p, hj, h'⟩
theorem WH_step3 (i j k : Nat) {o p q : Oper} (hr : Region.ready .any ops listed = [i, j, k]) (h0 : ∀ w, St C H w → St C H0 w) (hi : ops[i]? = some o) (hj : ops[j]? = some p) (hk : ops[k]? = some q)
  (h : WS C F n ds ops (NextQ M fun e H => WH C F n ds ops M H0 fuel (listed.setIfInBounds i true) e H) [o] e H)
  (h' : WS C F n ds ops (NextQ M fun e H => WH C F n ds ops M H0 fuel (listed.setIfInBounds j true) e H) [p] e H)
  (h'' : WS C F n ds ops (NextQ M fun e H => WH C F n ds ops M H0 fuel (listed.setIfInBounds k true) e H) [q] e H) : WH C F n ds ops M H0 (fuel + 1) listed e H :=
 WH_all (by simp) hr h0 fun t ht => by
  rcases List.mem_cons.1 ht with rfl | ht
  ·exact ⟨o, hi, h⟩
  ·rcases List.mem_cons.1 ht with rfl | ht
   ·exact ⟨p, hj, h'⟩
   ·obtain rfl := List.mem_singleton.1 ht
    exact ⟨q, hk, h''⟩
theorem WH_done (hr : Region.ready .any ops listed = []) (h0 : ∀ w, St C H w → St C H0 w) (h : M e H) : WH C F n ds ops M H0 fuel listed e H :=
 ⟨h0, fun w hw a ha => by
  cases fuel with
  | zero => exact ⟨hr, e, H, ha, hw, h⟩
  | succ k => exact ⟨fun _ => ⟨e, H, ha, hw, h⟩, by rw [hr]; simp⟩⟩
theorem W_tailH {Q : Exit → Env → List Blk → Prop} {id : Nat} {l : List Oper} (m : Nat) (hm : C.P.follows .mixedOrders = true) (M : Env → List Blk → Prop)
  (hph : (tailB l.toArray m && Nat.ble m l.length) = true)
  (hrest : ∀ ds e H, M e H → WS (C.at ds) F n ds l.toArray Q (l.drop m) e H) (hp : ∀ ds, WH (C.at ds) F n ds (l.take m).toArray M H m (Array.replicate m false) e H) :
  W C F n ds (.region id l.toArray true) Q e H := W_tailA m hm M hph hrest fun ds => WH_in (hp ds)
end
end Go.Eng
namespace Go.Eng
open Go.RowKit
section
variable {C : Ctx} {e : Env} {H : List Blk} {d : Option Tmp} {ty : TypeId} {pos : String} {af : Array Edge}
theorem ye_move {x : Operand} {c : Value} (h : ev e x = c) : YE C ⟨d, .move x, ty, pos, af, none⟩ e H c := ⟨fun w _ => by simp [execOp, h], fun w => rfl⟩
theorem ye_assign {x : Operand} {c : Value} (h : ev e x = c) : YE C ⟨d, .assign x, ty, pos, af, none⟩ e H c := ⟨fun w _ => by simp [execOp, h], fun w => rfl⟩
section
variable {x y : Operand} {t t' : TypeId} {m n : Int} {k : IntKind}
theorem ye_add (hx : ev e x = .int .i64 m) (hy : ev e y = .int .i64 n) (h : I64 (m + n)) : YE C ⟨d, .binOp .add t x y t', ty, pos, af, none⟩ e H (.int .i64 (m + n)) :=
 ⟨fun w _ => by simp [execOp, hx, hy, eqGuard, binOp, Op.intArith, wrapI h], fun w => rfl⟩
theorem ye_sub (hx : ev e x = .int .i64 m) (hy : ev e y = .int .i64 n) (h : I64 (m - n)) : YE C ⟨d, .binOp .sub t x y t', ty, pos, af, none⟩ e H (.int .i64 (m - n)) :=
 ⟨fun w _ => by simp [execOp, hx, hy, eqGuard, binOp, Op.intArith, wrapI h], fun w => rfl⟩
theorem ye_max {ats : Array TypeId} (hx : ev e x = .int k m) (hy : ev e y = .int k n) : YE C ⟨d, .call ⟨.builtin .max, #[x, y], ats⟩, ty, pos, af, none⟩ e H (.int k (max m n)) :=
 ⟨fun w _ => by
  have h : (if m < n then n else m) = max m n := by omega
  simp [execOp, resolve, invoke, builtin, Builtin.max_, Builtin.max2, hx, hy, h], fun w => rfl⟩
end
theorem ye_load1 {x : Operand} {T : TypeId} {b o : Nat} {v : Value} (hx : ev e x = .pointer (some ⟨b, o, none⟩)) (hT : ∀ w, (isAgg T).run C.P w = .ok false w) (hm : Mem C H b o [v]) :
  YE C ⟨d, .load T x, ty, pos, af, none⟩ e H v := ⟨fun w hw => by
 have := (hm w hw).1
 simp [execOp, hx, Instr.loadAt, Instr.sureAddr, loadVar, hT, this], fun w => rfl⟩
theorem ye_loadN {x : Operand} {T : TypeId} {b o n : Nat} {us : List Value} (hx : ev e x = .pointer (some ⟨b, o, none⟩)) (hT : ∀ w, (isAgg T).run C.P w = .ok true w) (hs : ∀ w, (sizeOf T).run C.P w = .ok n w)
  (hm : Mem C H b o us) (hn : us.length = n) : YE C ⟨d, .load T x, ty, pos, af, none⟩ e H (.agg us.toArray) := ⟨fun w hw => by
 subst hn
 have := run_loads (P := C.P) (i := 0) (acc := #[]) (by simpa using hm w hw)
 simp [execOp, hx, Instr.loadAt, Instr.sureAddr, loadVar, hT, hs, loadCells, this], fun w => rfl⟩
theorem ye_fieldAddr {x : Operand} {T : TypeId} {f b o o' : Nat} (hx : ev e x = .pointer (some ⟨b, o, none⟩)) (hf : ∀ b o w, (Instr.fieldAt T (.pointer (some ⟨b, o, none⟩)) f).run C.P w = .ok (.pointer (some ⟨b, o + o', none⟩)) w) :
  YE C ⟨d, .fieldAddr T x f, ty, pos, af, none⟩ e H (.pointer (some ⟨b, o + o', none⟩)) := ⟨fun w _ => by simp [execOp, hx, hf], fun w => rfl⟩
theorem ye_indexA {x i : Operand} {T E : TypeId} {b o len sz k : Nat} {n : Int} {kk : IntKind} (hx : ev e x = .pointer (some ⟨b, o, none⟩)) (hi : ev e i = .int kk n) (hn : n = (k : Int)) (hk : k < len)
  (hT : ∀ w, (underlying T).run C.P w = .ok (.array len E) w) (hE : ∀ w, (sizeOf E).run C.P w = .ok sz w) : YE C ⟨d, .indexAddr T x i, ty, pos, af, none⟩ e H (.pointer (some ⟨b, o + k * sz, none⟩)) := ⟨fun w _ => by
 subst hn
 have h3 : (⟨b, o, none⟩ : Addr).add (k * sz) = ⟨b, o + k * sz, none⟩ := by unfold Addr.add; split <;> simp_all
 simp [execOp, hx, hi, Instr.indexAt, Instr.sureAddr, asIntOf, hT, hE, h3]
 exact fun h => absurd h om0, fun w => rfl⟩
theorem ye_buildL {T : TypeId} {parts : List (Nat × Operand)} {ps : List (Nat × Value)} {c : Value} (hb : ∀ w, (Instr.build T ps.toArray).run C.P w = .ok c w) (hp : parts.map (fun x => (x.1, ev e x.2)) = ps) :
  YE C ⟨d, .build T parts.toArray, ty, pos, af, none⟩ e H c := ⟨fun w _ => by
 have : parts.toArray.map (fun x => (x.1, ev e x.2)) = ps.toArray := by subst hp; simp
 simp [execOp, this, hb], fun w => rfl⟩
end
end Go.Eng
namespace Go.Proofs.YtjekjehgmljbgaaGreatDoor.T
open Go.RowKit Go.Proofs Go.Eng
open Classical in
noncomputable def Cn.bestO (c : Cn) (y : Co) : Option Wy := if h : ∃ w, c.Best w y then some h.choose else none
theorem Cn.bestO_iff {c : Cn} {y : Co} {w : Wy} : c.bestO y = some w ↔ c.Best w y := by
 unfold Cn.bestO
 constructor
 ·intro h
  split at h
  ·rename_i hx
   cases h
   exact hx.choose_spec
  ·cases h
 ·intro h
  have hx : ∃ w, c.Best w y := ⟨w, h⟩
  rw [dif_pos hx, hx.choose_spec.uniq h]
noncomputable def Cn.ltO (c : Cn) (n : Nat) (y : Co) : Option Wy := (c.bestO y).filter fun w => decide (w.l.length < n)
noncomputable def Cn.eqO (c : Cn) (n : Nat) (y : Co) : Option Wy := (c.bestO y).filter fun w => decide (w.l.length = n)
theorem Cn.ltO_iff {c : Cn} {n : Nat} {y : Co} {w : Wy} : c.ltO n y = some w ↔ c.Best w y ∧ w.l.length < n := by
 unfold Cn.ltO
 rw [Option.filter_eq_some_iff, Cn.bestO_iff, decide_eq_true_eq]
theorem Cn.eqO_iff {c : Cn} {n : Nat} {y : Co} {w : Wy} : c.eqO n y = some w ↔ c.Lv n w y := by
 unfold Cn.eqO
 rw [Option.filter_eq_some_iff, Cn.bestO_iff, decide_eq_true_eq]
 rfl
theorem Cn.ltO_zero (c : Cn) (y : Co) : c.ltO 0 y = none := by
 cases h : c.ltO 0 y with
 | none => rfl
 | some w => exact absurd (Cn.ltO_iff.1 h).2 (Nat.not_lt_zero _)
theorem Cn.ltO_succ (c : Cn) (n : Nat) (y : Co) : c.ltO (n + 1) y = (c.eqO n y).or (c.ltO n y) := by
 unfold Cn.ltO Cn.eqO
 cases c.bestO y with
 | none => rfl
 | some w =>
  simp only [Option.filter_some]
  by_cases h : w.l.length = n
  ·simp [h]
  ·by_cases h2 : w.l.length < n
   ·simp [h, h2, Nat.lt_succ_of_lt h2]
   ·have : ¬ w.l.length < n + 1 := by omega
    simp [h, h2, this]
theorem Cn.ltO_kn {c : Cn} {n : Nat} {y : Co} : (c.ltO (n + 1) y).isSome = true ↔ c.Kn n y := by
 rw [Option.isSome_iff_exists]
 constructor
 ·rintro ⟨w, h⟩; exact ⟨w, (Cn.ltO_iff.1 h).1, by have := (Cn.ltO_iff.1 h).2; omega⟩
 ·rintro ⟨w, h1, h2⟩; exact ⟨w, Cn.ltO_iff.2 ⟨h1, by omega⟩⟩
theorem Cn.ltO_end {c : Cn} {n : Nat} (h : ∀ w y, ¬ c.Lv n w y) (y : Co) : c.ltO n y = c.bestO y := by
 unfold Cn.ltO
 cases hb : c.bestO y with
 | none => rfl
 | some w =>
  have := Cn.no_more h (Cn.bestO_iff.1 hb)
  simp [this]
def Wl.RdH (HH : List Blk) (x : Wl) : Prop := ∀ (C : Ctx) (H : List Blk) (w : World), HH.Sublist H → St C H w → x.Rd w
theorem Wl.RdH.mono {HH HH' : List Blk} {x : Wl} (h : x.RdH HH) (hs : HH.Sublist HH') : x.RdH HH' := fun C H w h2 hw => h C H w (hs.trans h2) hw
theorem Wl.RdH.z (HH : List Blk) : Wl.z.RdH HH := fun C H w _ _ => ⟨Rws.nil _ _ _, Nat.zero_le _⟩
theorem Wl.RdH.new {w : Wy} {a : Option Addr} {k : Nat} {Hn HH : List Blk} (h : NewRow 47 2 w.l.length (rowOf Po.cells (fun k => w.l.getD k Po.z) w.l.length) (.slice a w.l.length k) Hn) (hs : Hn.Sublist HH) (hn : w.l.length ≤ 1000000) : Wl.RdH HH ⟨w, a, k⟩ :=
 fun C H w' h2 hw => ⟨NewRow.rws po_len h rfl (hs.trans h2) w' hw, hn⟩
def TabE (HH : List Blk) : Option Value → Option Wy → Prop
 | none, none => True
 | some v, some w => ∃ x : Wl, v = x.v ∧ x.w = w ∧ x.RdH HH
 | _, _ => False
def Tab (HH : List Blk) (l : List (EntK Co)) (look : Co → Option Wy) : Prop := ∀ k, TabE HH (lookK k l) (look k)
theorem TabE.mono {HH HH' : List Blk} (hs : HH.Sublist HH') : ∀ {a : Option Value} {b : Option Wy}, TabE HH a b → TabE HH' a b
 | none, none, _ => trivial
 | some v, some w, ⟨x, h1, h2, h3⟩ => ⟨x, h1, h2, h3.mono hs⟩
 | none, some _, h => h.elim
 | some _, none, h => h.elim
theorem Tab.mono {HH HH' : List Blk} {l : List (EntK Co)} {look : Co → Option Wy} (h : Tab HH l look) (hs : HH.Sublist HH') : Tab HH' l look := fun k => (h k).mono hs
theorem TabE.or {HH : List Blk} : ∀ {a a' : Option Value} {b b' : Option Wy}, TabE HH a b → TabE HH a' b' → TabE HH (a.or a') (b.or b')
 | none, _, none, _, _, h => h
 | some _, _, some _, _, h, _ => h
 | none, _, some _, _, h, _ => h.elim
 | some _, _, none, _, h, _ => h.elim
theorem Tab.nil (HH : List Blk) {look : Co → Option Wy} (h : ∀ k, look k = none) : Tab HH [] look := fun k => by rw [lookK_nil, h]; trivial
theorem Tab.put {HH : List Blk} {l : List (EntK Co)} {look : Co → Option Wy} (h : Tab HH l look) (k : Co) (x : Wl) (c : Nat) (hx : x.RdH HH) : Tab HH (putL k x.v l c) (fun y => if y = k then some x.w else look y) := fun y => by
 rw [lookK_put]
 by_cases hy : y = k
 ·simp only [if_pos hy]; exact ⟨x, rfl, rfl, hx⟩
 ·simp only [if_neg hy]; exact h y
theorem Tab.mem {HH : List Blk} {l : List (EntK Co)} {c : Nat} {look : Co → Option Wy} (h : Tab HH l look) (hg : GoodM l c) {y : EntK Co} (hy : y ∈ l) : ∃ x : Wl, y.2.1 = x.v ∧ look y.1 = some x.w ∧ x.RdH HH := by
 have h1 := h y.1
 rw [lookK_mem hg.keys hy] at h1
 cases hl : look y.1 with
 | none => rw [hl] at h1; exact h1.elim
 | some w =>
  rw [hl] at h1
  obtain ⟨x, e1, e2, e3⟩ := h1
  exact ⟨x, e1, by rw [e2], e3⟩
theorem Tab.has {HH : List Blk} {l : List (EntK Co)} {look : Co → Option Wy} (h : Tab HH l look) {k : Co} {w : Wy} (hk : look k = some w) : ∃ y ∈ l, y.1 = k := by
 have h1 := h k
 rw [hk] at h1
 cases hl : lookK k l with
 | none => rw [hl] at h1; exact h1.elim
 | some v =>
  obtain ⟨y, h2, h3, _⟩ := lookK_some hl
  exact ⟨y, h2, h3⟩
theorem Tab.look {HH : List Blk} {l : List (EntK Co)} {look : Co → Option Wy} (h : Tab HH l look) (k : Co) : ∃ (x : Wl), lookV Wl.z.v (lookK k l) = .tuple #[x.v, .bool (look k).isSome] ∧ x.RdH HH ∧ ∀ w, look k = some w → x.w = w := by
 have h1 := h k
 cases hl : lookK k l with
 | none =>
  cases hk : look k with
  | none => exact ⟨Wl.z, rfl, Wl.RdH.z HH, fun w h => by cases h⟩
  | some w => rw [hl, hk] at h1; exact h1.elim
 | some v =>
  cases hk : look k with
  | none => rw [hl, hk] at h1; exact h1.elim
  | some w =>
   rw [hl, hk] at h1
   obtain ⟨x, rfl, rfl, h3⟩ := h1
   exact ⟨x, rfl, h3, fun w h => by cases h; rfl⟩
set_option maxRecDepth 100000
set_option maxHeartbeats 1000000
theorem bd118  : ∀ w, (Instr.build 118 #[]).run Tryz.prog w = .ok (.agg #[.slice none 0 0, .int .i64 0]) w := fun w => by kernel_rfl
theorem bd118_0_1 {x0a : Option Addr} {x0l x0c : Nat} {x1 : Int} : ∀ w, (Instr.build 118 #[(0, .slice x0a x0l x0c), (1, .int .i64 x1)]).run Tryz.prog w = .ok (.agg #[.slice x0a x0l x0c, .int .i64 x1]) w := fun w => by kernel_rfl
theorem bs167_2_0_1 {x0_0a : Option Addr} {x0_0l x0_0c : Nat} {x0_1 : Int} {x1_0a : Option Addr} {x1_0l x1_0c : Nat} {x1_1 : Int} : ∀ w, (Instr.buildSlice 167 2 #[(0, .agg #[.slice x0_0a x0_0l x0_0c, .int .i64 x0_1]), (1, .agg #[.slice x1_0a x1_0l x1_0c, .int .i64 x1_1])]).run Tryz.prog w = .ok (.slice (some ⟨w.heap.size, 0, none⟩) 2 2) (w.alloc (CB [.slice x0_0a x0_0l x0_0c, .int .i64 x0_1, .slice x1_0a x1_0l x1_0c, .int .i64 x1_1] 118)) := fun w => by kernel_rfl
theorem bs35_1_0 {x0_0 : Int} {x0_1 : Int} : ∀ w, (Instr.buildSlice 35 1 #[(0, .agg #[.int .i64 x0_0, .int .i64 x0_1])]).run Tryz.prog w = .ok (.slice (some ⟨w.heap.size, 0, none⟩) 1 1) (w.alloc (CB [.int .i64 x0_0, .int .i64 x0_1] 47)) := fun w => by kernel_rfl
structure Cn.Stp (c : Cn) (n : Nat) (P : Co → Wy → Prop) (look : Co → Option Wy) : Prop where
 min : ∀ y, IsMin (P y) (look y)
 snd : ∀ y v, P y v → ¬ c.Kn n y ∧ ∃ x w p, c.Lv n w x ∧ c.pE x p = 0 ∧ y = c.stp x p ∧ v = c.nx w x p
theorem Cn.Stp.nil (c : Cn) (n : Nat) : c.Stp n (fun _ _ => False) (fun _ => none) := ⟨fun y v h => h, fun y v h => h.elim⟩
theorem Cn.Stp.put {c : Cn} {n : Nat} {P : Co → Wy → Prop} {look : Co → Option Wy} (h : c.Stp n P look) {x : Co} {w : Wy} {p : Po} (hw : c.Lv n w x) (hp : c.pE x p = 0) (hk : ¬ c.Kn n (c.stp x p)) :
  c.Stp n (fun y v => P y v ∨ (y = c.stp x p ∧ v = c.nx w x p)) (fun y => if y = c.stp x p then some (pickW (look (c.stp x p)) (c.nx w x p)) else look y) := by
 refine ⟨fun y => ?_, fun y v hv => ?_⟩
 ·by_cases hy : y = c.stp x p
  ·subst hy
   simp only [if_true, true_and]
   exact (h.min _).step _
  ·simp only [if_neg hy, hy, false_and, or_false]
   exact h.min y
 ·rcases hv with hv | ⟨rfl, rfl⟩
  ·exact h.snd y v hv
  ·exact ⟨hk, x, w, p, hw, hp, rfl, rfl⟩
def Cn.Dn (c : Cn) (n : Nat) (P : Co → Wy → Prop) (x : Co) (w : Wy) (k : Nat) : Prop := ∀ j, j < k → ¬ c.Kn n (c.stp x ((c.ps x).getD j Po.z)) → P (c.stp x ((c.ps x).getD j Po.z)) (c.nx w x ((c.ps x).getD j Po.z))
theorem Cn.Stp.level {c : Cn} {n : Nat} (hn : c.n ≤ 3) {P : Co → Wy → Prop} {look : Co → Option Wy} (h : c.Stp n P look) (hd : ∀ x w, c.Lv n w x → c.Dn n P x w (c.ps x).length) (y : Co) : look y = c.eqO (n + 1) y := by
 have hl := Cn.level hn h.min h.snd fun x w p hw hp hk => by
  obtain ⟨j, hj, rfl⟩ := Cn.ps_mem hp
  exact hd x w hw j hj hk
 cases he : c.eqO (n + 1) y with
 | some w => exact (hl y w).2 (Cn.eqO_iff.1 he)
 | none =>
  cases hk : look y with
  | none => rfl
  | some w => rw [Cn.eqO_iff.2 ((hl y w).1 hk)] at he; cases he
structure OpenM (c : Cn) (n : Nat) (P : Co → Wy → Prop) (HX : List Blk) (lo : List (EntK Co)) (co : Nat) (seen : Array Nat) : Prop where
 good : GoodM lo co
 ent : ∀ y ∈ lo, ∃ x : Wl, y.2.1 = x.v ∧ x.RdH HX ∧ c.Lv n x.w y.1
 un : ∀ y ∈ lo, y.2.2 ∉ seen
 dn : ∀ x w, c.Lv n w x → (∃ y ∈ lo, y.1 = x) ∨ c.Dn n P x w (c.ps x).length
theorem OpenM.start {c : Cn} {n : Nat} {P : Co → Wy → Prop} {HX : List Blk} {lo : List (EntK Co)} {co : Nat} (hg : GoodM lo co) (ht : Tab HX lo (c.eqO n)) : OpenM c n P HX lo co #[] := by
 refine ⟨hg, fun y hy => ?_, fun y hy => by simp, fun x w hw => .inl (ht.has (Cn.eqO_iff.2 hw))⟩
 obtain ⟨x, h1, h2, h3⟩ := ht.mem hg hy
 exact ⟨x, h1, h3, Cn.eqO_iff.1 h2⟩
theorem OpenM.step {c : Cn} {n : Nat} {P P' : Co → Wy → Prop} {HX HX' : List Blk} {lo : List (EntK Co)} {co : Nat} {seen : Array Nat} (h : OpenM c n P HX lo co seen) (hP : ∀ y v, P y v → P' y v) (hs : HX.Sublist HX') {k : Co} {x : Wl} {bn : Nat} (hy : (k, x.v, bn) ∈ lo)
  (hd : ∀ w, c.Lv n w k → c.Dn n P' k w (c.ps k).length) : OpenM c n P' HX' (delK k lo) co (seen.push bn) := by
 refine ⟨h.good.del k, fun y hm => ?_, fun y hm => ?_, fun z w hw => ?_⟩
 ·obtain ⟨h1, _⟩ := (mem_delK h.good.keys).1 hm
  obtain ⟨x, e1, e2, e3⟩ := h.ent y h1
  exact ⟨x, e1, e2.mono hs, e3⟩
 ·obtain ⟨h1, h2⟩ := (mem_delK h.good.keys).1 hm
  rw [Array.mem_push]
  rintro (h3 | h3)
  ·exact h.un y h1 h3
  ·have : ∀ {l : List (EntK Co)}, (l.map (·.2.2)).Nodup → y ∈ l → (k, x.v, bn) ∈ l → y = (k, x.v, bn) := by
    intro l
    induction l with
    | nil => intro _ h; cases h
    | cons z l ih =>
     intro hn a1 a2
     rw [List.map_cons, List.nodup_cons] at hn
     rcases List.mem_cons.1 a1 with e1 | e1
     ·rcases List.mem_cons.1 a2 with e2 | e2
      ·rw [e1, e2]
      ·exact absurd (List.mem_map.2 ⟨_, e2, by rw [← e1]; exact h3.symm⟩) hn.1
     ·rcases List.mem_cons.1 a2 with e2 | e2
      ·exact absurd (List.mem_map.2 ⟨_, e1, by rw [← e2]; exact h3⟩) hn.1
      ·exact ih hn.2 e1 e2
   have he := this h.good.born h1 hy
   exact h2 (by rw [he])
 ·rcases h.dn z w hw with ⟨y, h1, rfl⟩ | h1
  ·by_cases hk : y.1 = k
   ·right
    rw [hk] at hw ⊢
    exact hd w hw
   ·exact .inl ⟨y, (mem_delK h.good.keys).2 ⟨h1, hk⟩, rfl⟩
  ·exact .inr fun j hj hn => hP _ _ (h1 j hj hn)
theorem OpenM.all {c : Cn} {n : Nat} {P : Co → Wy → Prop} {HX : List Blk} {lo : List (EntK Co)} {co : Nat} {seen : Array Nat} (h : OpenM c n P HX lo co seen) (hov : ∀ x ∈ lo, x.2.2 ∈ seen) (x : Co) (w : Wy) (hw : c.Lv n w x) : c.Dn n P x w (c.ps x).length := by
 rcases h.dn x w hw with ⟨y, h1, _⟩ | h1
 ·exact absurd (hov y h1) (h.un y h1)
 ·exact h1
theorem HSub.swap3 {A F X R T : List Blk} (h : (F ++ (X ++ (R ++ T))).Sublist A) : HSub A (F ++ (X ++ (T ++ R))) := fun N w hA => (HSub.sub h N w hA).perm ((List.perm_append_comm.append_left X).append_left F)
theorem Cn.nx_len (c : Cn) (w : Wy) (x : Co) (p : Po) : (c.nx w x p).l.length = w.l.length + 1 := by unfold Cn.nx; simp
theorem Cn.nx_row (c : Cn) (w : Wy) (x : Co) (p : Po) : rowOf Po.cells (fun k => (c.nx w x p).l.getD k Po.z) (c.nx w x p).l.length = rowOf Po.cells (fun k => w.l.getD k Po.z) w.l.length ++ p.cells := by
 rw [c.nx_len, rowOf_succ]
 unfold Cn.nx
 congr 1
 ·exact rowOf_congr _ fun k hk => by simp [List.getD_eq_getElem?_getD, List.getElem?_append_left hk]
 ·simp [List.getD_eq_getElem?_getD]
theorem Wls.two {C : Ctx} {H : List Blk} {b T : Nat} {x y : Wl} (i : Nat) (hi : H[i]? = some (b, CB [.slice x.a x.w.l.length x.k, .int .i64 x.w.back, .slice y.a y.w.l.length y.k, .int .i64 y.w.back] T)) (w : World) (hw : St C H w) : Wls w (some ⟨b, 0, none⟩) 2 2 [x, y] := by
 refine ⟨rfl, Nat.le_refl _, fun k hk => ⟨b, 0, rfl, ?_⟩⟩
 have hb := hw.get hi
 obtain rfl | rfl : k = 0 ∨ k = 1 := by omega
 ·exact at_block (rest := [.slice y.a y.w.l.length y.k, .int .i64 y.w.back]) hb rfl
 ·exact at_block (rest := []) hb rfl
theorem pick_min {r : Option Wy} {o n x : Wl} (hr : r = some o.w) (hx : x ∈ [o, n]) (h : ∀ y ∈ [o, n], y.w.lt x.w = false) : x.w = pickW r n.w := by
 subst hr
 unfold pickW
 simp only
 have h1 := h o (by simp)
 have h2 := h n (by simp)
 simp only [List.mem_cons, List.not_mem_nil, or_false] at hx
 by_cases hl : n.w.lt o.w = true
 ·rw [if_pos hl]
  rcases hx with rfl | rfl
  ·rw [hl] at h2; cases h2
  ·rfl
 ·rw [if_neg hl]
  rcases hx with rfl | rfl
  ·rfl
  ·exact Wy.tot (by simpa using hl) h1
theorem delK_lt {k : Co} {lo : List (EntK Co)} {v : Value} {bn : Nat} (hy : (k, v, bn) ∈ lo) : (delK k lo).length < lo.length := by
 unfold delK
 rw [List.length_eraseP_of_mem hy (by simp)]
 have := List.length_pos_of_mem hy
 omega
theorem ways_any (c : Cn) (a1 : Option Addr) (p1 : Nat) (a2 : Option Addr) (p2 : Nat) (w : World) (hok : c.Ok) (hn : c.n ≤ 1000000) (hm : c.inn.length ≤ 1000000) (h1 : Ints w a1 c.n p1 c.sz) (h2 : Ints w a2 c.inn.length p2 c.inn) : Ct Tryz.prog 50 #[.agg #[.slice a1 c.n p1, .slice a2 c.inn.length p2, .int .i64 c.st]] w fun v Hn => ∃ mk l ck HX, v = .map (some mk) ∧ Hn = (mk, MK encC l ck) :: HX ∧ GoodM l ck ∧ Tab HX l c.bestO := by
 have hn3 := hok.n3
 have hF := wide_wide
 refine Ct_start (args := [_]) Tryz.func50 rf Tryz.ntmps50 rf ?_
 refine zR fun ds => ?_
 refine WS_new hF rf (y_box rf) (fun b1 => ?_)
 refine za (.map _) hF ?_
 refine zP fun ds => ?_
 refine WS_gen hF rf (y_makeMapK encC) ?_
 rintro _ _ ⟨mk, rfl, rfl⟩
 refine WS_new hF rf (y_alloc Tryz.zeroValue94 rf) (fun bk => ?_)
 refine WS_store hF (i := 0) rf rf Tryz.sizeOf94 rf rf rf d20 ?_
 refine zP fun ds => ?_
 refine WS_gen hF rf (y_makeMapK encC) ?_
 rintro _ _ ⟨mo, rfl, rfl⟩
 refine zD hF (y_loadN rf Tryz.isAgg92 Tryz.sizeOf92 (Mem.own (us := [.slice _ _ _, .slice _ _ _, .int .i64 _]) 3 rf rf) rf) ?_
 refine zD hF (y_callL rf rf Tryz.call58 (fun w hw => bstart_any c a1 p1 a2 p2 w hok hn hm (h1.st w hw) (h2.st w hw))) ?_
 refine zD hF (y_buildL bd118 rf) ?_
 refine WS_insertK hF (enc := encC) (k := c.co) (u := Wl.z.v) (i := 0) keyC rf rf rf Tryz.underlying94 rf ?_
 refine zm (.map _) hF ?_
 have hT0 : Tab [] (putL c.co Wl.z.v [] 0) (c.eqO 0) := fun y => by
  have h := (Tab.nil (look := fun _ => none) [] fun _ => rfl).put c.co Wl.z 0 (Wl.RdH.z _) y
  by_cases hy : y = c.co
  ·simp only [if_pos hy] at h
   rw [show c.eqO 0 y = some Wl.z.w from Cn.eqO_iff.2 (Cn.lv_zero.2 ⟨rfl, hy⟩)]; exact h
  ·simp only [if_neg hy] at h
   have : c.eqO 0 y = none := by
    cases he : c.eqO 0 y with
    | none => rfl
    | some w => exact absurd (Cn.lv_zero.1 (Cn.eqO_iff.1 he)).2 hy
   rw [this]; exact h
 refine WS_pull (mo, _) zu ?_
 refine WS_pull (mk, _) zu ?_
 refine za (.map _) hF ?_
 refine zO ?_
 refine W_block ?_
 refine W_loop (γ := Nat × Nat × List (EntK Co) × Nat × List (EntK Co) × Nat × List Blk) (fun q => q.1 ≤ 9261 ∧ GoodM q.2.2.1 q.2.2.2.1 ∧ GoodM q.2.2.2.2.1 q.2.2.2.2.2.1 ∧ Tab q.2.2.2.2.2.2 q.2.2.1 (c.ltO q.1) ∧ Tab q.2.2.2.2.2.2 q.2.2.2.2.1 (c.eqO q.1)) (fun q => [(1, .pointer (some ⟨b1, 0, none⟩)), (3, .pointer (some ⟨bk, 0, none⟩)), (4, .map (some q.2.1))]) (fun q => (mk, MK encC q.2.2.1 q.2.2.2.1) :: (q.2.1, MK encC q.2.2.2.2.1 q.2.2.2.2.2.1) :: (bk, CB [.map (some mk)] 94) :: (b1, CB [.slice a1 c.n p1, .slice a2 c.inn.length p2, .int .i64 c.st] 92) :: q.2.2.2.2.2.2) (fun q => 9262 - q.1) ((0, mo, [], 0, putL c.co Wl.z.v [] 0, putC c.co [] 0, [])) ⟨Nat.zero_le _, GoodM.nil, GoodM.nil.put _ _, Tab.nil _ c.ltO_zero, hT0⟩ s10 (sbA) ?_
 rintro ⟨n, mo, lk, ck, lo, co, HX⟩ e ⟨hn9, hgk, hgo, hTk, hTo⟩
 refine W_seq ?_
 refine zR fun ds => ?_
 refine zm (.map _) hF ?_
 refine zD hF (y_lenK (enc := encC) (i := 1) rf Tryz.underlying94 rf) ?_
 refine zD hF (y_gtr rf rf) ?_
 refine zN ?_
 refine W_cond rf (fun c3 => ?_) (fun c3 => ?_)
 ·
  try simp only [qz1, qz2, qz3, qz4, qz5, qz6, qz7, qz8] at c3
  have hn8 : n ≤ 9260 := by
   cases lo with
   | nil => simp at c3
   | cons y lo =>
    obtain ⟨x, _, h2, _⟩ := hTo.mem hgo List.mem_cons_self
    have h3 := Cn.eqO_iff.1 h2
    have := h3.1.len hok
    have := h3.2
    omega
  have hvo : ∀ y ∈ lo, ∃ x : Wl, y.2.1 = x.v := fun y hy => by obtain ⟨x, h, _⟩ := hTo.mem hgo hy; exact ⟨x, h⟩
  refine zU ?_
  refine W_block ?_
  refine zR fun ds => ?_
  refine zD hF (y_load1 rf Tryz.isAgg94 (Mem.own1 2 rf rf)) ?_
  refine zm (.map _) hF ?_
  refine WS_callS hF rf rf rf Tryz.call92 (copy_cs _ _ _ mk mo lk lo ck co _ hgk hgo hvo) ?_
  rintro _ _ ⟨rfl, lk2, ck2, hgk2, hlk2, rfl⟩
  have hTk2 : Tab HX lk2 (c.ltO (n + 1)) := fun k => by rw [hlk2, c.ltO_succ]; exact (hTo k).or (hTk k)
  refine zP fun ds => ?_
  refine WS_gen hF rf (y_makeMapK encC) ?_
  rintro _ _ ⟨mm, rfl, rfl⟩
  refine WS_new hF rf (y_alloc Tryz.zeroValue94 rf) (fun b5 => ?_)
  refine WS_store hF (i := 0) rf rf Tryz.sizeOf94 rf rf rf d20 ?_
  refine zO ?_
  refine zR fun ds => ?_
  refine WS_pull (mk, _) zu ?_
  refine WS_pull (b5, _) zu ?_
  refine zm (.map _) hF ?_
  refine WS_new hF rf (y_rangeK (enc := encC) (i := 3) rf Tryz.underlying94 rf) (fun it => ?_)
  refine zN ?_
  refine W_block ?_
  refine W_loop (γ := List (EntK Co) × Array Nat × Nat × List (EntK Co) × Nat × (Co → Wy → Prop) × (Co → Option Wy) × List Blk) (fun q => OpenM c n q.2.2.2.2.2.1 q.2.2.2.2.2.2.2 q.1 co q.2.1 ∧ co ≤ q.2.2.1 ∧ GoodM q.2.2.2.1 q.2.2.2.2.1 ∧ Tab q.2.2.2.2.2.2.2 lk2 (c.ltO (n + 1)) ∧ Tab q.2.2.2.2.2.2.2 q.2.2.2.1 q.2.2.2.2.2.2.1 ∧ c.Stp n q.2.2.2.2.2.1 q.2.2.2.2.2.2.1) (fun q => [(1, .pointer (some ⟨b1, 0, none⟩)), (3, .pointer (some ⟨bk, 0, none⟩)), (4, .map (some mo)), (5, .pointer (some ⟨b5, 0, none⟩)), (29, .pointer (some ⟨it, 0, none⟩))]) (fun q => (it, .mapIter (some mo) co q.2.1 q.2.2.1) :: (b5, CB [.map (some mm)] 94) :: (mk, MK encC lk2 ck2) :: (mm, MK encC q.2.2.2.1 q.2.2.2.2.1) :: (mo, MK encC q.1 co) :: (bk, CB [.map (some mk)] 94) :: (b1, CB [.slice a1 c.n p1, .slice a2 c.inn.length p2, .int .i64 c.st] 92) :: q.2.2.2.2.2.2.2) (fun q => q.1.length) ((lo, #[], co, [], 0, (fun _ _ => False), (fun _ => none), HX)) ⟨OpenM.start hgo hTo, Nat.le_refl _, GoodM.nil, hTk2, Tab.nil _ fun _ => rfl, Cn.Stp.nil c n⟩ s10 (sbA) ?_
  rintro ⟨lo1, seen, c0, lm, cm, P, lookM, HX1⟩ e ⟨hO, hc0, hgm, hTk3, hTm, hSt⟩
  refine zR fun ds => ?_
  refine WS_nextK hF (enc := encC) (i := 0) (j := 4) rf rf rf rf hO.good.old hc0 (fun hov => ?_) (fun y hy hns => ?_)
  ·
   have hTm : Tab HX1 lm (c.eqO (n + 1)) := fun y => by rw [← hSt.level hn3 (hO.all hov) y]; exact hTm y
   refine zD hF (y_extract (c := .bool _) rf rf) ?_
   refine zO ?_
   refine W_cond rf (fun c7 => ?_) (fun c7 => ?_)
   ·cases c7
   ·
    try simp only [qz1, qz2, qz3, qz4, qz5, qz6, qz7, qz8] at c7
    refine W_exit ?_
    refine Then_exit ?_
    refine Loop_exit ?_
    refine InB_same ?_
    refine zT fun ds => ?_
    refine zD hF (y_load1 rf Tryz.isAgg94 (Mem.own1 1 rf rf)) ?_
    refine za (.map _) hF ?_
    refine WS_nil ?_
    refine InB_normal ?_
    exact Loop_next (n + 1, mm, lk2, ck2, lm, cm, HX1) ⟨by simp only; omega, hgk2, hgm, hTk3, hTm⟩ s10 sbA (by simp only; omega)
  ·
   obtain ⟨xk, v, bn⟩ := y
   obtain ⟨x, hvx, hxr, hxl⟩ := hO.ent _ hy
   change v = x.v at hvx
   subst hvx
   change c.Lv n x.w xk at hxl
   have hkin := (hxl.1.way.in hok).1
   refine zD hF (y_extract (c := .bool _) rf rf) ?_
   refine zO ?_
   refine W_cond rf (fun c7 => ?_) (fun c7 => ?_)
   ·
    try simp only [qz1, qz2, qz3, qz4, qz5, qz6, qz7, qz8] at c7
    refine zU ?_
    refine W_block ?_
    refine zR fun ds => ?_
    refine zD hF (y_entryK (enc := encC) (y := (xk, x.v, bn)) (i := 0) (j := 4) rf rf rf hy hO.good.born) ?_
    refine zD hF (y_extract (c := .agg _) rf rf) ?_
    refine zD hF (y_extract (c := .agg _) rf rf) ?_
    refine WS_new hF rf (y_alloc Tryz.zeroValue106 rf) (fun bX => ?_)
    refine WS_new hF rf (y_alloc Tryz.zeroValue118 rf) (fun bW => ?_)
    refine WS_store hF (i := 1) rf rf Tryz.sizeOf106 rf rf rf d20 ?_
    refine WS_store hF (i := 0) rf rf Tryz.sizeOf118 rf rf rf d20 ?_
    refine zO ?_
    refine zR fun ds => ?_
    refine zD hF (y_loadN rf Tryz.isAgg92 Tryz.sizeOf92 (Mem.own (us := [.slice _ _ _, .slice _ _ _, .int .i64 _]) 8 rf rf) rf) ?_
    refine zD hF (y_loadN rf Tryz.isAgg106 Tryz.sizeOf106 (Mem.own (us := [.int .i64 _, .int .i64 _, .int .i64 _, .int .i64 _]) 1 rf rf) rf) ?_
    refine WS_gen hF rf (y_callL rf rf Tryz.call93 (fun w hw => pourings_any c a1 p1 a2 p2 xk w)) ?_
    rintro _ _ ⟨bb2, bx2, rfl, rfl⟩
    refine zN ?_
    refine W_block ?_
    refine W_range hF rf (encs := (fun k => [.agg ((c.ps xk).getD k Po.z).cells.toArray, .agg (c.stp xk ((c.ps xk).getD k Po.z)).cells.toArray])) (N := (c.ps xk).length) (H0 := [(bx2, CB xk.cells 106), (bb2, CB [.slice a1 c.n p1, .slice a2 c.inn.length p2, .int .i64 c.st] 92)]) (G0 := (bW, _) :: (bX, _) :: (it, _) :: (b5, _) :: (mk, _) :: (mm, _) :: (mo, _) :: (bk, _) :: (b1, _) :: HX1) (fun i G => ∃ (lm2 : List (EntK Co)) (cm2 : Nat) (P2 : Co → Wy → Prop) (look2 : Co → Option Wy) (HX2 : List Blk), G = (bW, CB x.cells 118) :: (bX, CB xk.cells 106) :: (it, .mapIter (some mo) co (seen.push bn) co) :: (b5, CB [.map (some mm)] 94) :: (mk, MK encC lk2 ck2) :: (mm, MK encC lm2 cm2) :: (mo, MK encC lo1 co) :: (bk, CB [.map (some mk)] 94) :: (b1, CB [.slice a1 c.n p1, .slice a2 c.inn.length p2, .int .i64 c.st] 92) :: HX2 ∧ HX1.Sublist HX2 ∧ GoodM lm2 cm2 ∧ Tab HX2 lm2 look2 ∧ c.Stp n P2 look2 ∧ (∀ y v, P y v → P2 y v) ∧ c.Dn n P2 xk x.w i) (fun _ _ _ => False) rf Tryz.call120 rf (fun _ => rfl) (fun ds => pourings_it _ _ _ bb2 bx2 c a1 p1 a2 p2 xk hok hkin hn hm h1 h2) (⟨lm, cm, P, lookM, HX1, rfl, List.Sublist.refl _, hgm, hTm, hSt, fun _ _ h => h, fun j hj => absurd hj (Nat.not_lt_zero _)⟩) (HSub.refl) ?_ ?_ ?_
    ·rintro k hk G hj out lpr R R'
     have hF := wide_inRound wide_wide lpr
     obtain ⟨lm2, cm2, P2, look2, HX2, rfl, hsub, hgm2, hTm2, hSt2, hPP, hdn⟩ := hj
     have hps := Cn.ps_ok hk
     obtain ⟨kx, hkl, hkr, hkw⟩ := (hTk3.mono hsub).look (c.stp xk ((c.ps xk).getD k Po.z))
     have hin2 := hkin.stp hn3 hps
     have q1 : 0 ≤ xk.a := hkin.lo 0 dc
     have q2 : xk.a ≤ 600 := hkin.hi 0 (Nat.zero_le _)
     have q3 : 0 ≤ (c.stp xk ((c.ps xk).getD k Po.z)).a := hin2.lo 0 dc
     have q4 : (c.stp xk ((c.ps xk).getD k Po.z)).a ≤ 600 := hin2.hi 0 (Nat.zero_le _)
     have q5 := Cn.Best.back hok hxl.1.way
     have q6 := hxl.2
     refine zR fun ds => ?_
     refine WS_new hF rf (y_alloc Tryz.zeroValue47 rf) (fun bP => ?_)
     refine WS_store hF (i := 0) rf rf Tryz.sizeOf47 rf rf rf d20 ?_
     refine zQ fun ds => ?_
     refine WS_new hF rf (y_alloc Tryz.zeroValue106 rf) (fun bY => ?_)
     refine WS_store hF (i := 0) rf rf Tryz.sizeOf106 rf rf rf d20 ?_
     refine zN ?_
     refine ⟨(_ :: _ :: _ :: _ :: _ :: _ :: _ :: _ :: _ :: _ :: _ :: HX2), rfl, ?_⟩
     refine W_block ?_
     refine W_seq ?_
     refine zR fun ds => ?_
     refine zD hF (y_load1 rf Tryz.isAgg94 (Mem.own1 9 rf rf)) ?_
     refine zD hF (y_loadN rf Tryz.isAgg106 Tryz.sizeOf106 (Mem.own (us := [.int .i64 _, .int .i64 _, .int .i64 _, .int .i64 _]) 0 rf rf) rf) ?_
     refine zD hF (y_lookupK (enc := encC) (k := c.stp xk ((c.ps xk).getD k Po.z)) (i := 6) keyC rf rf Tryz.underlying94 Tryz.zeroValue118 rf hkl) ?_
     refine zm (.tuple _) hF ?_
     refine zD hF (y_extract (c := .agg _) rf rf) ?_
     refine zD hF (y_extract (c := .bool _) rf rf) ?_
     refine WS_new hF rf (y_alloc Tryz.zeroValue118 rf) (fun bK => ?_)
     refine WS_store hF (i := 0) rf rf Tryz.sizeOf118 rf rf rf d20 ?_
     refine za (.bool _) hF ?_
     refine zP fun ds => ?_
     refine zm (.bool _) hF ?_
     refine zN ?_
     refine W_cond rf (fun c13 => ?_) (fun c13 => ?_)
     ·
      try simp only [qz1, qz2, qz3, qz4, qz5, qz6, qz7, qz8] at c13
      have hkn : c.Kn n (c.stp xk ((c.ps xk).getD k Po.z)) := Cn.ltO_kn.1 c13
      have hdn2 : c.Dn n P2 xk x.w (k + 1) := fun j hj hno => by
       by_cases hjk : j = k
       ·subst hjk; exact absurd hkn hno
       ·exact hdn j om0 hno
      refine W_exit ?_
      refine Then_exit ?_
      refine InB_same ?_
      refine ⟨_, HSub.sub sbA, lm2, cm2, P2, look2, HX2, rfl, hsub, hgm2, hTm2, hSt2, hPP, hdn2⟩
     ·
      try simp only [qz1, qz2, qz3, qz4, qz5, qz6, qz7, qz8] at c13
      have hkn : ¬ c.Kn n (c.stp xk ((c.ps xk).getD k Po.z)) := fun h => by rw [Cn.ltO_kn.2 h] at c13; cases c13
      refine zU ?_
      refine W_seq ?_
      refine W_tailH 17 Tryzmixed (fun e2 H2 => ∃ na ncap b12 Hr, NewRow 47 2 (c.nx x.w xk ((c.ps xk).getD k Po.z)).l.length (rowOf Po.cells (fun z => (c.nx x.w xk ((c.ps xk).getD k Po.z)).l.getD z Po.z) (c.nx x.w xk ((c.ps xk).getD k Po.z)).l.length) (.slice na (c.nx x.w xk ((c.ps xk).getD k Po.z)).l.length ncap) Hr ∧ Slots e2 [(5, .pointer (some ⟨b5, 0, none⟩)), (9, .pointer (some ⟨bY, 0, none⟩)), (12, .pointer (some ⟨b12, 0, none⟩)), (62, .agg #[.slice na (x.w.l.length + 1) ncap, .int .i64 (c.nx x.w xk ((c.ps xk).getD k Po.z)).back])] ∧ HSub H2 ((b12, CB [.slice none 0 0, .int .i64 0] 118) :: (bY, CB (c.stp xk ((c.ps xk).getD k Po.z)).cells 106) :: (bW, CB x.cells 118) :: (bX, CB xk.cells 106) :: (it, .mapIter (some mo) co (seen.push bn) co) :: (b5, CB [.map (some mm)] 94) :: (mk, MK encC lk2 ck2) :: (mm, MK encC lm2 cm2) :: (mo, MK encC lo1 co) :: (bk, CB [.map (some mk)] 94) :: (b1, CB [.slice a1 c.n p1, .slice a2 c.inn.length p2, .int .i64 c.st] 92) :: (HX2 ++ (Hr ++ R')))) dk0 (fun ds e2 H2 hmid => ?_) (fun ds => ?_)
      ·
       obtain ⟨na, ncap, b12, Hr, hrow, hsl, hsb⟩ := hmid
       obtain ⟨ox, hol, hor, how⟩ := hTm2.look (c.stp xk ((c.ps xk).getD k Po.z))
       have hnr : Wl.RdH (HX2 ++ Hr) ⟨(c.nx x.w xk ((c.ps xk).getD k Po.z)), na, ncap⟩ := Wl.RdH.new hrow (List.sublist_append_right _ _) (by rw [c.nx_len]; omega)
       rw [← c.nx_len x.w xk ((c.ps xk).getD k Po.z)] at hsl
       rw [← hsl.sets]
       refine WS_sub hsb ?_
       refine WS_store hF (i := 0) rf rf Tryz.sizeOf118 rf rf rf d20 ?_
       refine zO ?_
       refine zR fun ds => ?_
       refine zD hF (y_load1 rf Tryz.isAgg94 (Mem.own1 5 rf rf)) ?_
       refine zD hF (y_loadN rf Tryz.isAgg106 Tryz.sizeOf106 (Mem.own (us := [.int .i64 _, .int .i64 _, .int .i64 _, .int .i64 _]) 1 rf rf) rf) ?_
       refine zD hF (y_lookupK (enc := encC) (k := c.stp xk ((c.ps xk).getD k Po.z)) (i := 7) keyC rf rf Tryz.underlying94 Tryz.zeroValue118 rf hol) ?_
       refine zm (.tuple _) hF ?_
       refine zD hF (y_extract (c := .agg _) rf rf) ?_
       refine zD hF (y_extract (c := .bool _) rf rf) ?_
       refine WS_new hF rf (y_alloc Tryz.zeroValue118 rf) (fun bO => ?_)
       refine WS_store hF (i := 0) rf rf Tryz.sizeOf118 rf rf rf d20 ?_
       refine za (.bool _) hF ?_
       refine zP fun ds => ?_
       refine zm (.bool _) hF ?_
       refine zN ?_
       refine W_cond rf (fun c16 => ?_) (fun c16 => ?_)
       ·
        try simp only [qz1, qz2, qz3, qz4, qz5, qz6, qz7, qz8] at c16
        refine W_region_lit (fun ds => ?_)
        refine zD hF (y_loadN rf Tryz.isAgg118 Tryz.sizeOf118 (Mem.own (us := [.slice _ _ _, .int .i64 _]) 0 rf rf) rf) ?_
        refine zD hF (y_loadN rf Tryz.isAgg118 Tryz.sizeOf118 (Mem.own (us := [.slice _ _ _, .int .i64 _]) 1 rf rf) rf) ?_
        refine WS_newS hF rf (y_buildSliceL bs167_2_0_1 rf) (fun b2 => ?_)
        refine WS_gen hF rf (y_callL rf rf Tryz.call95 (fun w hw => firstW_any _ 2 2 [ox, ⟨(c.nx x.w xk ((c.ps xk).getD k Po.z)), na, ncap⟩] w dc dc (Wls.two 0 rf w hw) (fun y hy => by simp only [List.mem_cons, List.not_mem_nil, or_false] at hy; rcases hy with rfl | rfl <;> first | exact hor _ _ w sbA hw | exact hnr _ _ w sbA hw))) ?_
        rintro _ HL ⟨fx, hfm, rfl, hfmin⟩
        refine WS_back ?_
        refine WS_store hF (i := 2) rf rf Tryz.sizeOf118 rf rf rf d20 ?_
        refine zQ fun ds => ?_
        refine zD hF (y_load1 rf Tryz.isAgg94 (Mem.own1 7 rf rf)) ?_
        refine zD hF (y_loadN rf Tryz.isAgg106 Tryz.sizeOf106 (Mem.own (us := [.int .i64 _, .int .i64 _, .int .i64 _, .int .i64 _]) 3 rf rf) rf) ?_
        refine zD hF (y_loadN rf Tryz.isAgg118 Tryz.sizeOf118 (Mem.own (us := [.slice _ _ _, .int .i64 _]) 2 rf rf) rf) ?_
        refine WS_mapUpdK hF (enc := encC) (k := c.stp xk ((c.ps xk).getD k Po.z)) (u := fx.v) (i := 9) keyC rf rf rf Tryz.underlying94 rf ?_
        have hfw : fx.w = pickW (look2 (c.stp xk ((c.ps xk).getD k Po.z))) (c.nx x.w xk ((c.ps xk).getD k Po.z)) := pick_min (by cases hlo : look2 (c.stp xk ((c.ps xk).getD k Po.z)) with | none => rw [hlo] at c16; cases c16 | some u => rw [how u hlo]) hfm hfmin
        have hfr : fx.RdH (HX2 ++ Hr) := by
         simp only [List.mem_cons, List.not_mem_nil, or_false] at hfm
         rcases hfm with rfl | rfl
         ·exact hor.mono (List.sublist_append_left _ _)
         ·exact hnr
        have hTm3 := (hTm2.mono (List.sublist_append_left HX2 Hr)).put (c.stp xk ((c.ps xk).getD k Po.z)) fx cm2 hfr
        rw [hfw] at hTm3
        refine WS_nil ?_
        refine InB_normal ?_
        refine ⟨_, ?_, _, _, _, _, HX2 ++ Hr, rfl, hsub.trans (List.sublist_append_left _ _), hgm2.put _ _, hTm3, hSt2.put hxl hps hkn, fun y v h => .inl (hPP y v h), fun j hj hno => ?_⟩
        ·exact HSub.sub sbA
        by_cases hjk : j = k
        ·subst hjk; exact .inr ⟨rfl, rfl⟩
        ·exact .inl (hdn j om0 hno)
       ·
        try simp only [qz1, qz2, qz3, qz4, qz5, qz6, qz7, qz8] at c16
        refine W_skip ?_
        refine zT fun ds => ?_
        refine zD hF (y_load1 rf Tryz.isAgg94 (Mem.own1 6 rf rf)) ?_
        refine zD hF (y_loadN rf Tryz.isAgg106 Tryz.sizeOf106 (Mem.own (us := [.int .i64 _, .int .i64 _, .int .i64 _, .int .i64 _]) 2 rf rf) rf) ?_
        refine zD hF (y_loadN rf Tryz.isAgg118 Tryz.sizeOf118 (Mem.own (us := [.slice _ _ _, .int .i64 _]) 1 rf rf) rf) ?_
        refine WS_mapUpdK hF (enc := encC) (k := c.stp xk ((c.ps xk).getD k Po.z)) (u := Wl.v ⟨(c.nx x.w xk ((c.ps xk).getD k Po.z)), na, ncap⟩) (i := 8) keyC rf rf rf Tryz.underlying94 rf ?_
        have hlo : look2 (c.stp xk ((c.ps xk).getD k Po.z)) = none := by cases hlo : look2 (c.stp xk ((c.ps xk).getD k Po.z)) with | none => rfl | some u => rw [hlo] at c16; cases c16
        have hTm3 := (hTm2.mono (List.sublist_append_left HX2 Hr)).put (c.stp xk ((c.ps xk).getD k Po.z)) ⟨(c.nx x.w xk ((c.ps xk).getD k Po.z)), na, ncap⟩ cm2 hnr
        rw [show (⟨(c.nx x.w xk ((c.ps xk).getD k Po.z)), na, ncap⟩ : Wl).w = pickW (look2 (c.stp xk ((c.ps xk).getD k Po.z))) (c.nx x.w xk ((c.ps xk).getD k Po.z)) by rw [hlo]; rfl] at hTm3
        refine WS_nil ?_
        refine InB_normal ?_
        refine ⟨_, ?_, _, _, _, _, HX2 ++ Hr, rfl, hsub.trans (List.sublist_append_left _ _), hgm2.put _ _, hTm3, hSt2.put hxl hps hkn, fun y v h => .inl (hPP y v h), fun j hj hno => ?_⟩
        ·exact HSub.sub sbA
        by_cases hjk : j = k
        ·subst hjk; exact .inr ⟨rfl, rfl⟩
        ·exact .inl (hdn j om0 hno)
      ·
       refine WH_take 0 dk0 rf dk0 dk0 rf (ye_fieldAddr rf fa118_0) ?_
       refine WH_take 1 dk0 rf dk0 dk0 rf (ye_load1 rf Tryz.isAgg35 (Mem.own1 3 rf rf)) ?_
       refine WH_take 3 dk0 rf dk0 dk0 rf (ye_loadN rf Tryz.isAgg47 Tryz.sizeOf47 (Mem.own (us := [.int .i64 _, .int .i64 _]) 2 rf rf) rf) ?_
       refine WH_take 6 dk0 rf dk0 dk0 rf (ye_fieldAddr rf fa118_1) ?_
       refine WH_take 7 dk0 rf dk0 dk0 rf (ye_load1 rf Tryz.isAgg3 (Mem.own1 3 rf rf)) ?_
       refine WH_take 8 dk0 rf dk0 dk0 rf (ye_indexA (k := 0) rf rf r1 d10 Tryz.runUnderlying106 Tryz.sizeOf3) ?_
       refine WH_take 9 dk0 rf dk0 dk0 rf (ye_load1 rf Tryz.isAgg3 (Mem.own1 1 rf rf)) ?_
       refine WH_take 10 dk0 rf dk0 dk0 rf (ye_indexA (k := 0) rf rf r1 d10 Tryz.runUnderlying106 Tryz.sizeOf3) ?_
       refine WH_take 11 dk0 rf dk0 dk0 rf (ye_load1 rf Tryz.isAgg3 (Mem.own1 4 rf rf)) ?_
       refine WH_take 12 dk0 rf dk0 dk0 rf (ye_sub rf rf ui) ?_
       refine WH_take 13 dk0 rf dk0 dk0 rf (ye_max rf rf) ?_
       refine WH_take 14 dk0 rf dk0 dk0 rf (ye_add rf rf ui) ?_
       refine WH_step3 2 4 16 dk0 (fun _ h => St.sub h sbA) rf rf rf ?_ ?_ ?_
       ·
        refine WS_gen hF rf (y_callL rf rf Tryz.call94 (fun w hw => cloneP_any x.w.l x.a x.k w ((hxr.mono hsub) _ _ w sbA hw).n ((hxr.mono hsub) _ _ w sbA hw).p)) ?_
        rintro _ Hc ⟨ca, ccap, rfl, hrc⟩
        refine WS_back ?_
        refine WS_nil ?_
        refine WH_step2 4 16 dk0 (fun _ h => St.sub h sbA) rf rf ?_ ?_
        ·
         refine WS_newS hF rf (y_buildSliceL bs35_1_0 rf) (fun b3 => ?_)
         refine WS_nil ?_
         refine WH_step2 5 16 dk0 (fun _ h => St.sub h sbA) rf rf ?_ ?_
         ·
          refine WS_appendN hF (H1 := (_ :: _ :: _ :: _ :: _ :: _ :: _ :: _ :: _ :: _ :: _ :: _ :: _ :: (HX2 ++ (R')))) (Hn := Hc) rf rf rf Tryz.underlying35 infPo rf rf hrc (rowOf_len po_len _ _) (.inr ⟨_, _, rfl, (by first | exact Mem.own (us := [.int _ _, .int _ _]) 0 rf rf | exact Mem.own (us := [.int _ _, .int _ _]) 1 rf rf)⟩) rf rf om0 om0 om0 ?_
          intro a3 cap3 H3 hr3
          have hrow3 : NewRow 47 2 (c.nx x.w xk ((c.ps xk).getD k Po.z)).l.length (rowOf Po.cells (fun z => (c.nx x.w xk ((c.ps xk).getD k Po.z)).l.getD z Po.z) (c.nx x.w xk ((c.ps xk).getD k Po.z)).l.length) (.slice a3 (c.nx x.w xk ((c.ps xk).getD k Po.z)).l.length cap3) H3 := by rw [c.nx_row, c.nx_len]; exact hr3
          refine WS_nil ?_
          refine WH_take 15 dk0 rf dk0 dk0 rf (ye_buildL bd118_0_1 rf) ?_
          refine WH_step1 16 dk0 (fun _ h => St.sub h sbA) rf ?_
          ·
           refine WS_new hF rf (y_alloc Tryz.zeroValue118 rf) (fun b4 => ?_)
           refine WS_nil ?_
           refine WH_done dk0 (fun _ h => St.sub h sbA) ?_
           exact ⟨_, _, _, _, hrow3, s30, HSub.swap3 (F := [_, _, _, _, _, _, _, _, _, _, _]) sbA⟩
         ·
          refine WS_new hF rf (y_alloc Tryz.zeroValue118 rf) (fun b5 => ?_)
          refine WS_nil ?_
          refine WH_step1 5 dk0 (fun _ h => St.sub h sbA) rf ?_
          ·
           refine WS_appendN hF (H1 := (_ :: _ :: _ :: _ :: _ :: _ :: _ :: _ :: _ :: _ :: _ :: _ :: _ :: _ :: (HX2 ++ (R')))) (Hn := Hc) rf rf rf Tryz.underlying35 infPo rf rf hrc (rowOf_len po_len _ _) (.inr ⟨_, _, rfl, (by first | exact Mem.own (us := [.int _ _, .int _ _]) 0 rf rf | exact Mem.own (us := [.int _ _, .int _ _]) 1 rf rf)⟩) rf rf om0 om0 om0 ?_
           intro a3 cap3 H3 hr3
           have hrow3 : NewRow 47 2 (c.nx x.w xk ((c.ps xk).getD k Po.z)).l.length (rowOf Po.cells (fun z => (c.nx x.w xk ((c.ps xk).getD k Po.z)).l.getD z Po.z) (c.nx x.w xk ((c.ps xk).getD k Po.z)).l.length) (.slice a3 (c.nx x.w xk ((c.ps xk).getD k Po.z)).l.length cap3) H3 := by rw [c.nx_row, c.nx_len]; exact hr3
           refine WS_nil ?_
           refine WH_take 15 dk0 rf dk0 dk0 rf (ye_buildL bd118_0_1 rf) ?_
           refine WH_done dk0 (fun _ h => St.sub h sbA) ?_
           exact ⟨_, _, _, _, hrow3, s30, HSub.swap3 (F := [_, _, _, _, _, _, _, _, _, _, _]) sbA⟩
        ·
         refine WS_new hF rf (y_alloc Tryz.zeroValue118 rf) (fun b6 => ?_)
         refine WS_nil ?_
         refine WH_step1 4 dk0 (fun _ h => St.sub h sbA) rf ?_
         ·
          refine WS_newS hF rf (y_buildSliceL bs35_1_0 rf) (fun b7 => ?_)
          refine WS_nil ?_
          refine WH_step1 5 dk0 (fun _ h => St.sub h sbA) rf ?_
          ·
           refine WS_appendN hF (H1 := (_ :: _ :: _ :: _ :: _ :: _ :: _ :: _ :: _ :: _ :: _ :: _ :: _ :: _ :: (HX2 ++ (R')))) (Hn := Hc) rf rf rf Tryz.underlying35 infPo rf rf hrc (rowOf_len po_len _ _) (.inr ⟨_, _, rfl, (by first | exact Mem.own (us := [.int _ _, .int _ _]) 0 rf rf | exact Mem.own (us := [.int _ _, .int _ _]) 1 rf rf)⟩) rf rf om0 om0 om0 ?_
           intro a3 cap3 H3 hr3
           have hrow3 : NewRow 47 2 (c.nx x.w xk ((c.ps xk).getD k Po.z)).l.length (rowOf Po.cells (fun z => (c.nx x.w xk ((c.ps xk).getD k Po.z)).l.getD z Po.z) (c.nx x.w xk ((c.ps xk).getD k Po.z)).l.length) (.slice a3 (c.nx x.w xk ((c.ps xk).getD k Po.z)).l.length cap3) H3 := by rw [c.nx_row, c.nx_len]; exact hr3
           refine WS_nil ?_
           refine WH_take 15 dk0 rf dk0 dk0 rf (ye_buildL bd118_0_1 rf) ?_
           refine WH_done dk0 (fun _ h => St.sub h sbA) ?_
           exact ⟨_, _, _, _, hrow3, s30, HSub.swap3 (F := [_, _, _, _, _, _, _, _, _, _, _]) sbA⟩
       ·
        refine WS_newS hF rf (y_buildSliceL bs35_1_0 rf) (fun b8 => ?_)
        refine WS_nil ?_
        refine WH_step2 2 16 dk0 (fun _ h => St.sub h sbA) rf rf ?_ ?_
        ·
         refine WS_gen hF rf (y_callL rf rf Tryz.call94 (fun w hw => cloneP_any x.w.l x.a x.k w ((hxr.mono hsub) _ _ w sbA hw).n ((hxr.mono hsub) _ _ w sbA hw).p)) ?_
         rintro _ Hc ⟨ca, ccap, rfl, hrc⟩
         refine WS_back ?_
         refine WS_nil ?_
         refine WH_step2 5 16 dk0 (fun _ h => St.sub h sbA) rf rf ?_ ?_
         ·
          refine WS_appendN hF (H1 := (_ :: _ :: _ :: _ :: _ :: _ :: _ :: _ :: _ :: _ :: _ :: _ :: _ :: (HX2 ++ (R')))) (Hn := Hc) rf rf rf Tryz.underlying35 infPo rf rf hrc (rowOf_len po_len _ _) (.inr ⟨_, _, rfl, (by first | exact Mem.own (us := [.int _ _, .int _ _]) 0 rf rf | exact Mem.own (us := [.int _ _, .int _ _]) 1 rf rf)⟩) rf rf om0 om0 om0 ?_
          intro a3 cap3 H3 hr3
          have hrow3 : NewRow 47 2 (c.nx x.w xk ((c.ps xk).getD k Po.z)).l.length (rowOf Po.cells (fun z => (c.nx x.w xk ((c.ps xk).getD k Po.z)).l.getD z Po.z) (c.nx x.w xk ((c.ps xk).getD k Po.z)).l.length) (.slice a3 (c.nx x.w xk ((c.ps xk).getD k Po.z)).l.length cap3) H3 := by rw [c.nx_row, c.nx_len]; exact hr3
          refine WS_nil ?_
          refine WH_take 15 dk0 rf dk0 dk0 rf (ye_buildL bd118_0_1 rf) ?_
          refine WH_step1 16 dk0 (fun _ h => St.sub h sbA) rf ?_
          ·
           refine WS_new hF rf (y_alloc Tryz.zeroValue118 rf) (fun b9 => ?_)
           refine WS_nil ?_
           refine WH_done dk0 (fun _ h => St.sub h sbA) ?_
           exact ⟨_, _, _, _, hrow3, s30, HSub.swap3 (F := [_, _, _, _, _, _, _, _, _, _, _]) sbA⟩
         ·
          refine WS_new hF rf (y_alloc Tryz.zeroValue118 rf) (fun b10 => ?_)
          refine WS_nil ?_
          refine WH_step1 5 dk0 (fun _ h => St.sub h sbA) rf ?_
          ·
           refine WS_appendN hF (H1 := (_ :: _ :: _ :: _ :: _ :: _ :: _ :: _ :: _ :: _ :: _ :: _ :: _ :: _ :: (HX2 ++ (R')))) (Hn := Hc) rf rf rf Tryz.underlying35 infPo rf rf hrc (rowOf_len po_len _ _) (.inr ⟨_, _, rfl, (by first | exact Mem.own (us := [.int _ _, .int _ _]) 0 rf rf | exact Mem.own (us := [.int _ _, .int _ _]) 1 rf rf)⟩) rf rf om0 om0 om0 ?_
           intro a3 cap3 H3 hr3
           have hrow3 : NewRow 47 2 (c.nx x.w xk ((c.ps xk).getD k Po.z)).l.length (rowOf Po.cells (fun z => (c.nx x.w xk ((c.ps xk).getD k Po.z)).l.getD z Po.z) (c.nx x.w xk ((c.ps xk).getD k Po.z)).l.length) (.slice a3 (c.nx x.w xk ((c.ps xk).getD k Po.z)).l.length cap3) H3 := by rw [c.nx_row, c.nx_len]; exact hr3
           refine WS_nil ?_
           refine WH_take 15 dk0 rf dk0 dk0 rf (ye_buildL bd118_0_1 rf) ?_
           refine WH_done dk0 (fun _ h => St.sub h sbA) ?_
           exact ⟨_, _, _, _, hrow3, s30, HSub.swap3 (F := [_, _, _, _, _, _, _, _, _, _, _]) sbA⟩
        ·
         refine WS_new hF rf (y_alloc Tryz.zeroValue118 rf) (fun b11 => ?_)
         refine WS_nil ?_
         refine WH_step1 2 dk0 (fun _ h => St.sub h sbA) rf ?_
         ·
          refine WS_gen hF rf (y_callL rf rf Tryz.call94 (fun w hw => cloneP_any x.w.l x.a x.k w ((hxr.mono hsub) _ _ w sbA hw).n ((hxr.mono hsub) _ _ w sbA hw).p)) ?_
          rintro _ Hc ⟨ca, ccap, rfl, hrc⟩
          refine WS_back ?_
          refine WS_nil ?_
          refine WH_step1 5 dk0 (fun _ h => St.sub h sbA) rf ?_
          ·
           refine WS_appendN hF (H1 := (_ :: _ :: _ :: _ :: _ :: _ :: _ :: _ :: _ :: _ :: _ :: _ :: _ :: _ :: (HX2 ++ (R')))) (Hn := Hc) rf rf rf Tryz.underlying35 infPo rf rf hrc (rowOf_len po_len _ _) (.inr ⟨_, _, rfl, (by first | exact Mem.own (us := [.int _ _, .int _ _]) 0 rf rf | exact Mem.own (us := [.int _ _, .int _ _]) 1 rf rf)⟩) rf rf om0 om0 om0 ?_
           intro a3 cap3 H3 hr3
           have hrow3 : NewRow 47 2 (c.nx x.w xk ((c.ps xk).getD k Po.z)).l.length (rowOf Po.cells (fun z => (c.nx x.w xk ((c.ps xk).getD k Po.z)).l.getD z Po.z) (c.nx x.w xk ((c.ps xk).getD k Po.z)).l.length) (.slice a3 (c.nx x.w xk ((c.ps xk).getD k Po.z)).l.length cap3) H3 := by rw [c.nx_row, c.nx_len]; exact hr3
           refine WS_nil ?_
           refine WH_take 15 dk0 rf dk0 dk0 rf (ye_buildL bd118_0_1 rf) ?_
           refine WH_done dk0 (fun _ h => St.sub h sbA) ?_
           exact ⟨_, _, _, _, hrow3, s30, HSub.swap3 (F := [_, _, _, _, _, _, _, _, _, _, _]) sbA⟩
       ·
        refine WS_new hF rf (y_alloc Tryz.zeroValue118 rf) (fun b12 => ?_)
        refine WS_nil ?_
        refine WH_step2 2 4 dk0 (fun _ h => St.sub h sbA) rf rf ?_ ?_
        ·
         refine WS_gen hF rf (y_callL rf rf Tryz.call94 (fun w hw => cloneP_any x.w.l x.a x.k w ((hxr.mono hsub) _ _ w sbA hw).n ((hxr.mono hsub) _ _ w sbA hw).p)) ?_
         rintro _ Hc ⟨ca, ccap, rfl, hrc⟩
         refine WS_back ?_
         refine WS_nil ?_
         refine WH_step1 4 dk0 (fun _ h => St.sub h sbA) rf ?_
         ·
          refine WS_newS hF rf (y_buildSliceL bs35_1_0 rf) (fun b13 => ?_)
          refine WS_nil ?_
          refine WH_step1 5 dk0 (fun _ h => St.sub h sbA) rf ?_
          ·
           refine WS_appendN hF (H1 := (_ :: _ :: _ :: _ :: _ :: _ :: _ :: _ :: _ :: _ :: _ :: _ :: _ :: _ :: (HX2 ++ (R')))) (Hn := Hc) rf rf rf Tryz.underlying35 infPo rf rf hrc (rowOf_len po_len _ _) (.inr ⟨_, _, rfl, (by first | exact Mem.own (us := [.int _ _, .int _ _]) 0 rf rf | exact Mem.own (us := [.int _ _, .int _ _]) 1 rf rf)⟩) rf rf om0 om0 om0 ?_
           intro a3 cap3 H3 hr3
           have hrow3 : NewRow 47 2 (c.nx x.w xk ((c.ps xk).getD k Po.z)).l.length (rowOf Po.cells (fun z => (c.nx x.w xk ((c.ps xk).getD k Po.z)).l.getD z Po.z) (c.nx x.w xk ((c.ps xk).getD k Po.z)).l.length) (.slice a3 (c.nx x.w xk ((c.ps xk).getD k Po.z)).l.length cap3) H3 := by rw [c.nx_row, c.nx_len]; exact hr3
           refine WS_nil ?_
           refine WH_take 15 dk0 rf dk0 dk0 rf (ye_buildL bd118_0_1 rf) ?_
           refine WH_done dk0 (fun _ h => St.sub h sbA) ?_
           exact ⟨_, _, _, _, hrow3, s30, HSub.swap3 (F := [_, _, _, _, _, _, _, _, _, _, _]) sbA⟩
        ·
         refine WS_newS hF rf (y_buildSliceL bs35_1_0 rf) (fun b14 => ?_)
         refine WS_nil ?_
         refine WH_step1 2 dk0 (fun _ h => St.sub h sbA) rf ?_
         ·
          refine WS_gen hF rf (y_callL rf rf Tryz.call94 (fun w hw => cloneP_any x.w.l x.a x.k w ((hxr.mono hsub) _ _ w sbA hw).n ((hxr.mono hsub) _ _ w sbA hw).p)) ?_
          rintro _ Hc ⟨ca, ccap, rfl, hrc⟩
          refine WS_back ?_
          refine WS_nil ?_
          refine WH_step1 5 dk0 (fun _ h => St.sub h sbA) rf ?_
          ·
           refine WS_appendN hF (H1 := (_ :: _ :: _ :: _ :: _ :: _ :: _ :: _ :: _ :: _ :: _ :: _ :: _ :: _ :: (HX2 ++ (R')))) (Hn := Hc) rf rf rf Tryz.underlying35 infPo rf rf hrc (rowOf_len po_len _ _) (.inr ⟨_, _, rfl, (by first | exact Mem.own (us := [.int _ _, .int _ _]) 0 rf rf | exact Mem.own (us := [.int _ _, .int _ _]) 1 rf rf)⟩) rf rf om0 om0 om0 ?_
           intro a3 cap3 H3 hr3
           have hrow3 : NewRow 47 2 (c.nx x.w xk ((c.ps xk).getD k Po.z)).l.length (rowOf Po.cells (fun z => (c.nx x.w xk ((c.ps xk).getD k Po.z)).l.getD z Po.z) (c.nx x.w xk ((c.ps xk).getD k Po.z)).l.length) (.slice a3 (c.nx x.w xk ((c.ps xk).getD k Po.z)).l.length cap3) H3 := by rw [c.nx_row, c.nx_len]; exact hr3
           refine WS_nil ?_
           refine WH_take 15 dk0 rf dk0 dk0 rf (ye_buildL bd118_0_1 rf) ?_
           refine WH_done dk0 (fun _ h => St.sub h sbA) ?_
           exact ⟨_, _, _, _, hrow3, s30, HSub.swap3 (F := [_, _, _, _, _, _, _, _, _, _, _]) sbA⟩
    ·rintro G hj
     obtain ⟨lm2, cm2, P2, look2, HX2, rfl, hsub, hgm2, hTm2, hSt2, hPP, hdn⟩ := hj
     refine InB_normal ?_
     refine zT fun ds => ?_
     refine zm (.map _) hF ?_
     refine zD hF (y_loadN rf Tryz.isAgg106 Tryz.sizeOf106 (Mem.own (us := [.int .i64 _, .int .i64 _, .int .i64 _, .int .i64 _]) 3 rf rf) rf) ?_
     refine WS_deleteK hF (enc := encC) (k := xk) (i := 8) keyC rf rf Tryz.underlying94 rf ?_
     refine WS_nil ?_
     refine InB_normal ?_
     exact Loop_next (delK xk lo1, seen.push bn, co, lm2, cm2, P2, look2, HX2) ⟨hO.step hPP hsub hy (fun w hw => by rw [hw.1.uniq hxl.1]; exact hdn), Nat.le_refl _, hgm2, hTk3.mono hsub, hTm2, hSt2⟩ s10 sbA (delK_lt hy)
    ·rintro c k G hk hj
     exact hj.elim
   ·cases c7
 ·
  try simp only [qz1, qz2, qz3, qz4, qz5, qz6, qz7, qz8] at c3
  refine W_exit ?_
  refine Then_exit ?_
  refine Loop_exit ?_
  refine InB_same ?_
  refine zS fun ds => ?_
  refine zD hF (y_load1 rf Tryz.isAgg94 (Mem.own1 2 rf rf)) ?_
  refine za (.map _) hF ?_
  refine zN ?_
  refine W_ret ?_
  refine Fin_ret [.map _] ((mk, _) :: HX) Tryz.results50 ⟨by rfl, trivial⟩ (HSub.sub sbA) ?_
  have h0 : lo = [] := List.eq_nil_of_length_eq_zero om0
  subst h0
  exact ⟨mk, lk, ck, HX, rfl, rfl, hgk, fun k => by rw [← Cn.ltO_end (fun w y h => by obtain ⟨z, hz, _⟩ := hTo.has (Cn.eqO_iff.2 h); cases hz) k]; exact hTk k⟩
structure Cn.TabK (c : Cn) (xs : List (Co × Wy)) (ks : List Int) : Prop where
 len : ks.length = 9261
 tab : ∀ y, c.In y → y.sm = c.co.sm → (ks.getD (c.ky y).toNat 0 = 0 ∧ ∀ z ∈ xs, z.1 ≠ y) ∨ ∃ (j : Nat) (z : Co × Wy), xs[j]? = some z ∧ z.1 = y ∧ ks.getD (c.ky y).toNat 0 = (j : Int) + 1
 inn : ∀ z ∈ xs, c.In z.1 ∧ z.1.sm = c.co.sm
 nd : (xs.map Prod.fst).Nodup
theorem Cn.TabK.bd {c : Cn} (hok : c.Ok) {xs : List (Co × Wy)} {ks : List Int} (h : c.TabK xs ks) : xs.length ≤ 9261 := by
 have hnd : (xs.map fun z => (c.ky z.1).toNat).Nodup := by
  have h1 := h.nd
  rw [List.nodup_iff_pairwise_ne, List.pairwise_map] at h1 ⊢
  refine h1.imp_of_mem fun {a b} ha hb hab he => hab ?_
  obtain ⟨a1, a2⟩ := h.inn a ha
  obtain ⟨b1, b2⟩ := h.inn b hb
  have k1 := Cn.ky_bd hok a1
  have k2 := Cn.ky_bd hok b1
  exact Cn.ky_inj hok a1 b1 (a2.trans b2.symm) om0
 have := nodup_bd (N := 9261) hnd fun n hn => by
  obtain ⟨z, hz, rfl⟩ := List.mem_map.1 hn
  have := Cn.ky_bd hok (h.inn z hz).1
  omega
 rwa [List.length_map] at this
theorem Cn.TabK.push {c : Cn} (hok : c.Ok) {xs : List (Co × Wy)} {ks : List Int} (h : c.TabK xs ks) {y : Co} (hy : c.In y) (hs : y.sm = c.co.sm) (hk : ks.getD (c.ky y).toNat 0 = 0) (v : Wy) : c.TabK (xs ++ [(y, v)]) (ks.set (c.ky y).toNat ((xs.length : Int) + 1)) := by
 have hb := Cn.ky_bd hok hy
 have hn : ∀ z ∈ xs, z.1 ≠ y := by
  rcases h.tab y hy hs with h1 | ⟨j, z, _, _, h3⟩
  ·exact h1.2
  ·omega
 refine ⟨by rw [List.length_set]; exact h.len, fun u hu hus => ?_, fun z hz => ?_, ?_⟩
 ·by_cases he : u = y
  ·subst he
   refine .inr ⟨xs.length, (u, v), by simp, rfl, ?_⟩
   rw [List.getD_eq_getElem?_getD, List.getElem?_set_self (by rw [h.len]; omega)]
   rfl
  ·have hne : (c.ky y).toNat ≠ (c.ky u).toNat := fun hh => he (by
    have := Cn.ky_bd hok hu
    exact Cn.ky_inj hok hu hy (hus.trans hs.symm) om0)
   have hg : (ks.set (c.ky y).toNat ((xs.length : Int) + 1)).getD (c.ky u).toNat 0 = ks.getD (c.ky u).toNat 0 := by
    rw [List.getD_eq_getElem?_getD, List.getD_eq_getElem?_getD, List.getElem?_set_ne hne]
   rw [hg]
   rcases h.tab u hu hus with ⟨h1, h2⟩ | ⟨j, z, h1, h2, h3⟩
   ·refine .inl ⟨h1, fun z hz => ?_⟩
    rcases List.mem_append.1 hz with hz | hz
    ·exact h2 z hz
    ·simp only [List.mem_singleton] at hz; subst hz; exact fun e => he e.symm
   ·exact .inr ⟨j, z, by rw [List.getElem?_append_left (List.getElem?_eq_some_iff.1 h1).1]; exact h1, h2, h3⟩
 ·rcases List.mem_append.1 hz with hz | hz
  ·exact h.inn z hz
  ·simp only [List.mem_singleton] at hz; subst hz; exact ⟨hy, hs⟩
 ·rw [List.map_append, List.nodup_append]
  refine ⟨h.nd, by simp, fun a ha b hb2 hab => ?_⟩
  obtain ⟨z, hz, rfl⟩ := List.mem_map.1 ha
  simp only [List.map_cons, List.map_nil, List.mem_singleton] at hb2
  exact hn z hz (hab.trans hb2)
theorem map_set_fst {xs : List (Co × Wy)} {j : Nat} {y : Co} {u v : Wy} (h : xs[j]? = some (y, u)) : (xs.set j (y, v)).map Prod.fst = xs.map Prod.fst := by
 obtain ⟨hj, he⟩ := List.getElem?_eq_some_iff.1 h
 rw [List.map_set]
 refine List.ext_getElem (by simp) fun i h1 h2 => ?_
 rw [List.getElem_set]
 split
 ·rename_i hij; subst hij; simp [he]
 ·rfl
theorem Cn.TabK.upd {c : Cn} {xs : List (Co × Wy)} {ks : List Int} (h : c.TabK xs ks) {j : Nat} {y : Co} {u : Wy} (hj : xs[j]? = some (y, u)) (v : Wy) : c.TabK (xs.set j (y, v)) ks := by
 have hjl := (List.getElem?_eq_some_iff.1 hj).1
 have hfst : ∀ z ∈ xs.set j (y, v), z.1 ∈ xs.map Prod.fst := fun z hz => by
  rw [← map_set_fst hj (v := v)]; exact List.mem_map.2 ⟨z, hz, rfl⟩
 refine ⟨h.len, fun a ha has => ?_, fun z hz => ?_, by rw [map_set_fst hj]; exact h.nd⟩
 ·rcases h.tab a ha has with ⟨h1, h2⟩ | ⟨i, z, h1, h2, h3⟩
  ·refine .inl ⟨h1, fun z hz => ?_⟩
   obtain ⟨z', hz', he⟩ := List.mem_map.1 (hfst z hz)
   rw [← he]; exact h2 z' hz'
  ·by_cases hij : j = i
   ·subst hij
    rw [hj] at h1
    cases h1
    exact .inr ⟨j, (y, v), List.getElem?_set_self hjl, h2, h3⟩
   ·exact .inr ⟨i, z, by rw [List.getElem?_set_ne hij]; exact h1, h2, h3⟩
 ·obtain ⟨z', hz', he⟩ := List.mem_map.1 (hfst z hz)
  rw [← he]; exact h.inn z' hz'
structure Cn.Rc0 (c : Cn) (n fr : Nat) (xs : List (Co × Wy)) (ks : List Int) : Prop where
 tb : c.TabK xs ks
 frl : fr ≤ xs.length
 best : ∀ (j : Nat) (z : Co × Wy), xs[j]? = some z → c.Best z.2 z.1 ∧ (j < fr → z.2.l.length < n) ∧ (fr ≤ j → z.2.l.length = n)
 all : ∀ y w, c.Best w y → w.l.length ≤ n → (y, w) ∈ xs
 srt : xs.Pairwise fun a b => a.2.l.length ≤ b.2.l.length
structure Cn.RcI (c : Cn) (n fr en : Nat) (P : Co → Wy → Prop) (look : Co → Option Wy) (xs : List (Co × Wy)) (ks : List Int) : Prop where
 tb : c.TabK xs ks
 stp : c.Stp n P look
 frl : fr ≤ en
 enl : en ≤ xs.length
 best : ∀ (j : Nat) (z : Co × Wy), j < en → xs[j]? = some z → c.Best z.2 z.1 ∧ (j < fr → z.2.l.length < n) ∧ (fr ≤ j → z.2.l.length = n)
 all : ∀ y w, c.Best w y → w.l.length ≤ n → ∃ j : Nat, j < en ∧ xs[j]? = some (y, w)
 new : ∀ y w, look y = some w ↔ ∃ j : Nat, en ≤ j ∧ xs[j]? = some (y, w)
 srt : ∀ (i j : Nat) (a b : Co × Wy), i ≤ j → j < en → xs[i]? = some a → xs[j]? = some b → a.2.l.length ≤ b.2.l.length
theorem Cn.Rc0.start {c : Cn} {n fr : Nat} {xs : List (Co × Wy)} {ks : List Int} (h : c.Rc0 n fr xs ks) : c.RcI n fr xs.length (fun _ _ => False) (fun _ => none) xs ks := by
 refine ⟨h.tb, .nil c n, h.frl, Nat.le_refl _, fun j z _ hz => h.best j z hz, fun y w hw hl => ?_, fun y w => ?_, fun i j a b hij hj ha hb => ?_⟩
 ·obtain ⟨j, hj⟩ := List.getElem?_of_mem (h.all y w hw hl)
  exact ⟨j, (List.getElem?_eq_some_iff.1 hj).1, hj⟩
 ·constructor
  ·intro h; cases h
  ·rintro ⟨j, h1, h2⟩
   have := (List.getElem?_eq_some_iff.1 h2).1
   omega
 ·by_cases he : i = j
  ·subst he; rw [ha] at hb; cases hb; exact Nat.le_refl _
  ·have hp := List.pairwise_iff_getElem.1 h.srt i j om0 hj om0
   rw [(List.getElem?_eq_some_iff.1 ha).2, (List.getElem?_eq_some_iff.1 hb).2] at hp
   exact hp
theorem Cn.RcI.kn {c : Cn} {n fr en : Nat} {P : Co → Wy → Prop} {look : Co → Option Wy} {xs : List (Co × Wy)} {ks : List Int} (h : c.RcI n fr en P look xs ks) {y : Co} : c.Kn n y ↔ ∃ (j : Nat) (z : Co × Wy), j < en ∧ xs[j]? = some z ∧ z.1 = y := by
 constructor
 ·rintro ⟨u, h1, h2⟩
  obtain ⟨j, h3, h4⟩ := h.all y u h1 h2
  exact ⟨j, _, h3, h4, rfl⟩
 ·rintro ⟨j, z, h1, h2, rfl⟩
  obtain ⟨h3, h4, h5⟩ := h.best j z h1 h2
  refine ⟨z.2, h3, ?_⟩
  by_cases hj : j < fr
  ·exact Nat.le_of_lt (h4 hj)
  ·exact Nat.le_of_eq (h5 om0)
theorem Cn.TabK.uniq {c : Cn} {xs : List (Co × Wy)} {ks : List Int} (h : c.TabK xs ks) {i j : Nat} {a b : Co × Wy} (ha : xs[i]? = some a) (hb : xs[j]? = some b) (he : a.1 = b.1) : i = j := by
 obtain ⟨hi, ei⟩ := List.getElem?_eq_some_iff.1 ha
 obtain ⟨hj, ej⟩ := List.getElem?_eq_some_iff.1 hb
 have h1 := h.nd
 rw [List.nodup_iff_pairwise_ne, List.pairwise_iff_getElem] at h1
 rcases Nat.lt_trichotomy i j with hl | rfl | hl
 ·exact (h1 i j (by simpa using hi) (by simpa using hj) hl (by simp only [List.getElem_map, ei, ej, he])).elim
 ·rfl
 ·exact (h1 j i (by simpa using hj) (by simpa using hi) hl (by simp only [List.getElem_map, ei, ej, he])).elim
def addP (P : Co → Wy → Prop) (y : Co) (v : Wy) : Co → Wy → Prop := fun y' v' => P y' v' ∨ (y' = y ∧ v' = v)
def addL (look : Co → Option Wy) (y : Co) (v : Wy) : Co → Option Wy := fun y' => if y' = y then some (pickW (look y) v) else look y'
theorem Cn.RcI.zero {c : Cn} {n fr en : Nat} {P : Co → Wy → Prop} {look : Co → Option Wy} {xs : List (Co × Wy)} {ks : List Int} (h : c.RcI n fr en P look xs ks) (hn : c.n ≤ 3) {x : Co} {w : Wy} {p : Po} (hx : c.In x) (hxs : x.sm = c.co.sm) (hp : c.pE x p = 0) (hk : ks.getD (c.ky (c.stp x p)).toNat 0 = 0) :
  (∀ z ∈ xs, z.1 ≠ c.stp x p) ∧ look (c.stp x p) = none ∧ ¬ c.Kn n (c.stp x p) := by
 have hz : ∀ z ∈ xs, z.1 ≠ c.stp x p := by
  rcases h.tb.tab _ (hx.stp hn hp) ((Cn.stp_sm hn hp).trans hxs) with h1 | ⟨j, z, _, _, h3⟩
  ·exact h1.2
  ·omega
 refine ⟨hz, ?_, fun hkn => ?_⟩
 ·cases hl : look (c.stp x p) with
  | none => rfl
  | some u =>
   obtain ⟨j, _, hj⟩ := (h.new _ _).1 hl
   exact absurd rfl (hz _ (List.mem_of_getElem? hj))
 ·obtain ⟨j, z, _, hj, he⟩ := h.kn.1 hkn
  exact hz _ (List.mem_of_getElem? hj) he
theorem Cn.RcI.push {c : Cn} (hok : c.Ok) {n fr en : Nat} {P : Co → Wy → Prop} {look : Co → Option Wy} {xs : List (Co × Wy)} {ks : List Int} (h : c.RcI n fr en P look xs ks) {x : Co} {w : Wy} {p : Po} (hw : c.Lv n w x) (hp : c.pE x p = 0) (hk : ks.getD (c.ky (c.stp x p)).toNat 0 = 0) :
  c.RcI n fr en (addP P (c.stp x p) (c.nx w x p)) (addL look (c.stp x p) (c.nx w x p)) (xs ++ [(c.stp x p, c.nx w x p)]) (ks.set (c.ky (c.stp x p)).toNat ((xs.length : Int) + 1)) := by
 obtain ⟨hx, hxs⟩ := hw.1.way.in hok
 obtain ⟨hz, hl, hkn⟩ := h.zero (w := w) hok.n3 hx hxs hp hk
 refine ⟨h.tb.push hok (hx.stp hok.n3 hp) ((Cn.stp_sm hok.n3 hp).trans hxs) hk _, h.stp.put hw hp hkn, h.frl, by rw [List.length_append]; have := h.enl; omega, fun j z hj hjz => ?_, fun y u hu hul => ?_, fun y u => ?_, fun i j a b hij hj ha hb => ?_⟩
 ·rw [List.getElem?_append_left (by have := h.enl; omega)] at hjz
  exact h.best j z hj hjz
 ·obtain ⟨j, h1, h2⟩ := h.all y u hu hul
  exact ⟨j, h1, by rw [List.getElem?_append_left (by have := h.enl; omega)]; exact h2⟩
 ·unfold addL
  by_cases hy : y = c.stp x p
  ·subst hy
   rw [if_pos rfl, hl]
   change some (c.nx w x p) = some u ↔ _
   constructor
   ·intro e; cases e; exact ⟨xs.length, h.enl, by simp⟩
   ·rintro ⟨j, h1, h2⟩
    by_cases hj : j < xs.length
    ·rw [List.getElem?_append_left hj] at h2
     exact absurd rfl (hz _ (List.mem_of_getElem? h2))
    ·rw [List.getElem?_append_right om0] at h2
     obtain ⟨_, h3⟩ := List.getElem?_eq_some_iff.1 h2
     simp only [List.getElem_singleton, Prod.mk.injEq, true_and] at h3
     rw [h3]
  ·rw [if_neg hy, h.new]
   constructor
   ·rintro ⟨j, h1, h2⟩
    exact ⟨j, h1, by rw [List.getElem?_append_left (List.getElem?_eq_some_iff.1 h2).1]; exact h2⟩
   ·rintro ⟨j, h1, h2⟩
    by_cases hj : j < xs.length
    ·rw [List.getElem?_append_left hj] at h2; exact ⟨j, h1, h2⟩
    ·rw [List.getElem?_append_right om0] at h2
     obtain ⟨_, h3⟩ := List.getElem?_eq_some_iff.1 h2
     simp only [List.getElem_singleton, Prod.mk.injEq] at h3
     exact absurd h3.1.symm hy
 ·have := h.enl
  rw [List.getElem?_append_left om0] at ha hb
  exact h.srt i j a b hij hj ha hb
theorem Cn.RcI.known {c : Cn} (hok : c.Ok) {n fr en : Nat} {P : Co → Wy → Prop} {look : Co → Option Wy} {xs : List (Co × Wy)} {ks : List Int} (h : c.RcI n fr en P look xs ks) {x : Co} {w : Wy} {p : Po} (hw : c.Lv n w x) (hp : c.pE x p = 0) (hk : ¬ ks.getD (c.ky (c.stp x p)).toNat 0 = 0) :
  ∃ (j : Nat) (u : Wy), xs[j]? = some (c.stp x p, u) ∧ ks.getD (c.ky (c.stp x p)).toNat 0 = (j : Int) + 1 ∧ (j < en → c.Kn n (c.stp x p)) ∧ (en ≤ j → look (c.stp x p) = some u ∧ u.l.length = n + 1 ∧ ¬ c.Kn n (c.stp x p)) := by
 obtain ⟨hx, hxs⟩ := hw.1.way.in hok
 rcases h.tb.tab _ (hx.stp hok.n3 hp) ((Cn.stp_sm hok.n3 hp).trans hxs) with h1 | ⟨j, z, h1, h2, h3⟩
 ·exact absurd h1.1 hk
 ·obtain ⟨y, u⟩ := z
  simp only at h2
  subst h2
  refine ⟨j, u, h1, h3, fun hj => h.kn.2 ⟨j, _, hj, h1, rfl⟩, fun hj => ?_⟩
  have hl := (h.new _ u).2 ⟨j, hj, h1⟩
  have hm := h.stp.min (c.stp x p)
  rw [hl] at hm
  obtain ⟨hn, x', w', p', hw', hp', he, rfl⟩ := h.stp.snd _ _ hm.1
  exact ⟨hl, by rw [c.nx_len, hw'.2], hn⟩
theorem Cn.RcI.upd {c : Cn} {n fr en : Nat} {P : Co → Wy → Prop} {look : Co → Option Wy} {xs : List (Co × Wy)} {ks : List Int} (h : c.RcI n fr en P look xs ks) {x : Co} {w : Wy} {p : Po} (hw : c.Lv n w x) (hp : c.pE x p = 0) {j : Nat} {u : Wy} (hj : xs[j]? = some (c.stp x p, u)) (hje : en ≤ j) (hl : look (c.stp x p) = some u) (hkn : ¬ c.Kn n (c.stp x p)) :
  c.RcI n fr en (addP P (c.stp x p) (c.nx w x p)) (addL look (c.stp x p) (c.nx w x p)) (xs.set j (c.stp x p, pickW (some u) (c.nx w x p))) ks := by
 have hjl := (List.getElem?_eq_some_iff.1 hj).1
 refine ⟨h.tb.upd hj _, h.stp.put hw hp hkn, h.frl, by rw [List.length_set]; exact h.enl, fun i z hi hiz => ?_, fun y v hv hvl => ?_, fun y v => ?_, fun i k a b hik hk ha hb => ?_⟩
 ·rw [List.getElem?_set_ne om0] at hiz
  exact h.best i z hi hiz
 ·obtain ⟨i, h1, h2⟩ := h.all y v hv hvl
  exact ⟨i, h1, by rw [List.getElem?_set_ne om0]; exact h2⟩
 ·unfold addL
  by_cases hy : y = c.stp x p
  ·subst hy
   rw [if_pos rfl, hl]
   constructor
   ·intro e; cases e; exact ⟨j, hje, List.getElem?_set_self hjl⟩
   ·rintro ⟨i, h1, h2⟩
    by_cases hij : j = i
    ·subst hij
     rw [List.getElem?_set_self hjl] at h2
     simp only [Option.some.injEq, Prod.mk.injEq, true_and] at h2
     rw [h2]
    ·rw [List.getElem?_set_ne hij] at h2
     exact absurd (h.tb.uniq hj h2 rfl) hij
  ·rw [if_neg hy, h.new]
   constructor
   ·rintro ⟨i, h1, h2⟩
    have hij : j ≠ i := fun e => by subst e; rw [hj] at h2; cases h2; exact hy rfl
    exact ⟨i, h1, by rw [List.getElem?_set_ne hij]; exact h2⟩
   ·rintro ⟨i, h1, h2⟩
    by_cases hij : j = i
    ·subst hij
     rw [List.getElem?_set_self hjl] at h2
     simp only [Option.some.injEq, Prod.mk.injEq] at h2
     exact absurd h2.1.symm hy
    ·rw [List.getElem?_set_ne hij] at h2
     exact ⟨i, h1, h2⟩
 ·rw [List.getElem?_set_ne om0] at ha hb
  exact h.srt i k a b hik hk ha hb
theorem Cn.RcI.done {c : Cn} (hok : c.Ok) {n fr en : Nat} {P : Co → Wy → Prop} {look : Co → Option Wy} {xs : List (Co × Wy)} {ks : List Int} (h : c.RcI n fr en P look xs ks) (hd : ∀ (j : Nat) (z : Co × Wy), fr ≤ j → j < en → xs[j]? = some z → c.Dn n P z.1 z.2 (c.ps z.1).length) : c.Rc0 (n + 1) en xs ks := by
 have hlv := h.stp.level hok.n3 fun x w hw => by
  obtain ⟨j, h1, h2⟩ := h.all x w hw.1 (Nat.le_of_eq hw.2)
  refine hd j (x, w) ?_ h1 h2
  obtain ⟨_, h3, _⟩ := h.best j _ h1 h2
  have := hw.2
  refine Nat.le_of_not_lt fun hj => ?_
  have := h3 hj
  simp only at this
  omega
 have hnew : ∀ j z, en ≤ j → xs[j]? = some z → c.Lv (n + 1) z.2 z.1 := fun j z h1 h2 => Cn.eqO_iff.1 ((hlv z.1).symm.trans ((h.new z.1 z.2).2 ⟨j, h1, h2⟩))
 have hle : ∀ (j : Nat) (z : Co × Wy), j < en → xs[j]? = some z → z.2.l.length ≤ n := fun j z h1 h2 => by
  obtain ⟨_, h3, h4⟩ := h.best j z h1 h2
  by_cases hj : j < fr
  ·exact Nat.le_of_lt (h3 hj)
  ·exact Nat.le_of_eq (h4 om0)
 refine ⟨h.tb, h.enl, fun j z hz => ?_, fun y w hw hl => ?_, ?_⟩
 ·by_cases hj : j < en
  ·have := hle j z hj hz
   exact ⟨(h.best j z hj hz).1, fun _ => by omega, fun h => by omega⟩
  ·have := hnew j z om0 hz
   exact ⟨this.1, fun h => by omega, fun _ => this.2⟩
 ·by_cases hn : w.l.length ≤ n
  ·obtain ⟨j, _, h2⟩ := h.all y w hw hn
   exact List.mem_of_getElem? h2
  ·have : look y = some w := (hlv y).trans (Cn.eqO_iff.2 ⟨hw, by omega⟩)
   obtain ⟨j, _, h2⟩ := (h.new y w).1 this
   exact List.mem_of_getElem? h2
 ·rw [List.pairwise_iff_getElem]
  intro i j hi hj hij
  have ei : xs[i]? = some xs[i] := List.getElem?_eq_getElem hi
  have ej : xs[j]? = some xs[j] := List.getElem?_eq_getElem hj
  by_cases hje : j < en
  ·exact h.srt i j _ _ (Nat.le_of_lt hij) hje ei ej
  ·have h1 := (hnew j _ om0 ej).2
   by_cases hie : i < en
   ·have := hle i _ hie ei; omega
   ·have := (hnew i _ om0 ei).2; omega
structure Cn.Rcd (c : Cn) (xs : List (Co × Wy)) : Prop where
 best : ∀ z ∈ xs, c.Best z.2 z.1
 all : ∀ y w, c.Best w y → (y, w) ∈ xs
 nd : (xs.map Prod.fst).Nodup
 srt : xs.Pairwise fun a b => a.2.l.length ≤ b.2.l.length
 len : xs.length ≤ 9261
theorem Cn.Rc0.end {c : Cn} (hok : c.Ok) {n fr : Nat} {xs : List (Co × Wy)} {ks : List Int} (h : c.Rc0 n fr xs ks) (hf : xs.length ≤ fr) : c.Rcd xs := by
 have hno : ∀ w y, ¬ c.Lv n w y := fun w y hw => by
  obtain ⟨j, hj⟩ := List.getElem?_of_mem (h.all y w hw.1 (Nat.le_of_eq hw.2))
  have h1 := (List.getElem?_eq_some_iff.1 hj).1
  have h2 := (h.best j _ hj).2.1 om0
  have := hw.2
  simp only at h2
  omega
 refine ⟨fun z hz => ?_, fun y w hw => h.all y w hw (Nat.le_of_lt (Cn.no_more hno hw)), h.tb.nd, h.srt, h.tb.bd hok⟩
 obtain ⟨j, hj⟩ := List.getElem?_of_mem hz
 exact (h.best j z hj).1
theorem Cn.Rc0.first {c : Cn} (hok : c.Ok) : c.Rc0 0 0 [(c.co, ⟨[], 0⟩)] ((List.replicate 9261 0).set (c.ky c.co).toNat 1) := by
 have hb : c.Best ⟨[], 0⟩ c.co := (Cn.lv_zero.2 ⟨rfl, rfl⟩).1
 have h0 : c.TabK [] (List.replicate 9261 0) := by
  refine ⟨List.length_replicate, fun y hy hs => .inl ⟨?_, fun z hz => (by cases hz)⟩, fun z hz => (by cases hz), List.nodup_nil⟩
  have := Cn.ky_bd hok hy
  rw [List.getD_eq_getElem?_getD, List.getElem?_replicate, if_pos om0]
  rfl
 have h1 := h0.push hok hok.co_in rfl (v := ⟨[], 0⟩) (by
  have := Cn.ky_bd hok hok.co_in
  rw [List.getD_eq_getElem?_getD, List.getElem?_replicate, if_pos om0]
  rfl)
 refine ⟨h1, Nat.zero_le _, fun j z hz => ?_, fun y w hw hl => ?_, by simp⟩
 ·obtain ⟨hj, e⟩ := List.getElem?_eq_some_iff.1 hz
  simp only [List.length_singleton] at hj
  obtain rfl : j = 0 := by omega
  simp only [List.getElem_singleton] at e
  subst e
  exact ⟨hb, fun h => by omega, fun _ => rfl⟩
 ·obtain ⟨rfl, rfl⟩ := Cn.lv_zero.1 ⟨hw, Nat.le_zero.1 hl⟩
  exact List.mem_singleton.2 rfl
theorem Cn.Dn.step {c : Cn} {n : Nat} {P P' : Co → Wy → Prop} (hP : ∀ y v, P y v → P' y v) {x : Co} {w : Wy} {k : Nat} (h : c.Dn n P x w k) (hk : ¬ c.Kn n (c.stp x ((c.ps x).getD k Po.z)) → P' (c.stp x ((c.ps x).getD k Po.z)) (c.nx w x ((c.ps x).getD k Po.z))) : c.Dn n P' x w (k + 1) := fun j hj hn => by
 by_cases he : j = k
 ·subst he; exact hk hn
 ·exact hP _ _ (h j om0 hn)
theorem good_len {c : Cn} (hok : c.Ok) {HX : List Blk} {l : List (EntK Co)} {ck : Nat} (hg : GoodM l ck) (hT : Tab HX l c.bestO) : l.length ≤ 9261 := by
 have hin : ∀ y ∈ l, c.In y.1 ∧ y.1.sm = c.co.sm := fun y hy => by
  obtain ⟨x, _, h2, _⟩ := hT.mem hg hy
  exact (Cn.bestO_iff.1 h2).way.in hok
 have hnd : (l.map fun y => (c.ky y.1).toNat).Nodup := by
  have h1 := hg.keys
  rw [List.nodup_iff_pairwise_ne, List.pairwise_map] at h1 ⊢
  refine h1.imp_of_mem fun {a b} ha hb hab he => hab ?_
  obtain ⟨a1, a2⟩ := hin a ha
  obtain ⟨b1, b2⟩ := hin b hb
  have k1 := Cn.ky_bd hok a1
  have k2 := Cn.ky_bd hok b1
  exact Cn.ky_inj hok a1 b1 (a2.trans b2.symm) om0
 have := nodup_bd (N := 9261) hnd fun n hn => by
  obtain ⟨y, hy, rfl⟩ := List.mem_map.1 hn
  have := Cn.ky_bd hok (hin y hy).1
  omega
 rwa [List.length_map] at this
theorem bs167_1_0 {x0_0a : Option Addr} {x0_0l x0_0c : Nat} {x0_1 : Int} : ∀ w, (Instr.buildSlice 167 1 #[(0, .agg #[.slice x0_0a x0_0l x0_0c, .int .i64 x0_1])]).run Tryz.prog w = .ok (.slice (some ⟨w.heap.size, 0, none⟩) 1 1) (w.alloc (CB [.slice x0_0a x0_0l x0_0c, .int .i64 x0_1] 118)) := fun w => by kernel_rfl
structure AimOk (P : Program) (w0 : World) (HA : List Blk) (fid : FuncId) (first caps : List Value) (Q : Co → Prop) (p : Co → Bool) : Prop where
 enter : ∀ args w, (callFunc fid args).run P w = .ok (.enter fid args) w
 call : ∀ x, Q x → ∀ (C : Ctx) (H : List Blk) (w : World), C.w0 = w0 → HA.Sublist H → St C H w → Ct P fid (first ++ (Value.agg x.cells.toArray :: caps)).toArray w fun v _ => v = .bool (p x)
def wRow (xs : List Wl) : List Value := rowOf Wl.cells (fun k => xs.getD k Wl.z) xs.length
theorem wRow_snoc (xs : List Wl) (y : Wl) : wRow (xs ++ [y]) = wRow xs ++ y.cells := by
 unfold wRow
 rw [List.length_append, List.length_singleton, rowOf_succ]
 congr 1
 ·exact rowOf_congr _ fun k hk => by simp [List.getD_eq_getElem?_getD, List.getElem?_append_left hk]
 ·simp [List.getD_eq_getElem?_getD]
theorem infWay : (Tryz.prog.info? 118).map (fun i => (i.zero, i.size, i.bytes)) = some (some (.agg #[.slice none 0 0, .int .i64 0]), 2, 32) := by kernel_rfl
def addX (p : Co → Bool) (xs : List Wl) (x : Co) (y : Wl) : List Wl := if p x then xs ++ [y] else xs
theorem add_cs (w0 : World) (ds0 out0 : List Deferred) (bso bl : Nat) (fid : FuncId) (first caps : List Value) (Q : Co → Prop) (p : Co → Bool) (HA : List Blk) (hA : AimOk Tryz.prog w0 HA fid first caps Q p) (x : Co) (hq : Q x) (y : Wl) (xs : List Wl) (a : Option Addr) (cap : Nat) (G Hr : List Blk)
  (hrow : NewRow 118 2 xs.length (wRow xs) (.slice a xs.length cap) Hr) (hlen : xs.length ≤ 1000000) (hHA : HA.Sublist G) :
  Cs ⟨Tryz.prog, w0, ds0, out0⟩ 105 #[.agg x.cells.toArray, y.v, .pointer (some ⟨bso, 0, none⟩), .pointer (some ⟨bl, 0, none⟩)] ((bl, CB [.slice a xs.length cap] 167) :: (bso, CB [.func (.func fid) first.toArray caps.toArray] 99) :: (G ++ Hr)) fun v Hn => v = .tuple #[] ∧ ∃ a' cap' Hr', NewRow 118 2 (addX p xs x y).length (wRow (addX p xs x y)) (.slice a' (addX p xs x y).length cap') Hr' ∧ Hn = (bl, CB [.slice a' (addX p xs x y).length cap'] 167) :: (bso, CB [.func (.func fid) first.toArray caps.toArray] 99) :: (G ++ Hr') := by
 have hF := wide_wide
 refine Cs_start (args := [_, _, _, _]) Tryz.func105 rf Tryz.ntmps105 rf ?_
 refine zR fun ds => ?_
 refine WS_new hF rf (y_box rf) (fun b1 => ?_)
 refine WS_new hF rf (y_box rf) (fun b2 => ?_)
 refine zP fun ds => ?_
 refine zD hF (y_load1 rf Tryz.isAgg99 (Mem.own1 3 rf rf)) ?_
 refine zD hF (y_loadN rf Tryz.isAgg106 Tryz.sizeOf106 (Mem.own (us := [.int .i64 _, .int .i64 _, .int .i64 _, .int .i64 _]) 1 rf rf) rf) ?_
 refine zD hF (y_callL (first := first) (captured := caps) rf rf hA.enter (fun w hw => hA.call x hq _ _ w rfl (hHA.trans sbA) hw)) ?_
 refine zN ?_
 refine W_cond rf (fun c1 => ?_) (fun c1 => ?_)
 ·
  try simp only [qz1, qz2, qz3, qz4, qz5, qz6, qz7, qz8] at c1
  refine W_region_lit (fun ds => ?_)
  refine zD hF (y_load1 rf Tryz.isAgg167 (Mem.own1 2 rf rf)) ?_
  refine zD hF (y_loadN rf Tryz.isAgg118 Tryz.sizeOf118 (Mem.own (us := [.slice _ _ _, .int .i64 _]) 0 rf rf) rf) ?_
  refine WS_newS hF rf (y_buildSliceL bs167_1_0 rf) (fun b3 => ?_)
  refine WS_appendN hF (H1 := (_ :: _ :: _ :: _ :: _ :: (G))) (Hn := Hr) rf rf rf Tryz.underlying167 infWay rf rf hrow (rowOf_len wl_len _ _) (.inr ⟨_, _, rfl, Mem.own (us := [.slice _ _ _, .int _ _]) 0 rf rf⟩) rf rf om0 om0 om0 ?_
  intro a3 cap3 H3 hr3
  refine WS_store hF (i := 3) rf rf Tryz.sizeOf167 rf rf rf d20 ?_
  refine WS_nil ?_
  refine Fin_norm [] ((bl, _) :: (bso, _) :: (G ++ H3)) Tryz.results105 trivial (HSub.sub sbA) ?_
  rw [show addX p xs x y = xs ++ [y] from if_pos c1, wRow_snoc, List.length_append]
  exact ⟨rfl, a3, cap3, H3, hr3, rfl⟩
 ·
  try simp only [qz1, qz2, qz3, qz4, qz5, qz6, qz7, qz8] at c1
  refine W_skip ?_
  refine Fin_norm [] ((bl, _) :: (bso, _) :: (G ++ Hr)) Tryz.results105 trivial (HSub.sub sbA) ?_
  rw [show addX p xs x y = xs from if_neg (by simp [c1])]
  exact ⟨rfl, a, cap, Hr, hrow, rfl⟩
structure FwI (c : Cn) (p : Co → Bool) (l : List (EntK Co)) (HX : List Blk) (seen : Array Nat) (xs : List Wl) : Prop where
 snd : ∀ y ∈ xs, ∃ k, p k = true ∧ c.Best y.w k ∧ y.RdH HX
 cmp : ∀ e ∈ l, e.2.2 ∈ seen → p e.1 = true → ∃ y ∈ xs, c.Best y.w e.1
 len : xs.length + leftL l seen ≤ l.length
theorem FwI.nil (c : Cn) (p : Co → Bool) (l : List (EntK Co)) (HX : List Blk) : FwI c p l HX #[] [] := ⟨fun y h => (by cases h), fun e _ h => (by simp at h), (by rw [List.length_nil, Nat.zero_add]; exact List.length_filter_le _ _)⟩
theorem FwI.step {c : Cn} {p : Co → Bool} {l : List (EntK Co)} {HX : List Blk} {seen : Array Nat} {xs : List Wl} (h : FwI c p l HX seen xs) {k : Co} {y : Wl} {bn : Nat} (hy : (k, y.v, bn) ∈ l) (hb : (l.map (·.2.2)).Nodup) (hns : bn ∉ seen) (hbst : c.Best y.w k) (hr : y.RdH HX) :
  FwI c p l HX (seen.push bn) (addX p xs k y) := by
 have hlt := leftL_lt (l := l) (seen := seen) (y := (k, y.v, bn)) hy hns
 unfold addX
 refine ⟨fun z hz => ?_, fun e he hs hp => ?_, ?_⟩
 ·split at hz
  ·rename_i hp
   rcases List.mem_append.1 hz with hz | hz
   ·exact h.snd z hz
   ·simp only [List.mem_singleton] at hz; subst hz; exact ⟨k, hp, hbst, hr⟩
  ·exact h.snd z hz
 ·rcases Array.mem_push.1 hs with hs | hs
  ·obtain ⟨z, hz, hzv⟩ := h.cmp e he hs hp
   refine ⟨z, ?_, hzv⟩
   split
   ·exact List.mem_append_left _ hz
   ·exact hz
  ·have : ∀ {l : List (EntK Co)}, (l.map (·.2.2)).Nodup → e ∈ l → (k, y.v, bn) ∈ l → e = (k, y.v, bn) := by
    intro l
    induction l with
    | nil => intro _ h; cases h
    | cons z l ih =>
     intro hn a1 a2
     rw [List.map_cons, List.nodup_cons] at hn
     rcases List.mem_cons.1 a1 with e1 | e1
     ·rcases List.mem_cons.1 a2 with e2 | e2
      ·rw [e1, e2]
      ·exact absurd (List.mem_map.2 ⟨_, e2, by rw [← e1]; exact hs.symm⟩) hn.1
     ·rcases List.mem_cons.1 a2 with e2 | e2
      ·exact absurd (List.mem_map.2 ⟨_, e1, by rw [← e2]; exact hs⟩) hn.1
      ·exact ih hn.2 e1 e2
   have he := this hb he hy
   subst he
   rw [if_pos hp]
   exact ⟨y, List.mem_append_right _ (List.mem_singleton.2 rfl), hbst⟩
 ·have := h.len
  split
  ·rw [List.length_append, List.length_singleton]
   change xs.length + 1 + leftL l (seen.push bn) ≤ l.length
   change leftL l (seen.push bn) < leftL l seen at hlt
   omega
  ·change leftL l (seen.push bn) < leftL l seen at hlt
   omega
theorem FwI.few {c : Cn} {p : Co → Bool} {l : List (EntK Co)} {ck : Nat} {HX : List Blk} {seen : Array Nat} {xs : List Wl} (h : FwI c p l HX seen xs) (hT : Tab HX l c.bestO) (hov : ∀ x ∈ l, x.2.2 ∈ seen) {k : Co} {v : Wy} (hp : p k = true) (hb : c.Best v k) : ∃ y ∈ xs, y.w = v := by
 obtain ⟨e, he, rfl⟩ := hT.has (Cn.bestO_iff.2 hb)
 obtain ⟨y, hy, hyb⟩ := h.cmp e he (hov e he) hp
 exact ⟨y, hy, hyb.uniq hb⟩
structure FewV (c : Cn) (p : Co → Bool) (HX : List Blk) (x : Wl) (b : Bool) : Prop where
 rd : x.RdH HX
 yes : b = true → (∃ k, p k = true ∧ c.Best x.w k) ∧ ∀ k v, p k = true → c.Best v k → v.lt x.w = false
 no : b = false → x = Wl.z ∧ ∀ k v, p k = true → ¬ c.Best v k
theorem fewest_cs (w0 : World) (ds0 out0 : List Deferred) (mk ck : Nat) (l : List (EntK Co)) (c : Cn) (HX : List Blk) (fid : FuncId) (first caps : List Value) (p : Co → Bool) (hg : GoodM l ck) (hT : Tab HX l c.bestO) (HA : List Blk) (hA : AimOk Tryz.prog w0 HA fid first caps c.In p) (hHA : HA.Sublist HX) (hok : c.Ok) :
  Cs ⟨Tryz.prog, w0, ds0, out0⟩ 66 #[.map (some mk), .func (.func fid) first.toArray caps.toArray] ((mk, MK encC l ck) :: HX) fun v Hn => ∃ (x : Wl) (b : Bool), v = .tuple #[x.v, .bool b] ∧ FewV c p HX x b ∧ Hn = (mk, MK encC l ck) :: HX := by
 have hln := good_len hok hg hT
 have hF := wide_wide
 refine Cs_start (args := [_, _]) Tryz.func66 rf Tryz.ntmps66 rf ?_
 refine zR fun ds => ?_
 refine WS_new hF rf (y_box rf) (fun bso => ?_)
 refine WS_new hF rf (y_alloc Tryz.zeroValue118 rf) (fun b4 => ?_)
 refine za (.bool _) hF ?_
 refine zP fun ds => ?_
 refine WS_new hF rf (y_alloc Tryz.zeroValue167 rf) (fun bl => ?_)
 refine zP fun ds => ?_
 refine zD hF (y_makeFuncL rf rf) ?_
 refine za (_) hF ?_
 refine zO ?_
 refine zR fun ds => ?_
 refine zm (.map _) hF ?_
 refine WS_pull (bso, _) zu ?_
 refine WS_pull (bl, _) zu ?_
 refine WS_new hF rf (y_rangeK (enc := encC) (i := 3) rf Tryz.underlying94 rf) (fun it => ?_)
 refine zN ?_
 refine W_block ?_
 refine W_loop (γ := Array Nat × Nat × List Wl × Option Addr × Nat × List Blk) (fun q => FwI c p l HX q.1 q.2.2.1 ∧ ck ≤ q.2.1 ∧ NewRow 118 2 q.2.2.1.length (wRow q.2.2.1) (.slice q.2.2.2.1 q.2.2.1.length q.2.2.2.2.1) q.2.2.2.2.2) (fun q => [(4, .pointer (some ⟨b4, 0, none⟩)), (6, .pointer (some ⟨bl, 0, none⟩)), (7, .func (.func 105) #[] #[.pointer (some ⟨bso, 0, none⟩), .pointer (some ⟨bl, 0, none⟩)]), (12, .pointer (some ⟨it, 0, none⟩))]) (fun q => (it, .mapIter (some mk) ck q.1 q.2.1) :: (bl, CB [.slice q.2.2.2.1 q.2.2.1.length q.2.2.2.2.1] 167) :: (bso, CB [.func (.func fid) first.toArray caps.toArray] 99) :: (b4, CB [.slice none 0 0, .int .i64 0] 118) :: (mk, MK encC l ck) :: (HX ++ q.2.2.2.2.2)) (fun q => leftL l q.1) ((#[], ck, [], none, 0, [])) ⟨FwI.nil c p l HX, Nat.le_refl _, ⟨none, 0, rfl, Nat.le_refl _, .inr ⟨rfl, rfl, rfl⟩⟩⟩ s10 ((by simp only [List.append_nil]; exact sbA)) ?_
 rintro ⟨seen, c0, xs, a, cap, Hr⟩ e ⟨hI, hc0, hrow⟩
 refine zR fun ds => ?_
 refine WS_nextK hF (enc := encC) (i := 0) (j := 4) rf rf rf rf hg.old hc0 (fun hov => ?_) (fun y hy hns => ?_)
 ·
  have hlx : xs.length + leftL l seen ≤ l.length := hI.len
  refine zD hF (y_extract (c := .bool _) rf rf) ?_
  refine zO ?_
  refine W_cond rf (fun c4 => ?_) (fun c4 => ?_)
  ·cases c4
  ·
   try simp only [qz1, qz2, qz3, qz4, qz5, qz6, qz7, qz8] at c4
   refine W_exit ?_
   refine Then_exit ?_
   refine Loop_exit ?_
   refine InB_same ?_
   refine Then_normal ?_
   refine W_seq ?_
   refine zR fun ds => ?_
   refine zD hF (y_load1 rf Tryz.isAgg167 (Mem.own1 1 rf rf)) ?_
   refine zD hF (y_len rf Tryz.runUnderlying167) ?_
   refine zD hF (y_eql rf rf) ?_
   refine zN ?_
   refine W_cond rf (fun c7 => ?_) (fun c7 => ?_)
   ·
    try simp only [qz1, qz2, qz3, qz4, qz5, qz6, qz7, qz8] at c7
    refine zR fun ds => ?_
    refine zD hF (y_buildL bd118 rf) ?_
    refine WS_store hF (i := 3) rf rf Tryz.sizeOf118 rf rf rf d20 ?_
    refine za (.bool _) hF ?_
    refine zN ?_
    refine W_ret ?_
    refine Then_ret ?_
    refine Fin_ret [_, .bool _] ((mk, _) :: HX) Tryz.results66 ⟨lvN rf Tryz.isAgg118 Tryz.sizeOf118 (Mem.own (us := [.slice _ _ _, .int .i64 _]) 3 rf rf) rf, by rfl, trivial⟩ (HSub.sub sbA) ?_
    have h0 : xs = [] := List.eq_nil_of_length_eq_zero om0
    subst h0
    refine ⟨Wl.z, false, rfl, ⟨Wl.RdH.z HX, fun h => (by cases h), fun _ => ⟨rfl, fun k v hk hv => ?_⟩⟩, rfl⟩
    obtain ⟨y, hy, _⟩ := hI.few (ck := ck) hT hov hk hv
    cases hy
   ·
    try simp only [qz1, qz2, qz3, qz4, qz5, qz6, qz7, qz8] at c7
    refine W_skip ?_
    refine zS fun ds => ?_
    refine zD hF (y_load1 rf Tryz.isAgg167 (Mem.own1 1 rf rf)) ?_
    refine WS_gen hF rf (y_callL rf rf Tryz.call95 (fun w hw => firstW_any a xs.length cap xs w om0 om0 (NewRow.rws wl_len hrow rfl sbA w hw) (fun y hy => by obtain ⟨_, _, _, hr⟩ := hI.snd y hy; exact hr _ _ w sbA hw))) ?_
    rintro _ HL ⟨fx, hfm, rfl, hfmin⟩
    refine WS_back ?_
    refine WS_store hF (i := 3) rf rf Tryz.sizeOf118 rf rf rf d20 ?_
    refine za (.bool _) hF ?_
    refine zN ?_
    refine W_ret ?_
    refine Fin_ret [_, .bool _] ((mk, _) :: HX) Tryz.results66 ⟨lvN rf Tryz.isAgg118 Tryz.sizeOf118 (Mem.own (us := [.slice _ _ _, .int .i64 _]) 3 rf rf) rf, by rfl, trivial⟩ (HSub.sub sbA) ?_
    obtain ⟨fk, hfp, hfb, hfr⟩ := hI.snd fx hfm
    refine ⟨fx, true, rfl, ⟨hfr, fun _ => ⟨⟨fk, hfp, hfb⟩, fun k v hk hv => ?_⟩, fun h => (by cases h)⟩, rfl⟩
    obtain ⟨y, hy, rfl⟩ := hI.few (ck := ck) hT hov hk hv
    exact hfmin y hy
 ·
  obtain ⟨xk, v, bn⟩ := y
  obtain ⟨y, hvy, hyl, hyr⟩ := hT.mem hg hy
  change v = y.v at hvy
  subst hvy
  have hyb : c.Best y.w xk := Cn.bestO_iff.1 hyl
  have hq := (hyb.way.in hok).1
  have hlx : xs.length + leftL l seen ≤ l.length := hI.len
  refine zD hF (y_extract (c := .bool _) rf rf) ?_
  refine zO ?_
  refine W_cond rf (fun c4 => ?_) (fun c4 => ?_)
  ·
   try simp only [qz1, qz2, qz3, qz4, qz5, qz6, qz7, qz8] at c4
   refine zU ?_
   refine W_block ?_
   refine zR fun ds => ?_
   refine zD hF (y_entryK (enc := encC) (y := (xk, y.v, bn)) (i := 0) (j := 4) rf rf rf hy hg.born) ?_
   refine zD hF (y_extract (c := .agg _) rf rf) ?_
   refine zD hF (y_extract (c := .agg _) rf rf) ?_
   refine WS_new hF rf (y_alloc Tryz.zeroValue106 rf) (fun b8 => ?_)
   refine WS_new hF rf (y_alloc Tryz.zeroValue118 rf) (fun b9 => ?_)
   refine WS_store hF (i := 1) rf rf Tryz.sizeOf106 rf rf rf d20 ?_
   refine WS_store hF (i := 0) rf rf Tryz.sizeOf118 rf rf rf d20 ?_
   refine zQ fun ds => ?_
   refine zm (_) hF ?_
   refine zD hF (y_loadN rf Tryz.isAgg106 Tryz.sizeOf106 (Mem.own (us := [.int .i64 _, .int .i64 _, .int .i64 _, .int .i64 _]) 1 rf rf) rf) ?_
   refine zD hF (y_loadN rf Tryz.isAgg118 Tryz.sizeOf118 (Mem.own (us := [.slice _ _ _, .int .i64 _]) 0 rf rf) rf) ?_
   refine WS_pull (bso, _) zu ?_
   refine WS_pull (bl, _) zu ?_
   refine WS_callS hF rf rf rf Tryz.call105 (add_cs _ _ _ bso bl fid first caps c.In p HA hA xk hq y xs a cap (_ :: _ :: _ :: _ :: _ :: HX) Hr hrow om0 (hHA.trans sbA)) ?_
   rintro _ _ ⟨rfl, a2, cap2, Hr2, hrow2, rfl⟩
   refine WS_pull (it, _) zu ?_
   refine WS_nil ?_
   refine InB_normal ?_
   exact Loop_next (seen.push bn, ck, addX p xs xk y, a2, cap2, Hr2) ⟨hI.step hy hg.born hns hyb hyr, Nat.le_refl _, hrow2⟩ s10 sbA (leftL_lt hy hns)
  ·cases c4
def Cn.someP (c : Cn) (n : Int) (x : Co) : Bool := decide (n ∈ (c.of x).inn)
def totP (n : Int) (x : Co) : Bool := decide (x.b + x.c + x.d = n)
def Cn.bothP (c : Cn) (want : List Int) (x : Co) : Bool := (List.range want.length).all fun k => decide (want.getD k 0 < 0 ∨ (c.of x).i k = want.getD k 0)
def Cn.IsFew (c : Cn) (p : Co → Bool) (w : Wy) : Prop := (∃ k, p k = true ∧ c.Best w k) ∧ ∀ k v, p k = true → c.Best v k → v.lt w = false
open Classical in
noncomputable def Cn.few (c : Cn) (p : Co → Bool) : Option Wy := if h : ∃ w, c.IsFew p w then some h.choose else none
theorem Cn.IsFew.uniq {c : Cn} {p : Co → Bool} {w v : Wy} (h : c.IsFew p w) (h' : c.IsFew p v) : w = v := by
 obtain ⟨⟨k, h1, h2⟩, h3⟩ := h
 obtain ⟨⟨k', h1', h2'⟩, h3'⟩ := h'
 exact Wy.tot (h3' k w h1 h2) (h3 k' v h1' h2')
theorem Cn.few_some {c : Cn} {p : Co → Bool} {w : Wy} (h : c.IsFew p w) : c.few p = some w := by
 unfold Cn.few
 have hx : ∃ w, c.IsFew p w := ⟨w, h⟩
 rw [dif_pos hx, hx.choose_spec.uniq h]
theorem Cn.few_none {c : Cn} {p : Co → Bool} (h : ∀ k v, p k = true → ¬ c.Best v k) : c.few p = none := by
 unfold Cn.few
 rw [dif_neg]
 rintro ⟨w, ⟨k, h1, h2⟩, _⟩
 exact h k w h1 h2
theorem Cn.few_of {c : Cn} {p : Co → Bool} {w : Wy} (h : c.few p = some w) : c.IsFew p w := by
 unfold Cn.few at h
 split at h
 ·rename_i hx; cases h; exact hx.choose_spec
 ·cases h
def fewL (o : Option Wy) : List Po := match o with | some w => w.l | none => []
def fewB (o : Option Wy) : Int := match o with | some w => w.back | none => 0
def fewE (o : Option Wy) : Int := match o with | some _ => 0 | none => 6
theorem FewV.yes' {c : Cn} {p : Co → Bool} {HX : List Blk} {x : Wl} {b : Bool} (h : FewV c p HX x b) (hb : b = true) : c.few p = some x.w := Cn.few_some (h.yes hb)
theorem FewV.no' {c : Cn} {p : Co → Bool} {HX : List Blk} {x : Wl} {b : Bool} (h : FewV c p HX x b) (hb : b = false) : x = Wl.z ∧ c.few p = none := ⟨(h.no hb).1, Cn.few_none (h.no hb).2⟩
def TwinP (l : List Po) (v : Value) (Hn : List Blk) : Prop := ∃ a k, v = .slice a l.length k ∧ ∀ (C : Ctx) (H : List Blk) (w : World), Hn.Sublist H → St C H w → Pos w a l.length k l
theorem TwinP.nil (Hn : List Blk) : TwinP [] (.slice none 0 0) Hn := ⟨none, 0, rfl, fun C H w _ _ => Rws.nil _ _ _⟩
def AimV (o : Option Wy) (v : Value) (Hn : List Blk) : Prop := ∃ v0, v = .tuple #[v0, .int .i64 (fewB o), .int .i64 (fewE o)] ∧ TwinP (fewL o) v0 Hn
def FewK (p : Co → Bool) (xs : List (Co × Wy)) (k : Nat) (b : Bool) (i : Nat) : Prop :=
 if b then i < k ∧ (∃ z : Co × Wy, xs[i]? = some z ∧ p z.1 = true ∧ ∀ (j : Nat) (y : Co × Wy), j < k → xs[j]? = some y → p y.1 = true → y.2.lt z.2 = false)
 else ∀ (j : Nat) (y : Co × Wy), j < k → xs[j]? = some y → p y.1 = false
theorem FewK.zero (p : Co → Bool) (xs : List (Co × Wy)) : FewK p xs 0 false 0 := fun j y h => absurd h (Nat.not_lt_zero _)
theorem FewK.skip {p : Co → Bool} {xs : List (Co × Wy)} {k i : Nat} {b : Bool} {z : Co × Wy} (h : FewK p xs k b i) (hz : xs[k]? = some z) (hp : p z.1 = false) : FewK p xs (k + 1) b i := by
 unfold FewK at h ⊢
 cases b
 ·intro j y hj hy
  by_cases he : j = k
  ·subst he; rw [hz] at hy; cases hy; exact hp
  ·exact h j y om0 hy
 ·obtain ⟨h1, z', h2, h3, h4⟩ := h
  refine ⟨by omega, z', h2, h3, fun j y hj hy hpy => ?_⟩
  by_cases he : j = k
  ·subst he; rw [hz] at hy; cases hy; rw [hp] at hpy; cases hpy
  ·exact h4 j y om0 hy hpy
theorem FewK.fst {p : Co → Bool} {xs : List (Co × Wy)} {k i : Nat} {z : Co × Wy} (h : FewK p xs k false i) (hz : xs[k]? = some z) (hp : p z.1 = true) : FewK p xs (k + 1) true k := by
 refine ⟨Nat.lt_succ_self _, z, hz, hp, fun j y hj hy hpy => ?_⟩
 by_cases he : j = k
 ·subst he; rw [hz] at hy; cases hy; exact Wy.lt_irrefl _
 ·have := h j y om0 hy
  rw [hpy] at this; cases this
theorem FewK.take {p : Co → Bool} {xs : List (Co × Wy)} {k i : Nat} {z u : Co × Wy} (h : FewK p xs k true i) (hi : xs[i]? = some u) (hz : xs[k]? = some z) (hp : p z.1 = true) (hl : z.2.lt u.2 = true) : FewK p xs (k + 1) true k := by
 obtain ⟨h1, z', h2, h3, h4⟩ := h
 rw [hi] at h2
 cases h2
 refine ⟨Nat.lt_succ_self _, z, hz, hp, fun j y hj hy hpy => ?_⟩
 by_cases he : j = k
 ·subst he; rw [hz] at hy; cases hy; exact Wy.lt_irrefl _
 ·cases hlt : y.2.lt z.2 with
  | false => rfl
  | true => have := h4 j y om0 hy hpy; rw [Wy.lt_trans hlt hl] at this; exact this
theorem FewK.keep {p : Co → Bool} {xs : List (Co × Wy)} {k i : Nat} {z u : Co × Wy} (h : FewK p xs k true i) (hi : xs[i]? = some u) (hz : xs[k]? = some z) (hl : z.2.lt u.2 = false) : FewK p xs (k + 1) true i := by
 obtain ⟨h1, z', h2, h3, h4⟩ := h
 rw [hi] at h2
 cases h2
 refine ⟨by omega, u, hi, h3, fun j y hj hy hpy => ?_⟩
 by_cases he : j = k
 ·subst he; rw [hz] at hy; cases hy; exact hl
 ·exact h4 j y om0 hy hpy
def wbetB (a b : Wy) : Bool := decide (a.back < b.back) || (decide (a.back = b.back) && plt a.l b.l)
theorem Cn.Rcd.mono {c : Cn} {xs : List (Co × Wy)} (hR : c.Rcd xs) {i k : Nat} {a b : Co × Wy} (hik : i < k) (hi : xs[i]? = some a) (hk : xs[k]? = some b) : a.2.l.length ≤ b.2.l.length := by
 obtain ⟨h1, e1⟩ := List.getElem?_eq_some_iff.1 hi
 obtain ⟨h2, e2⟩ := List.getElem?_eq_some_iff.1 hk
 have := List.pairwise_iff_getElem.1 hR.srt i k h1 h2 hik
 rw [e1, e2] at this
 exact this
def sumL : List Int → Int
 | [] => 0
 | x :: l => x + sumL l
def sumTo (xs : List Int) (k : Nat) : Int := sumL (xs.take k)
theorem sumL_app (l m : List Int) : sumL (l ++ m) = sumL l + sumL m := by
 induction l with
 | nil => simp [sumL]
 | cons x l ih => simp only [List.cons_append, sumL, ih]; omega
theorem sumTo_succ {xs : List Int} {k : Nat} (h : k < xs.length) : sumTo xs (k + 1) = sumTo xs k + xs.getD k 0 := by
 unfold sumTo
 rw [List.take_add_one, sumL_app]
 simp [h, sumL, List.getD_eq_getElem?_getD]
def kyT (xs : List Int) (k : Nat) : Int := kyL 0 (xs.take k)
def pcmp : List Po → List Po → Nat → Prop := fun l m k => plt (l.drop k) (m.drop k) = plt l m
structure Rl where
 x : Co
 w : Wy
 s : Option Addr
 ks : Nat
 i : Option Addr
 ki : Nat
 l : Option Addr
 kl : Nat
def Rl.z : Rl := ⟨Co.z, ⟨[], 0⟩, none, 0, none, 0, none, 0⟩
def Rl.cells (c : Cn) (r : Rl) : List Value := [.slice r.s c.n r.ks, .slice r.i (c.of r.x).inn.length r.ki, .int .i64 r.x.a, .slice r.l r.w.l.length r.kl, .int .i64 r.w.back]
theorem rl_len (c : Cn) : ∀ r, (Rl.cells c r).length = 5 := fun _ => rfl
def Rl.zz (r : Rl) : Co × Wy := (r.x, r.w)
structure Rl.RdH (c : Cn) (HH : List Blk) (r : Rl) : Prop where
 s : ∀ (C : Ctx) (H : List Blk) (w : World), HH.Sublist H → St C H w → Ints w r.s c.n r.ks c.sz
 i : ∀ (C : Ctx) (H : List Blk) (w : World), HH.Sublist H → St C H w → Ints w r.i (c.of r.x).inn.length r.ki (c.of r.x).inn
 p : ∀ (C : Ctx) (H : List Blk) (w : World), HH.Sublist H → St C H w → Pos w r.l r.w.l.length r.kl r.w.l
theorem Rl.RdH.mono {c : Cn} {HH HH' : List Blk} {r : Rl} (h : r.RdH c HH) (hs : HH.Sublist HH') : r.RdH c HH' :=
 ⟨fun C H w h2 hw => h.s C H w (hs.trans h2) hw, fun C H w h2 hw => h.i C H w (hs.trans h2) hw, fun C H w h2 hw => h.p C H w (hs.trans h2) hw⟩
theorem Rl.RdH.new {c : Cn} {HH H1 H2 H3 : List Blk} {r : Rl} (h1 : NewRow 3 1 c.n (iv c.sz) (.slice r.s c.n r.ks) H1) (h2 : NewRow 3 1 (c.of r.x).inn.length (iv (c.of r.x).inn) (.slice r.i (c.of r.x).inn.length r.ki) H2)
  (h3 : NewRow 47 2 r.w.l.length (rowOf Po.cells (fun k => r.w.l.getD k Po.z) r.w.l.length) (.slice r.l r.w.l.length r.kl) H3) (s1 : H1.Sublist HH) (s2 : H2.Sublist HH) (s3 : H3.Sublist HH) : r.RdH c HH :=
 ⟨fun C H w h hw => NewRow.ints h1 rfl (s1.trans h) w hw, fun C H w h hw => NewRow.ints h2 rfl (s2.trans h) w hw, fun C H w h hw => NewRow.rws po_len h3 rfl (s3.trans h) w hw⟩
def rRow (c : Cn) (rs : List Rl) : List Value := rowOf (Rl.cells c) (fun k => rs.getD k Rl.z) rs.length
theorem rRow_len (c : Cn) (rs : List Rl) : (rRow c rs).length = rs.length * 5 := rowOf_len (rl_len c) _ _
structure RcG where
 k : Nat
 P : Co → Wy → Prop
 look : Co → Option Wy
 rs : List Rl
 ks : List Int
 bo : Nat
 cap : Nat
 junk : List Value
 HX : List Blk
structure RcS (c : Cn) (n fr en i : Nat) (q : RcG) : Prop where
 rc : c.RcI n fr en q.P q.look (q.rs.map Rl.zz) q.ks
 rd : ∀ r ∈ q.rs, r.RdH c q.HX
 len : (rRow c q.rs ++ q.junk).length = q.cap * 5
 cap : q.rs.length ≤ q.cap
 dn : ∀ (j : Nat) (z : Co × Wy), fr ≤ j → j < i → (q.rs.map Rl.zz)[j]? = some z → c.Dn n q.P z.1 z.2 (c.ps z.1).length
structure RcR (c : Cn) (n fr en i : Nat) (r : Rl) (J : Nat) (q : RcG) : Prop where
 s : RcS c n fr en i q
 e : q.rs[i]? = some r
 fi : fr ≤ i
 ie : i < en
 d : c.Dn n q.P r.x r.w (c.psJ r.x J).length
theorem zz_at {rs : List Rl} {i : Nat} {r : Rl} (h : rs[i]? = some r) : (rs.map Rl.zz)[i]? = some (r.x, r.w) := by rw [List.getElem?_map, h]; rfl
theorem zz_of {rs : List Rl} {i : Nat} {z : Co × Wy} (h : (rs.map Rl.zz)[i]? = some z) : ∃ r, rs[i]? = some r ∧ r.x = z.1 ∧ r.w = z.2 := by
 rw [List.getElem?_map] at h
 obtain ⟨r, h1, rfl⟩ := Option.map_eq_some_iff.1 h
 exact ⟨r, h1, rfl, rfl⟩
theorem RcS.bd {c : Cn} (hok : c.Ok) {n fr en i : Nat} {q : RcG} (h : RcS c n fr en i q) : q.rs.length ≤ 9261 := by
 have := h.rc.tb.bd hok
 rwa [List.length_map] at this
theorem RcS.ent {c : Cn} {n fr en i : Nat} {q : RcG} (h : RcS c n fr en i q) (hi : i < en) (hf : fr ≤ i) : ∃ r, q.rs[i]? = some r ∧ RcR c n fr en i r 0 q := by
 have he := h.rc.enl
 rw [List.length_map] at he
 exact ⟨_, List.getElem?_eq_getElem om0, h, List.getElem?_eq_getElem om0, hf, hi, fun j hj => absurd hj (by simp [Cn.psJ])⟩
theorem RcR.lv {c : Cn} {n fr en i J : Nat} {r : Rl} {q : RcG} (h : RcR c n fr en i r J q) : c.Lv n r.w r.x := by
 obtain ⟨h1, _, h3⟩ := h.s.rc.best i _ h.ie (zz_at h.e)
 exact ⟨h1, h3 h.fi⟩
theorem RcR.fin {c : Cn} {n fr en i : Nat} {r : Rl} {q : RcG} (h : RcR c n fr en i r ((c.n + 1) * (c.n + 1)) q) (k : Nat) : RcS c n fr en (i + 1) { q with k := k } := by
 refine ⟨h.s.rc, h.s.rd, h.s.len, h.s.cap, fun j z h1 h2 h3 => ?_⟩
 by_cases hj : j = i
 ·subst hj
  have := zz_at h.e
  change (List.map Rl.zz q.rs)[j]? = some z at h3
  rw [this] at h3
  cases h3
  exact h.d
 ·exact h.s.dn j z h1 om0 h3
theorem RcR.skip {c : Cn} {n fr en i J : Nat} {r : Rl} {q : RcG} (h : RcR c n fr en i r J q) (k : Nat) (hp : ¬ c.pE r.x (pA c.n J) = 0) : RcR c n fr en i r (J + 1) { q with k := k } :=
 ⟨⟨h.s.rc, h.s.rd, h.s.len, h.s.cap, h.s.dn⟩, h.e, h.fi, h.ie, by rw [Cn.psJ_no hp]; exact h.d⟩
theorem RcR.nxt {c : Cn} {n fr en i J : Nat} {r : Rl} {q : RcG} (h : RcR c n fr en i r J q) (hJ : J < (c.n + 1) * (c.n + 1)) (hp : c.pE r.x (pA c.n J) = 0) (q' : RcG) (hP : q'.P = addP q.P (c.stp r.x (pA c.n J)) (c.nx r.w r.x (pA c.n J)))
  (hrc : c.RcI n fr en q'.P q'.look (q'.rs.map Rl.zz) q'.ks) (hrd : ∀ r ∈ q'.rs, r.RdH c q'.HX) (hlen : (rRow c q'.rs ++ q'.junk).length = q'.cap * 5) (hcap : q'.rs.length ≤ q'.cap) (hsame : ∀ j, j < en → q'.rs[j]? = q.rs[j]?) : RcR c n fr en i r (J + 1) q' := by
 obtain ⟨_, h2⟩ := Cn.ps_at hJ hp
 have hm : ∀ y v, q.P y v → q'.P y v := fun y v h => by rw [hP]; exact .inl h
 refine ⟨⟨hrc, hrd, hlen, hcap, fun j z h1 h2 h3 => ?_⟩, by rw [hsame i h.ie]; exact h.e, h.fi, h.ie, ?_⟩
 ·rw [List.getElem?_map, hsame j (by have := h.ie; omega), ← List.getElem?_map] at h3
  have := h.s.dn j z h1 h2 h3
  exact fun t ht hn => hm _ _ (this t ht hn)
 ·rw [Cn.psJ_yes hp, List.length_append, List.length_singleton]
  exact h.d.step hm fun hn => by rw [hP, h2]; exact .inr ⟨rfl, rfl⟩
theorem RcR.push {c : Cn} (hok : c.Ok) {n fr en i J : Nat} {r y : Rl} {q : RcG} (h : RcR c n fr en i r J q) {p : Po} (hpA : pA c.n J = p) (hJ : J < (c.n + 1) * (c.n + 1)) (hp : c.pE r.x (p) = 0) (hk : q.ks.getD (c.ky (c.stp r.x (p))).toNat 0 = 0)
  (hyx : y.x = c.stp r.x (p)) (hyw : y.w = c.nx r.w r.x (p)) {HX : List Blk} (hs : q.HX.Sublist HX) (hy : y.RdH c HX) (k bo : Nat) {cap : Nat} {junk : List Value} (hlen : (rRow c (q.rs ++ [y]) ++ junk).length = cap * 5) (hcap : q.rs.length + 1 ≤ cap) :
  RcR c n fr en i r (J + 1) ⟨k, addP q.P (c.stp r.x (p)) (c.nx r.w r.x (p)), addL q.look (c.stp r.x (p)) (c.nx r.w r.x (p)), q.rs ++ [y], q.ks.set (c.ky (c.stp r.x (p))).toNat ((q.rs.length : Int) + 1), bo, cap, junk, HX⟩ := by
 subst hpA
 refine h.nxt hJ hp _ rfl ?_ (fun z hz => ?_) hlen (by simpa using hcap) fun j hj => ?_
 ·have := h.s.rc.push hok h.lv hp hk
  rw [List.length_map] at this
  simp only [List.map_append, List.map_cons, List.map_nil]
  rw [show y.zz = (c.stp r.x (pA c.n J), c.nx r.w r.x (pA c.n J)) by unfold Rl.zz; rw [hyx, hyw]]
  exact this
 ·rcases List.mem_append.1 hz with hz | hz
  ·exact (h.s.rd z hz).mono hs
  ·simp only [List.mem_singleton] at hz; subst hz; exact hy
 ·have he := h.s.rc.enl
  rw [List.length_map] at he
  exact List.getElem?_append_left om0
theorem set_same {α : Type} {l : List α} {j : Nat} {a : α} (h : l[j]? = some a) : l.set j a = l := by
 obtain ⟨hj, rfl⟩ := List.getElem?_eq_some_iff.1 h
 exact List.set_getElem_self hj
theorem RcR.keep {c : Cn} {n fr en i J j : Nat} {r : Rl} {u : Wy} {q : RcG} (h : RcR c n fr en i r J q) {p : Po} (hpA : pA c.n J = p) (hJ : J < (c.n + 1) * (c.n + 1)) (hp : c.pE r.x (p) = 0) (hj : (q.rs.map Rl.zz)[j]? = some (c.stp r.x (p), u)) (hje : en ≤ j) (hl : q.look (c.stp r.x (p)) = some u) (hkn : ¬ c.Kn n (c.stp r.x (p)))
  (hlt : (c.nx r.w r.x (p)).lt u = false) (k : Nat) :
  RcR c n fr en i r (J + 1) ⟨k, addP q.P (c.stp r.x (p)) (c.nx r.w r.x (p)), addL q.look (c.stp r.x (p)) (c.nx r.w r.x (p)), q.rs, q.ks, q.bo, q.cap, q.junk, q.HX⟩ := by
 subst hpA
 refine h.nxt hJ hp _ rfl ?_ h.s.rd h.s.len h.s.cap fun _ _ => rfl
 have := h.s.rc.upd h.lv hp hj hje hl hkn
 rw [show pickW (some u) (c.nx r.w r.x (pA c.n J)) = u by unfold pickW; simp [hlt], set_same hj] at this
 exact this
theorem RcR.upd {c : Cn} {n fr en i J j : Nat} {r y : Rl} {u : Wy} {q : RcG} (h : RcR c n fr en i r J q) {p : Po} (hpA : pA c.n J = p) (hJ : J < (c.n + 1) * (c.n + 1)) (hp : c.pE r.x (p) = 0) (hj : (q.rs.map Rl.zz)[j]? = some (c.stp r.x (p), u)) (hje : en ≤ j) (hl : q.look (c.stp r.x (p)) = some u) (hkn : ¬ c.Kn n (c.stp r.x (p)))
  (hlt : (c.nx r.w r.x (p)).lt u = true) (hyx : y.x = c.stp r.x (p)) (hyw : y.w = c.nx r.w r.x (p)) {HX : List Blk} (hs : q.HX.Sublist HX) (hy : y.RdH c HX) (k : Nat) :
  RcR c n fr en i r (J + 1) ⟨k, addP q.P (c.stp r.x (p)) (c.nx r.w r.x (p)), addL q.look (c.stp r.x (p)) (c.nx r.w r.x (p)), q.rs.set j y, q.ks, q.bo, q.cap, q.junk, HX⟩ := by
 subst hpA
 refine h.nxt hJ hp _ rfl ?_ (fun z hz => ?_) ?_ (by rw [List.length_set]; exact h.s.cap) fun t ht => ?_
 ·have := h.s.rc.upd h.lv hp hj hje hl hkn
  rw [show pickW (some u) (c.nx r.w r.x (pA c.n J)) = c.nx r.w r.x (pA c.n J) by unfold pickW; simp [hlt]] at this
  simp only [List.map_set]
  rw [show y.zz = (c.stp r.x (pA c.n J), c.nx r.w r.x (pA c.n J)) by unfold Rl.zz; rw [hyx, hyw]]
  exact this
 ·rcases List.mem_or_eq_of_mem_set hz with hz | rfl
  ·exact (h.s.rd z hz).mono hs
  ·exact hy
 ·have := h.s.len
  rw [List.length_append, rRow_len] at this ⊢
  rw [List.length_set]; exact this
 ·exact List.getElem?_set_ne om0
def Cn.key (c : Cn) (y : Co) : Nat := (c.ky y).toNat
structure AimW (P : Program) (w : World) (fid : FuncId) (first caps : List Value) (Q : Co → Prop) (p : Co → Bool) : Prop where
 enter : ∀ args w, (callFunc fid args).run P w = .ok (.enter fid args) w
 call : ∀ x, Q x → ∀ w', Below w.heap.size w w' → Ct P fid (first ++ (Value.agg x.cells.toArray :: caps)).toArray w' fun v _ => v = .bool (p x)
theorem AimW.st {C : Ctx} {H : List Blk} {fid : FuncId} {first caps : List Value} {Q : Co → Prop} {p : Co → Bool} (h : AimW C.P C.w0 fid first caps Q p) (w : World) (hw : St C H w) : AimW C.P w fid first caps Q p :=
 ⟨h.enter, fun x hx w' hb => h.call x hx w' (hw.1.trans (hb.mono hw.1.size))⟩
def idxF (x : Int) : List Int → Nat → Int
 | [], _ => -1
 | y :: l, k => if x = y then (k : Int) else idxF x l (k + 1)
theorem idxF_step {x : Int} {xs : List Int} {k : Nat} (h : k < xs.length) : idxF x (xs.drop k) k = if x = xs.getD k 0 then (k : Int) else idxF x (xs.drop (k + 1)) (k + 1) := by
 rw [List.drop_eq_getElem_cons h]; simp [idxF, h, List.getD_eq_getElem?_getD]
theorem idxF_mem {x : Int} : ∀ {l : List Int} {k : Nat}, 0 ≤ idxF x l k ↔ x ∈ l
 | [], k => by simp [idxF]
 | y :: l, k => by
  unfold idxF
  by_cases h : x = y
  ·simp [h]
  ·rw [if_neg h, idxF_mem]; simp [h]
theorem indexI_any (a : Option Addr) (n cap : Nat) (xs : List Int) (x : Int) (w : World) (hn : n ≤ 1000000) (hx : Ints w a n cap xs) : Ct Tryz.prog 125 #[.slice a n cap, .int .i64 x] w fun v _ => v = .int .i64 (idxF x xs 0) := by
 have hl := hx.len
 have hF := wide_wide
 refine Ct_start (args := [_, _]) Tryz.func125 rf Tryz.ntmps125 rf ?_
 refine zR fun ds => ?_
 refine za (.int .i64 _) hF ?_
 refine zO ?_
 refine zR fun ds => ?_
 refine zm (.slice _ _ _) hF ?_
 refine zD hF (y_len rf Tryz.runUnderlying22) ?_
 refine zm (.int .i64 _) hF ?_
 refine zN ?_
 refine W_block ?_
 refine W_loop (γ := Nat) (fun k => k ≤ n ∧ idxF x (xs.drop k) k = idxF x xs 0) (fun k => [(0, .slice a n cap), (1, .int .i64 x), (6, .slice a n cap), (7, .int .i64 (n : Int)), (8, .int .i64 (k : Int))]) (fun _ => _) (fun k => n - k) (0) ⟨Nat.zero_le _, by simp⟩ s10 (List.Sublist.refl _) ?_
 intro k e hk
 refine zR fun ds => ?_
 refine zD hF (y_lss rf rf) ?_
 refine zO ?_
 refine W_cond rf (fun c2 => ?_) (fun c2 => ?_)
 ·
  try simp only [qz1, qz2, qz3, qz4, qz5, qz6, qz7, qz8] at c2
  obtain ⟨b, o, rfl, hc⟩ := hx.cell k om0
  have hst := idxF_step (x := x) (xs := xs) (k := k) om0
  refine zU ?_
  refine W_seq ?_
  refine W_block ?_
  refine zR fun ds => ?_
  refine zm (.int .i64 _) hF ?_
  refine za (.int .i64 _) hF ?_
  refine zP fun ds => ?_
  refine zm (.int .i64 _) hF ?_
  refine zm (.slice _ _ _) hF ?_
  refine zm (.int .i64 _) hF ?_
  refine zD hF (y_index (k := k) rf rf r1 d10 Tryz.runUnderlying22 Tryz.sizeOf3) ?_
  refine zD hF (y_load1 rf Tryz.isAgg3 zo) ?_
  refine zD hF (y_eql rf rf) ?_
  refine zN ?_
  refine W_cond rf (fun c4 => ?_) (fun c4 => ?_)
  ·
   try simp only [qz1, qz2, qz3, qz4, qz5, qz6, qz7, qz8] at c4
   refine zR fun ds => ?_
   refine zm (.int .i64 _) hF ?_
   refine za (.int .i64 _) hF ?_
   refine zN ?_
   refine W_ret ?_
   refine InB_ret ?_
   refine Then_ret ?_
   refine Loop_ret ?_
   refine InB_ret ?_
   refine Then_ret ?_
   refine Fin_ret [.int .i64 _] [] Tryz.results125 ⟨by rfl, trivial⟩ HSub.nil ?_
   rw [← hk.2, idxF_step om0, if_pos c4]; rfl
  ·
   try simp only [qz1, qz2, qz3, qz4, qz5, qz6, qz7, qz8] at c4
   refine W_skip ?_
   refine InB_normal ?_
   refine zT fun ds => ?_
   refine zD hF (y_add rf rf ui) ?_
   refine zm (.int .i64 _) hF ?_
   refine WS_nil ?_
   exact Loop_next (k + 1) ⟨by omega, by rw [← hk.2, hst, if_neg c4]⟩ s10 s20 om0
 ·
  try simp only [qz1, qz2, qz3, qz4, qz5, qz6, qz7, qz8] at c2
  refine W_exit ?_
  refine Then_exit ?_
  refine Loop_exit ?_
  refine InB_same ?_
  refine zS fun ds => ?_
  refine za (.int .i64 _) hF ?_
  refine zN ?_
  refine W_ret ?_
  refine Fin_ret [.int .i64 _] [] Tryz.results125 ⟨by rfl, trivial⟩ HSub.nil ?_
  rw [← hk.2, List.drop_eq_nil_of_le om0]; rfl
theorem containsI_any (a : Option Addr) (n cap : Nat) (xs : List Int) (x : Int) (w : World) (hn : n ≤ 1000000) (hx : Ints w a n cap xs) : Ct Tryz.prog 101 #[.slice a n cap, .int .i64 x] w fun v _ => v = .bool (decide (x ∈ xs)) := by
 have hF := wide_wide
 refine Ct_start (args := [_, _]) Tryz.func101 rf Tryz.ntmps101 rf ?_
 refine zR fun ds => ?_
 refine za (.bool _) hF ?_
 refine zP fun ds => ?_
 refine zm (.slice _ _ _) hF ?_
 refine zm (.int .i64 _) hF ?_
 refine zD hF (y_callL rf rf Tryz.call125 (fun w hw => indexI_any a n cap xs x w hn (hx.st w hw))) ?_
 refine zD hF (y_geq rf rf) ?_
 refine za (.bool _) hF ?_
 refine zN ?_
 refine W_ret ?_
 refine Fin_ret [.bool _] [] Tryz.results101 ⟨by rfl, trivial⟩ HSub.nil ?_
 show Value.bool _ = _
 congr 1
 rw [Bool.eq_iff_iff]
 simp only [decide_eq_true_eq]
 exact idxF_mem
theorem some1_any (c : Cn) (a1 : Option Addr) (p1 : Nat) (a2 : Option Addr) (p2 : Nat) (x : Co) (n : Int) (bb bp : Nat) (w : World) (hok : c.Ok) (hb : At w bb 0 [.slice a1 c.n p1, .slice a2 c.inn.length p2, .int .i64 c.st]) (hp : At w bp 0 [.int .i64 n]) :
  Ct Tryz.prog 100 #[.agg x.cells.toArray, .pointer (some ⟨bb, 0, none⟩), .pointer (some ⟨bp, 0, none⟩)] w fun v _ => v = .bool (c.someP n x) := by
 have hn3 := hok.n3
 have hF := wide_wide
 refine Ct_start (args := [_, _, _]) Tryz.func100 rf Tryz.ntmps100 rf ?_
 refine zR fun ds => ?_
 refine WS_new hF rf (y_box rf) (fun b1 => ?_)
 refine za (.bool _) hF ?_
 refine zO ?_
 refine W_draw0 hF Tryzmixed [] dk0 (fun ds => ?_)
 refine P_det rf (Over_nil (y_fieldAddr rf fa92_0)) ?_
 refine P_det rf (Over_nil (y_fieldAddr rf fa24_0)) ?_
 refine P_det rf (Over_nil (y_load1 rf Tryz.isAgg22 zo)) ?_
 refine P_det rf (Over_nil (y_len rf Tryz.runUnderlying22)) ?_
 refine P_det rf (Over_nil (y_add rf rf ui)) ?_
 refine P_det rf (Over_nil (YD_eq (y_sliceA_lohi (l := 1) (h := c.n + 1) (m := 4) rf rf rf rf om0 dc om0 om0 Tryz.runUnderlying106 Tryz.sizeOf3) (show Value.slice (some ⟨b1, 1, none⟩) (c.n + 1 - 1) 3 = .slice (some ⟨b1, 1, none⟩) c.n 3 by rw [Nat.add_sub_cancel]))) ?_
 refine P_det rf (Over_nil (y_load1 rf Tryz.isAgg3 zo)) ?_
 refine P_det rf (Over_nil (y_callL rf rf Tryz.call101 (fun w hw => containsI_any (some ⟨b1, 1, none⟩) c.n 3 (c.of x).inn n w om0 (ints_of c x hn3 0 rf w hw)))) ?_
 refine P_det rf (Over_nil (y_assign (c := .bool _) rf)) ?_
 refine PW_end rf ?_
 refine OverAll_nil ?_
 rintro -
 refine Then_normal ?_
 refine W_ret ?_
 refine Fin_ret [.bool _] [] Tryz.results100 ⟨by rfl, trivial⟩ HSub.nil ?_
 rfl
theorem some_any (c : Cn) (a1 : Option Addr) (p1 : Nat) (a2 : Option Addr) (p2 : Nat) (n : Int) (w : World) : Ct Tryz.prog 54 #[.agg #[.slice a1 c.n p1, .slice a2 c.inn.length p2, .int .i64 c.st], .int .i64 n] w fun v Hn => ∃ bb bp, v = .func (.func 100) #[] #[.pointer (some ⟨bb, 0, none⟩), .pointer (some ⟨bp, 0, none⟩)] ∧ Hn = [(bp, CB [.int .i64 n] 3), (bb, CB [.slice a1 c.n p1, .slice a2 c.inn.length p2, .int .i64 c.st] 92)] := by
 have hF := wide_wide
 refine Ct_start (args := [_, _]) Tryz.func54 rf Tryz.ntmps54 rf ?_
 refine zR fun ds => ?_
 refine WS_new hF rf (y_box rf) (fun b1 => ?_)
 refine WS_new hF rf (y_box rf) (fun b2 => ?_)
 refine za (_) hF ?_
 refine zP fun ds => ?_
 refine zD hF (y_makeFuncL rf rf) ?_
 refine za (_) hF ?_
 refine zN ?_
 refine W_ret ?_
 refine Fin_ret [_] [(b2, _), (b1, _)] Tryz.results54 ⟨by rfl, trivial⟩ (HSub.sub (by repeat (first | exact List.nil_sublist _ | apply List.Sublist.cons_cons | apply List.Sublist.cons))) ?_
 exact ⟨_, _, rfl, rfl⟩
theorem aim_some (c : Cn) (a1 : Option Addr) (p1 : Nat) (a2 : Option Addr) (p2 : Nat) (n : Int) (hok : c.Ok) {C : Ctx} {H : List Blk} {bb bp : Nat} (hP : C.P = Tryz.prog) (hb : Mem C H bb 0 [.slice a1 c.n p1, .slice a2 c.inn.length p2, .int .i64 c.st]) (hp : Mem C H bp 0 [.int .i64 n]) (w : World) (hw : St C H w) :
  AimW Tryz.prog w 100 [] [.pointer (some ⟨bb, 0, none⟩), .pointer (some ⟨bp, 0, none⟩)] c.In (c.someP n) :=
 ⟨Tryz.call100, fun x hx w' h => some1_any c a1 p1 a2 p2 x n bb bp w' hok (At.old h (hb w hw)) (At.old h (hp w hw))⟩
theorem aimis_any (fid : FuncId) (first caps : List Value) (Q : Co → Prop) (p : Co → Bool) (x : Co) (hq : Q x) (w : World) (hA : AimW Tryz.prog w fid first caps Q p) : Ct Tryz.prog 99 #[.func (.func fid) first.toArray caps.toArray, .agg x.cells.toArray] w fun v _ => v = .bool (p x) := by
 have hF := wide_wide
 refine Ct_start (args := [_, _]) Tryz.func99 rf Tryz.ntmps99 rf ?_
 refine zR fun ds => ?_
 refine WS_new hF rf (y_box rf) (fun b1 => ?_)
 refine za (.bool _) hF ?_
 refine zP fun ds => ?_
 refine zm (_) hF ?_
 refine zD hF (y_loadN rf Tryz.isAgg106 Tryz.sizeOf106 (Mem.own (us := [.int .i64 _, .int .i64 _, .int .i64 _, .int .i64 _]) 0 rf rf) rf) ?_
 refine zD hF (y_callL (first := first) (captured := caps) rf rf hA.enter (fun w hw => hA.call x hq _ hw.1)) ?_
 refine za (.bool _) hF ?_
 refine zN ?_
 refine W_ret ?_
 refine Fin_ret [.bool _] [] Tryz.results99 ⟨by rfl, trivial⟩ HSub.nil ?_
 rfl
theorem basked_any (c : Cn) (a1 : Option Addr) (p1 : Nat) (a2 : Option Addr) (p2 : Nat) (fid : FuncId) (first caps : List Value) (p : Co → Bool) (w : World) (hok : c.Ok) (hn : c.n ≤ 1000000) (hm : c.inn.length ≤ 1000000) (h1 : Ints w a1 c.n p1 c.sz) (h2 : Ints w a2 c.inn.length p2 c.inn) (hA : AimW Tryz.prog w fid first caps c.In p) : Ct Tryz.prog 53 #[.agg #[.slice a1 c.n p1, .slice a2 c.inn.length p2, .int .i64 c.st], .func (.func fid) first.toArray caps.toArray] w (AimV (c.few p)) := by
 have hF := wide_wide
 refine Ct_start (args := [_, _]) Tryz.func53 rf Tryz.ntmps53 rf ?_
 refine zR fun ds => ?_
 refine WS_new hF rf (y_box rf) (fun b1 => ?_)
 refine za (.slice _ _ _) hF ?_
 refine za (.int .i64 _) hF ?_
 refine za (.int .i64 _) hF ?_
 refine zP fun ds => ?_
 refine zm (_) hF ?_
 refine zD hF (y_makeFuncL rf rf) ?_
 refine za (_) hF ?_
 refine zP fun ds => ?_
 refine zD hF (y_loadN rf Tryz.isAgg92 Tryz.sizeOf92 (Mem.own (us := [.slice _ _ _, .slice _ _ _, .int .i64 _]) 0 rf rf) rf) ?_
 refine WS_gen hF rf (y_callL rf rf Tryz.call50 (fun w hw => ways_any c a1 p1 a2 p2 w hok hn hm (h1.st w hw) (h2.st w hw))) ?_
 rintro _ _ ⟨mk, l, ck, HX, rfl, rfl, hg, hT⟩
 refine zm (_) hF ?_
 refine WS_callS hF rf rf rf Tryz.call66 (fewest_cs _ _ _ mk ck l c (HX ++ [_]) 99 [.func (.func fid) first.toArray caps.toArray] [] p hg (hT.mono (List.sublist_append_left _ _)) [] ⟨Tryz.call99, fun x hx C H w' hC _ hw => by subst hC; exact aimis_any fid first caps c.In p x hx w' ⟨hA.enter, fun x hx w'' hb => hA.call x hx w'' (hw.1.trans (hb.mono hw.1.size))⟩⟩ (List.nil_sublist _) hok) ?_
 rintro _ _ ⟨fx, fb, rfl, hfv, rfl⟩
 refine zm (.tuple _) hF ?_
 refine zD hF (y_extract (c := .agg _) rf rf) ?_
 refine zD hF (y_extract (c := .bool _) rf rf) ?_
 refine WS_new hF rf (y_alloc Tryz.zeroValue118 rf) (fun b2 => ?_)
 refine WS_store hF (i := 0) rf rf Tryz.sizeOf118 rf rf rf d20 ?_
 refine za (.bool _) hF ?_
 refine zO ?_
 refine zR fun ds => ?_
 refine zm (.bool _) hF ?_
 refine zD hF (y_not rf) ?_
 refine zN ?_
 refine W_cond rf (fun c3 => ?_) (fun c3 => ?_)
 ·
  try simp only [qz1, qz2, qz3, qz4, qz5, qz6, qz7, qz8] at c3
  refine zR fun ds => ?_
  refine za (.slice _ _ _) hF ?_
  refine za (.int .i64 _) hF ?_
  refine za (.int .i64 _) hF ?_
  refine zN ?_
  refine W_ret ?_
  refine Then_ret ?_
  refine Fin_ret [.slice _ _ _, .int .i64 _, .int .i64 _] [] Tryz.results53 ⟨by rfl, by rfl, by rfl, trivial⟩ HSub.nil ?_
  obtain ⟨rfl, hn⟩ := hfv.no' c3
  exact ⟨_, by rw [hn]; rfl, by rw [hn]; exact TwinP.nil _⟩
 ·
  try simp only [qz1, qz2, qz3, qz4, qz5, qz6, qz7, qz8] at c3
  refine zU ?_
  refine W_seq ?_
  refine W_draw0 hF Tryzmixed [] dk0 (fun ds => ?_)
  refine P_det rf (Over_nil (y_fieldAddr rf fa118_0)) ?_
  refine P_det rf (Over_nil (y_load1 rf Tryz.isAgg35 (Mem.own1 0 rf rf))) ?_
  refine P_det rf (Over_nil (y_fieldAddr rf fa118_1)) ?_
  refine P_det rf (Over_nil (y_load1 rf Tryz.isAgg3 (Mem.own1 0 rf rf))) ?_
  refine P_det rf (Over_nil (y_assign (c := .slice _ _ _) rf)) ?_
  refine P_det rf (Over_nil (y_assign (c := .int .i64 _) rf)) ?_
  refine P_det rf (Over_nil (y_assign (c := .int .i64 _) rf)) ?_
  refine PW_end rf ?_
  refine OverAll_nil ?_
  rintro -
  refine Then_normal ?_
  refine W_ret ?_
  refine Fin_ret [.slice _ _ _, .int .i64 _, .int .i64 _] (HX ++ [(b1, _)]) Tryz.results53 ⟨by rfl, by rfl, by rfl, trivial⟩ (HSub.sub sbA) ?_
  have hy := hfv.yes' c3
  exact ⟨_, by rw [hy]; rfl, by rw [hy]; exact ⟨fx.a, fx.k, rfl, fun C H w h hw => (hfv.rd C H w h hw).p⟩⟩
def AskA (e : Int) (o : Option Wy) (v : Value) (Hn : List Blk) : Prop := ∃ v0, v = .tuple #[v0, .int .i64 (if e = 0 then fewB o else 0), .int .i64 (if e = 0 then fewE o else e)] ∧ TwinP (if e = 0 then fewL o else []) v0 Hn
theorem AskA.err {e e' : Int} {o : Option Wy} {Hn : List Blk} (h : e = e') (h0 : e' ≠ 0) : AskA e o (.tuple #[.slice none 0 0, .int .i64 0, .int .i64 e']) Hn := by
 subst h
 refine ⟨_, by rw [if_neg h0, if_neg h0], ?_⟩
 rw [if_neg h0]
 exact TwinP.nil _
theorem AskA.ok {e : Int} {o : Option Wy} {v0 : Value} {Hn : List Blk} (h : e = 0) (hT : TwinP (fewL o) v0 Hn) : AskA e o (.tuple #[v0, .int .i64 (fewB o), .int .i64 (fewE o)]) Hn := by
 subst h
 exact ⟨_, rfl, hT⟩
def Cn.lsE (c : Cn) (n : Int) : Int := if c.okB then if inB 0 20 [n] then 0 else 2 else 80
def Cn.ttE (c : Cn) (n : Int) : Int := if c.okB then if inB 0 (sumL c.sz) [n] then 0 else 2 else 80
def Cn.wantB (c : Cn) (want : List Int) : Bool := decide (want.length = c.n) && (List.range want.length).all fun k => inB (-1) (c.s k) [want.getD k 0]
def Cn.boE (c : Cn) (want : List Int) : Int := if c.okB then if c.wantB want then 0 else 2 else 80
theorem cleast_any (c : Cn) (a1 : Option Addr) (p1 : Nat) (a2 : Option Addr) (p2 : Nat) (n : Int) (w : World) (hG : Gv w) (hn : c.n ≤ 1000000) (hm : c.inn.length ≤ 1000000) (h1 : Ints w a1 c.n p1 c.sz) (h2 : Ints w a2 c.inn.length p2 c.inn) : Ct Tryz.prog 19 #[.agg #[.slice a1 c.n p1, .slice a2 c.inn.length p2, .int .i64 c.st], .int .i64 n] w (AskA (c.lsE n) (c.few (c.someP n))) := by
 have hF := wide_wide
 refine Ct_start (args := [_, _]) Tryz.func19 rf Tryz.ntmps19 rf ?_
 refine zR fun ds => ?_
 refine WS_new hF rf (y_box rf) (fun b1 => ?_)
 refine za (.slice _ _ _) hF ?_
 refine za (.int .i64 _) hF ?_
 refine za (.int .i64 _) hF ?_
 refine zO ?_
 refine zR fun ds => ?_
 refine zD hF (y_loadN rf Tryz.isAgg24 Tryz.sizeOf24 (Mem.own (us := [.slice _ _ _, .slice _ _ _, .int .i64 _]) 0 rf rf) rf) ?_
 refine zD hF (y_callL rf rf Tryz.call47 (fun w hw => ccheck_any c a1 p1 a2 p2 w (hG.st w hw) hn hm (h1.st w hw) (h2.st w hw))) ?_
 refine za (.int .i64 _) hF ?_
 refine zP fun ds => ?_
 refine zm (.int .i64 _) hF ?_
 refine zD hF (y_neq rf rf) ?_
 refine zN ?_
 refine W_cond rf (fun c2 => ?_) (fun c2 => ?_)
 ·
  try simp only [qz1, qz2, qz3, qz4, qz5, qz6, qz7, qz8] at c2
  refine zR fun ds => ?_
  refine zm (.int .i64 _) hF ?_
  refine za (.slice _ _ _) hF ?_
  refine za (.int .i64 _) hF ?_
  refine za (.int .i64 _) hF ?_
  refine zN ?_
  refine W_ret ?_
  refine Then_ret ?_
  refine Fin_ret [.slice _ _ _, .int .i64 _, .int .i64 _] [] Tryz.results19 ⟨by rfl, by rfl, by rfl, trivial⟩ HSub.nil ?_
  obtain ⟨h3, h4⟩ := Cn.err_no c2
  rw [h4]
  exact AskA.err (by unfold Cn.lsE; rw [h3]; rfl) dc
 ·
  try simp only [qz1, qz2, qz3, qz4, qz5, qz6, qz7, qz8] at c2
  have hokB := Cn.err_iff.1 c2
  have hok := Cn.ok_iff.1 hokB
  refine zU ?_
  refine W_seq ?_
  refine zR fun ds => ?_
  refine zm (.int .i64 _) hF ?_
  refine WS_newS hF rf (y_buildSliceL bs22_1_0 rf) (fun b2 => ?_)
  refine zD hF (y_callL rf rf Tryz.call52 (fun w hw => cin_any _ _ _ _ _ _ w dc (by first | exact Ints.one 0 rfl w hw | exact Ints.two 0 rfl w hw))) ?_
  refine zD hF (y_not rf) ?_
  refine zN ?_
  refine W_cond rf (fun c4 => ?_) (fun c4 => ?_)
  ·
   try simp only [qz1, qz2, qz3, qz4, qz5, qz6, qz7, qz8] at c4
   refine zR fun ds => ?_
   refine za (.slice _ _ _) hF ?_
   refine za (.int .i64 _) hF ?_
   refine za (.int .i64 _) hF ?_
   refine zN ?_
   refine W_ret ?_
   refine Then_ret ?_
   refine Fin_ret [.slice _ _ _, .int .i64 _, .int .i64 _] [] Tryz.results19 ⟨by rfl, by rfl, by rfl, trivial⟩ HSub.nil ?_
   exact AskA.err (by unfold Cn.lsE; rw [hokB, c4]; rfl) dc
  ·
   try simp only [qz1, qz2, qz3, qz4, qz5, qz6, qz7, qz8] at c4
   refine W_skip ?_
   refine zS fun ds => ?_
   refine zD hF (y_loadN rf Tryz.isAgg24 Tryz.sizeOf24 (Mem.own (us := [.slice _ _ _, .slice _ _ _, .int .i64 _]) 1 rf rf) rf) ?_
   refine zD hF (y_buildL bd92_0 rf) ?_
   refine WS_new hF rf (y_alloc Tryz.zeroValue92 rf) (fun bb8 => ?_)
   refine WS_store hF (i := 0) rf rf Tryz.sizeOf92 rf rf rf d20 ?_
   refine zO ?_
   refine W_draw0 hF Tryzmixed [] dk0 (fun ds => ?_)
   refine P_det rf (Over_nil (y_loadN rf Tryz.isAgg92 Tryz.sizeOf92 (Mem.own (us := [.slice _ _ _, .slice _ _ _, .int .i64 _]) 0 rf rf) rf)) ?_
   refine P_det rf (Over_nil (y_loadN rf Tryz.isAgg92 Tryz.sizeOf92 (Mem.own (us := [.slice _ _ _, .slice _ _ _, .int .i64 _]) 0 rf rf) rf)) ?_
   refine P_det rf (Over_nil (y_move (c := .int .i64 _) rf)) ?_
   refine P_new rf rf (Over_nil (y_callL rf rf Tryz.call54 (fun w hw => some_any c a1 p1 a2 p2 n w))) ?_
   refine P_new rf rf (Over_in rf (Over_nil (by intro vb4 l23 hb4; obtain ⟨bb, bp, rfl, rfl⟩ := hb4; exact (y_callL rf rf Tryz.call53 (fun w hw => basked_any c a1 p1 a2 p2 100 [] [_, _] (c.someP n) w hok hn hm (h1.st w hw) (h2.st w hw) (aim_some c a1 p1 a2 p2 n hok rfl (Mem.own (us := [.slice _ _ _, .slice _ _ _, .int _ _]) 1 rf rf) (Mem.own1 0 rf rf) w hw)))))) ?_
   refine P_ali [24] (fun e => tupAt (e 24) 0) rf rf rf (fun _ _ h => congrArg (tupAt · 0) (h 24 (List.mem_singleton.2 rfl))) (Over_in rf (Over_out rf (Over_nil (by intro vb6 l24 hb6; obtain ⟨v0, rfl, ta, tk, rfl, hTp⟩ := hb6; obtain ⟨L24, rfl⟩ : ∃ L24, L24 = l24 := ⟨_, rfl⟩; exact (YD0_of (y_extract (c := .slice _ _ _) rf rf)))))) ?_
   refine P_ali [24] (fun e => tupAt (e 24) 1) rf rf rf (fun _ _ h => congrArg (tupAt · 1) (h 24 (List.mem_singleton.2 rfl))) (Over_out rf (Over_in rf (Over_out rf (Over_nil (by intro vb8 l24 hb8; obtain ⟨v0, rfl, ta, tk, rfl, hTp⟩ := hb8; obtain ⟨L24, rfl⟩ : ∃ L24, L24 = l24 := ⟨_, rfl⟩; exact (YD0_of (y_extract (c := .int .i64 _) rf rf))))))) ?_
   refine P_ali [24] (fun e => tupAt (e 24) 2) rf rf rf (fun _ _ h => congrArg (tupAt · 2) (h 24 (List.mem_singleton.2 rfl))) (Over_out rf (Over_out rf (Over_in rf (Over_out rf (Over_nil (by intro vb10 l24 hb10; obtain ⟨v0, rfl, ta, tk, rfl, hTp⟩ := hb10; obtain ⟨L24, rfl⟩ : ∃ L24, L24 = l24 := ⟨_, rfl⟩; exact (YD0_of (y_extract (c := .int .i64 _) rf rf)))))))) ?_
   refine P_ali [25] (fun e => e 25) rf rf rf (fun _ _ h => h 25 (List.mem_singleton.2 rfl)) (Over_out rf (Over_out rf (Over_in rf (Over_in rf (Over_out rf (Over_nil (by intro vb12 l24 hb12; obtain ⟨v0, rfl, ta, tk, rfl, hTp⟩ := hb12; obtain ⟨L24, rfl⟩ : ∃ L24, L24 = l24 := ⟨_, rfl⟩; rintro vb13 _ ⟨hvb13, rfl⟩; replace hvb13 : vb13 = .slice _ _ _ := hvb13; subst hvb13; exact (YD0_of (y_assign (c := .slice _ _ _) rf))))))))) ?_
   refine P_ali [26] (fun e => e 26) rf rf rf (fun _ _ h => h 26 (List.mem_singleton.2 rfl)) (Over_out rf (Over_out rf (Over_in rf (Over_out rf (Over_in rf (Over_out rf (Over_nil (by intro vb15 l24 hb15; obtain ⟨v0, rfl, ta, tk, rfl, hTp⟩ := hb15; obtain ⟨L24, rfl⟩ : ∃ L24, L24 = l24 := ⟨_, rfl⟩; rintro vb16 _ ⟨hvb16, rfl⟩; replace hvb16 : vb16 = .int .i64 _ := hvb16; subst hvb16; exact (YD0_of (y_assign (c := .int .i64 _) rf)))))))))) ?_
   refine P_ali [27] (fun e => e 27) rf rf rf (fun _ _ h => h 27 (List.mem_singleton.2 rfl)) (Over_out rf (Over_out rf (Over_in rf (Over_out rf (Over_out rf (Over_in rf (Over_out rf (Over_nil (by intro vb18 l24 hb18; obtain ⟨v0, rfl, ta, tk, rfl, hTp⟩ := hb18; obtain ⟨L24, rfl⟩ : ∃ L24, L24 = l24 := ⟨_, rfl⟩; rintro vb19 _ ⟨hvb19, rfl⟩; replace hvb19 : vb19 = .int .i64 _ := hvb19; subst hvb19; exact (YD0_of (y_assign (c := .int .i64 _) rf))))))))))) ?_
   refine PW_end rf ?_
   refine OverAll_cons (fun w6 l6 => ?_)
   refine OverAll_cons (fun w5 l5 => ?_)
   refine OverAll_cons (fun w4 l4 => ?_)
   refine OverAll_cons (fun w27 l27 => ?_)
   refine OverAll_cons (fun w26 l26 => ?_)
   refine OverAll_cons (fun w25 l25 => ?_)
   refine OverAll_cons (fun w24 l24 => ?_)
   refine OverAll_cons (fun w23 l23 => ?_)
   refine OverAll_nil ?_
   rintro ⟨⟨⟨⟨⟨⟨⟨⟨-, h6⟩, h5⟩, h4⟩, h27⟩, h26⟩, h25⟩, h24⟩, h23⟩
   obtain ⟨bb, bp, rfl, rfl⟩ := h23
   obtain ⟨v0, rfl, ta, tk, rfl, hTp⟩ := h24
   obtain ⟨L24, rfl⟩ : ∃ L24, L24 = l24 := ⟨_, rfl⟩
   obtain ⟨h25, rfl⟩ := h25
   replace h25 : w25 = .slice _ _ _ := h25
   subst h25
   obtain ⟨h26, rfl⟩ := h26
   replace h26 : w26 = .int .i64 _ := h26
   subst h26
   obtain ⟨h27, rfl⟩ := h27
   replace h27 : w27 = .int .i64 _ := h27
   subst h27
   obtain ⟨h4, rfl⟩ := h4
   replace h4 : w4 = .slice _ _ _ := h4
   subst h4
   obtain ⟨h5, rfl⟩ := h5
   replace h5 : w5 = .int .i64 _ := h5
   subst h5
   obtain ⟨h6, rfl⟩ := h6
   replace h6 : w6 = .int .i64 _ := h6
   subst h6
   refine Then_normal ?_
   refine W_ret ?_
   refine Fin_ret [.slice _ _ _, .int .i64 _, .int .i64 _] L24 Tryz.results19 ⟨by rfl, by rfl, by rfl, trivial⟩ (HSub.sub sbA) ?_
   exact AskA.ok (by unfold Cn.lsE; rw [hokB, c4]; rfl) ⟨ta, tk, rfl, hTp⟩
theorem sumTo_bd {xs : List Int} (h : ∀ k, k < xs.length → 0 ≤ xs.getD k 0 ∧ xs.getD k 0 ≤ 600) : ∀ k, k ≤ xs.length → 0 ≤ sumTo xs k ∧ sumTo xs k ≤ 600 * (k : Int)
 | 0, _ => by unfold sumTo; simp [sumL]
 | k + 1, hk => by
  have ih := sumTo_bd h k om0
  have hx := h k om0
  rw [sumTo_succ om0]
  omega
theorem sumTo_all (xs : List Int) : sumTo xs xs.length = sumL xs := by unfold sumTo; rw [List.take_length]
theorem total_any (a : Option Addr) (cap : Nat) (xs : List Int) (w : World) (hn : xs.length ≤ 1000) (hbd : ∀ k, k < xs.length → 0 ≤ xs.getD k 0 ∧ xs.getD k 0 ≤ 600) (hx : Ints w a xs.length cap xs) : Ct Tryz.prog 87 #[.slice a xs.length cap] w fun v _ => v = .int .i64 (sumL xs) := by
 have hF := wide_wide
 refine Ct_start (args := [_]) Tryz.func87 rf Tryz.ntmps87 rf ?_
 refine zR fun ds => ?_
 refine za (.int .i64 _) hF ?_
 refine zP fun ds => ?_
 refine za (.int .i64 _) hF ?_
 refine zO ?_
 refine zR fun ds => ?_
 refine zm (.slice _ _ _) hF ?_
 refine zD hF (y_len rf Tryz.runUnderlying22) ?_
 refine zm (.int .i64 _) hF ?_
 refine zN ?_
 refine W_block ?_
 refine W_loop (γ := Nat) (fun k => k ≤ xs.length) (fun k => [(3, .int .i64 (sumTo xs k)), (6, .slice a xs.length cap), (7, .int .i64 (xs.length : Int)), (8, .int .i64 (k : Int))]) (fun _ => _) (fun k => xs.length - k) (0) (Nat.zero_le _) s10 (List.Sublist.refl _) ?_
 intro k e hk
 refine zR fun ds => ?_
 refine zD hF (y_lss rf rf) ?_
 refine zO ?_
 refine W_cond rf (fun c3 => ?_) (fun c3 => ?_)
 ·
  try simp only [qz1, qz2, qz3, qz4, qz5, qz6, qz7, qz8] at c3
  obtain ⟨b, o, rfl, hc⟩ := hx.cell k om0
  have hb := sumTo_bd hbd k hk
  have hx' := hbd k om0
  have hsc := sumTo_succ (xs := xs) (k := k) om0
  refine zU ?_
  refine W_seq ?_
  refine W_block ?_
  refine zR fun ds => ?_
  refine zD hF (y_index (k := k) rf rf r1 d10 Tryz.runUnderlying22 Tryz.sizeOf3) ?_
  refine zD hF (y_load1 rf Tryz.isAgg3 zo) ?_
  refine za (.int .i64 _) hF ?_
  refine zQ fun ds => ?_
  refine zm (.int .i64 _) hF ?_
  refine zm (.int .i64 _) hF ?_
  refine zD hF (y_add rf rf ui) ?_
  refine za (.int .i64 _) hF ?_
  refine WS_nil ?_
  refine InB_normal ?_
  refine Then_normal ?_
  rw [← hsc]
  refine W_region_lit (fun ds => ?_)
  refine zD hF (y_add rf rf ui) ?_
  refine zm (.int .i64 _) hF ?_
  refine WS_nil ?_
  exact Loop_next (k + 1) om0 s10 s20 om0
 ·
  try simp only [qz1, qz2, qz3, qz4, qz5, qz6, qz7, qz8] at c3
  refine W_exit ?_
  refine Then_exit ?_
  refine Loop_exit ?_
  refine InB_same ?_
  refine zS fun ds => ?_
  refine zm (.int .i64 _) hF ?_
  refine za (.int .i64 _) hF ?_
  refine zN ?_
  refine W_ret ?_
  refine Fin_ret [.int .i64 _] [] Tryz.results87 ⟨by rfl, trivial⟩ HSub.nil ?_
  have : k = xs.length := by omega
  subst this
  rw [sumTo_all]
  rfl
theorem ints_co {x : Co} {C : Ctx} {H : List Blk} {b T : Nat} (i : Nat) (hi : H[i]? = some (b, CB x.cells T)) (w : World) (hw : St C H w) : Ints w (some ⟨b, 1, none⟩) 3 3 [x.b, x.c, x.d] := by
 refine ⟨rfl, Nat.le_refl _, fun k hk => ⟨b, 1, rfl, ?_⟩⟩
 have hb := hw.get hi
 obtain rfl | rfl | rfl : k = 0 ∨ k = 1 ∨ k = 2 := by omega
 ·exact at_block (rest := [.int .i64 x.c, .int .i64 x.d]) hb rfl
 ·exact at_block (rest := [.int .i64 x.d]) hb rfl
 ·exact at_block (rest := []) hb rfl
theorem total1_any (c : Cn) (x : Co) (n : Int) (bp : Nat) (w : World) (hok : c.Ok) (hin : c.In x) (hp : At w bp 0 [.int .i64 n]) :
  Ct Tryz.prog 88 #[.agg x.cells.toArray, .pointer (some ⟨bp, 0, none⟩)] w fun v _ => v = .bool (totP n x) := by
 have hb : 0 ≤ x.b ∧ x.b ≤ 20 := hin.bd hok (k := 1) dc dc
 have hc : 0 ≤ x.c ∧ x.c ≤ 20 := hin.bd hok (k := 2) dc dc
 have hd : 0 ≤ x.d ∧ x.d ≤ 20 := hin.bd hok (k := 3) dc dc
 have hbd : ∀ k, k < [x.b, x.c, x.d].length → 0 ≤ [x.b, x.c, x.d].getD k 0 ∧ [x.b, x.c, x.d].getD k 0 ≤ 600 := fun k hk => by
  simp only [List.length_cons, List.length_nil] at hk
  obtain rfl | rfl | rfl : k = 0 ∨ k = 1 ∨ k = 2 := by omega
  ·show 0 ≤ x.b ∧ x.b ≤ 600; omega
  ·show 0 ≤ x.c ∧ x.c ≤ 600; omega
  ·show 0 ≤ x.d ∧ x.d ≤ 600; omega
 have hF := wide_wide
 refine Ct_start (args := [_, _]) Tryz.func88 rf Tryz.ntmps88 rf ?_
 refine zR fun ds => ?_
 refine WS_new hF rf (y_box rf) (fun b1 => ?_)
 refine za (.bool _) hF ?_
 refine zO ?_
 refine W_draw0 hF Tryzmixed [] dk0 (fun ds => ?_)
 refine P_det rf (Over_nil (y_sliceA_lo (l := 1) (m := 4) rf rf rf dc Tryz.runUnderlying106 Tryz.sizeOf3)) ?_
 refine P_det rf (Over_nil (y_callL rf rf Tryz.call87 (fun w hw => total_any (some ⟨b1, 1, none⟩) 3 [x.b, x.c, x.d] w (by simp) hbd (ints_co 0 rf w hw)))) ?_
 refine P_det rf (Over_nil (y_load1 rf Tryz.isAgg3 zo)) ?_
 refine P_det rf (Over_nil (y_eql rf rf)) ?_
 refine P_det rf (Over_nil (y_assign (c := .bool _) rf)) ?_
 refine PW_end rf ?_
 refine OverAll_nil ?_
 rintro -
 refine Then_normal ?_
 refine W_ret ?_
 refine Fin_ret [.bool _] [] Tryz.results88 ⟨by rfl, trivial⟩ HSub.nil ?_
 show Value.bool _ = _
 congr 1
 unfold totP
 rw [Bool.eq_iff_iff]
 simp only [decide_eq_true_eq, sumL]
 constructor
 ·intro h
  have := of_decide_eq_true h
  omega
 ·intro h
  exact decide_eq_true om0
theorem Cn.Ok.sz_bd {c : Cn} (h : c.Ok) : c.sz.length ≤ 1000 ∧ ∀ k, k < c.sz.length → 0 ≤ c.sz.getD k 0 ∧ c.sz.getD k 0 ≤ 600 := by
 have h3 : c.sz.length ≤ 3 := h.n3
 refine ⟨by omega, fun k hk => ?_⟩
 have := h.s k hk
 unfold Cn.s at this
 omega
theorem ctotal_any (c : Cn) (a1 : Option Addr) (p1 : Nat) (a2 : Option Addr) (p2 : Nat) (n : Int) (w : World) (hG : Gv w) (hn : c.n ≤ 1000000) (hm : c.inn.length ≤ 1000000) (h1 : Ints w a1 c.n p1 c.sz) (h2 : Ints w a2 c.inn.length p2 c.inn) : Ct Tryz.prog 40 #[.agg #[.slice a1 c.n p1, .slice a2 c.inn.length p2, .int .i64 c.st], .int .i64 n] w (AskA (c.ttE n) (c.few (totP n))) := by
 have hF := wide_wide
 refine Ct_start (args := [_, _]) Tryz.func40 rf Tryz.ntmps40 rf ?_
 refine zR fun ds => ?_
 refine WS_new hF rf (y_box rf) (fun b1 => ?_)
 refine WS_new hF rf (y_box rf) (fun b2 => ?_)
 refine za (.slice _ _ _) hF ?_
 refine za (.int .i64 _) hF ?_
 refine za (.int .i64 _) hF ?_
 refine zO ?_
 refine zR fun ds => ?_
 refine zD hF (y_loadN rf Tryz.isAgg24 Tryz.sizeOf24 (Mem.own (us := [.slice _ _ _, .slice _ _ _, .int .i64 _]) 1 rf rf) rf) ?_
 refine zD hF (y_callL rf rf Tryz.call47 (fun w hw => ccheck_any c a1 p1 a2 p2 w (hG.st w hw) hn hm (h1.st w hw) (h2.st w hw))) ?_
 refine za (.int .i64 _) hF ?_
 refine zP fun ds => ?_
 refine zm (.int .i64 _) hF ?_
 refine zD hF (y_neq rf rf) ?_
 refine zN ?_
 refine W_cond rf (fun c2 => ?_) (fun c2 => ?_)
 ·
  try simp only [qz1, qz2, qz3, qz4, qz5, qz6, qz7, qz8] at c2
  refine zR fun ds => ?_
  refine zm (.int .i64 _) hF ?_
  refine za (.slice _ _ _) hF ?_
  refine za (.int .i64 _) hF ?_
  refine za (.int .i64 _) hF ?_
  refine zN ?_
  refine W_ret ?_
  refine Then_ret ?_
  refine Fin_ret [.slice _ _ _, .int .i64 _, .int .i64 _] [] Tryz.results40 ⟨by rfl, by rfl, by rfl, trivial⟩ HSub.nil ?_
  obtain ⟨h3, h4⟩ := Cn.err_no c2
  rw [h4]
  exact AskA.err (by unfold Cn.ttE; rw [h3]; rfl) dc
 ·
  try simp only [qz1, qz2, qz3, qz4, qz5, qz6, qz7, qz8] at c2
  have hokB := Cn.err_iff.1 c2
  have hok := Cn.ok_iff.1 hokB
  have hszb := hok.sz_bd
  refine zU ?_
  refine W_seq ?_
  refine W_seq ?_
  refine W_draw0 hF Tryzmixed [] dk0 (fun ds => ?_)
  refine P_det rf (Over_nil (y_fieldAddr rf fa24_0)) ?_
  refine P_det rf (Over_nil (y_load1 rf Tryz.isAgg22 (Mem.own1 1 rf rf))) ?_
  refine P_det rf (Over_nil (y_callL rf rf Tryz.call87 (fun w hw => total_any a1 p1 c.sz w hszb.1 hszb.2 (h1.st w hw)))) ?_
  refine P_det rf (Over_nil (y_load1 rf Tryz.isAgg3 (Mem.own1 0 rf rf))) ?_
  refine P_new rf rf (Over_nil (y_buildSliceL bs22_1_0 rf)) ?_
  refine P_det rf (Over_in rf (Over_nil (by rintro _ _ ⟨b4, rfl, rfl⟩; exact (y_callL rf rf Tryz.call52 (fun w hw => cin_any _ _ _ _ _ _ w dc (by first | exact Ints.one 0 rfl w hw | exact Ints.two 0 rfl w hw)))))) ?_
  refine P_det rf (Over_out rf (Over_nil (y_not rf))) ?_
  refine PW_end rf ?_
  refine OverAll_cons (fun w17 l17 => ?_)
  refine OverAll_nil ?_
  rintro ⟨-, h17⟩
  obtain ⟨b3, rfl, rfl⟩ := h17
  refine Then_normal ?_
  refine W_cond rf (fun c4 => ?_) (fun c4 => ?_)
  ·
   try simp only [qz1, qz2, qz3, qz4, qz5, qz6, qz7, qz8] at c4
   refine zR fun ds => ?_
   refine za (.slice _ _ _) hF ?_
   refine za (.int .i64 _) hF ?_
   refine za (.int .i64 _) hF ?_
   refine zN ?_
   refine W_ret ?_
   refine Then_ret ?_
   refine Fin_ret [.slice _ _ _, .int .i64 _, .int .i64 _] [] Tryz.results40 ⟨by rfl, by rfl, by rfl, trivial⟩ HSub.nil ?_
   exact AskA.err (by unfold Cn.ttE; rw [hokB, c4]; rfl) dc
  ·
   try simp only [qz1, qz2, qz3, qz4, qz5, qz6, qz7, qz8] at c4
   refine W_skip ?_
   refine zS fun ds => ?_
   refine zD hF (y_loadN rf Tryz.isAgg24 Tryz.sizeOf24 (Mem.own (us := [.slice _ _ _, .slice _ _ _, .int .i64 _]) 2 rf rf) rf) ?_
   refine zD hF (y_buildL bd92_0 rf) ?_
   refine zD hF (y_makeFuncL rf rf) ?_
   refine WS_gen hF rf (y_callL rf rf Tryz.call53 (fun w hw => basked_any c a1 p1 a2 p2 88 [] [_] (totP n) w hok hn hm (h1.st w hw) (h2.st w hw) ⟨Tryz.call88, fun x hx w' h => total1_any c x n _ w' hok hx (At.old h (Mem.own1 1 rf rf w hw))⟩)) ?_
   rintro _ L24 ⟨v0, rfl, ta, tk, rfl, hTp⟩
   refine zD hF (y_extract (c := .slice _ _ _) rf rf) ?_
   refine zD hF (y_extract (c := .int .i64 _) rf rf) ?_
   refine zD hF (y_extract (c := .int .i64 _) rf rf) ?_
   refine za (.slice _ _ _) hF ?_
   refine za (.int .i64 _) hF ?_
   refine za (.int .i64 _) hF ?_
   refine zN ?_
   refine W_ret ?_
   refine Fin_ret [.slice _ _ _, .int .i64 _, .int .i64 _] L24 Tryz.results40 ⟨by rfl, by rfl, by rfl, trivial⟩ (HSub.sub sbA) ?_
   exact AskA.ok (by unfold Cn.ttE; rw [hokB, c4]; rfl) ⟨ta, tk, rfl, hTp⟩
theorem both1_any (c : Cn) (x : Co) (wa : Option Addr) (wcap : Nat) (want : List Int) (bp : Nat) (w : World) (hok : c.Ok) (hl : want.length = c.n) (hw' : Ints w wa want.length wcap want) (hp : At w bp 0 [.slice wa want.length wcap]) :
  Ct Tryz.prog 89 #[.agg x.cells.toArray, .pointer (some ⟨bp, 0, none⟩)] w fun v _ => v = .bool (c.bothP want x) := by
 have hn3 := hok.n3
 have hF := wide_wide
 refine Ct_start (args := [_, _]) Tryz.func89 rf Tryz.ntmps89 rf ?_
 refine zR fun ds => ?_
 refine WS_new hF rf (y_box rf) (fun b1 => ?_)
 refine za (.bool _) hF ?_
 refine zO ?_
 refine zR fun ds => ?_
 refine zD hF (y_load1 rf Tryz.isAgg22 zo) ?_
 refine zD hF (y_len rf Tryz.runUnderlying22) ?_
 refine zm (.int .i64 _) hF ?_
 refine zN ?_
 refine W_block ?_
 refine W_loop (γ := Nat) (fun k => k ≤ want.length ∧ ∀ j, j < k → want.getD j 0 < 0 ∨ (c.of x).i j = want.getD j 0) (fun k => [(2, .pointer (some ⟨b1, 0, none⟩)), (6, .slice wa want.length wcap), (7, .int .i64 (want.length : Int)), (8, .int .i64 (k : Int))]) (fun _ => _) (fun k => want.length - k) (0) ⟨Nat.zero_le _, fun j h => absurd h (Nat.not_lt_zero _)⟩ s10 (List.Sublist.refl _) ?_
 rintro k e ⟨hk, hj⟩
 refine zR fun ds => ?_
 refine zD hF (y_lss rf rf) ?_
 refine zO ?_
 refine W_cond rf (fun c2 => ?_) (fun c2 => ?_)
 ·
  try simp only [qz1, qz2, qz3, qz4, qz5, qz6, qz7, qz8] at c2
  obtain ⟨b, o, rfl, hc⟩ := hw'.cell k om0
  have hoi := c.of_i x k om0 hn3
  obtain ⟨rest, hdr⟩ := x.drop (k := k + 1) om0
  refine zU ?_
  refine W_seq ?_
  refine W_block ?_
  refine zR fun ds => ?_
  refine zm (.int .i64 _) hF ?_
  refine zD hF (y_index (k := k) rf rf r1 d10 Tryz.runUnderlying22 Tryz.sizeOf3) ?_
  refine zD hF (y_load1 rf Tryz.isAgg3 zo) ?_
  refine za (.int .i64 _) hF ?_
  refine za (.int .i64 _) hF ?_
  refine zP fun ds => ?_
  refine zm (.int .i64 _) hF ?_
  refine zD hF (y_geq rf rf) ?_
  refine zm (.bool _) hF ?_
  refine WS_split 15 rf (fun g4_2 => ?_) (fun g4_2 => ?_)
  ·
   try simp only [qz1, qz2, qz3, qz4, qz5, qz6, qz7, qz8] at g4_2
   refine zm (.int .i64 _) hF ?_
   refine zD hF (y_add rf rf ui) ?_
   refine zD hF (y_indexA (k := k + 1) rf rf r1 d10 Tryz.runUnderlying106 Tryz.sizeOf3) ?_
   refine zD hF (y_load1 rf Tryz.isAgg3 (Mem.own (us := [.int .i64 (x.g (k + 1))]) 0 rf hdr)) ?_
   refine zm (.int .i64 _) hF ?_
   refine zD hF (y_neq rf rf) ?_
   refine zD hF (zpk (.bool _)) ?_
   refine zN ?_
   refine W_cond rf (fun c4 => ?_) (fun c4 => ?_)
   ·
    try simp only [qz1, qz2, qz3, qz4, qz5, qz6, qz7, qz8] at c4
    refine zR fun ds => ?_
    refine za (.bool _) hF ?_
    refine zN ?_
    refine W_ret ?_
    refine InB_ret ?_
    refine Then_ret ?_
    refine Loop_ret ?_
    refine InB_ret ?_
    refine Then_ret ?_
    refine Fin_ret [.bool _] [] Tryz.results89 ⟨by rfl, trivial⟩ HSub.nil ?_
    show Value.bool _ = _
    congr 1
    symm
    unfold Cn.bothP
    exact List.all_eq_false.2 ⟨k, List.mem_range.2 om0, by rw [hoi]; simp only [decide_eq_true_eq]; omega⟩
   ·
    try simp only [qz1, qz2, qz3, qz4, qz5, qz6, qz7, qz8] at c4
    have hjn : want.getD k 0 < 0 ∨ (c.of x).i k = want.getD k 0 := by rw [hoi]; omega
    refine W_skip ?_
    refine InB_normal ?_
    refine zT fun ds => ?_
    refine zD hF (y_add rf rf ui) ?_
    refine zm (.int .i64 _) hF ?_
    refine WS_nil ?_
    exact Loop_next (k + 1) ⟨by omega, fun j h => by by_cases hjk : j = k; (subst hjk; exact hjn); exact hj j om0⟩ s10 s20 om0
  ·
   try simp only [qz1, qz2, qz3, qz4, qz5, qz6, qz7, qz8] at g4_2
   refine zno hF ?_
   refine zno hF ?_
   refine zno hF ?_
   refine zno hF ?_
   refine zno hF ?_
   refine zno hF ?_
   refine zD hF (zpk (.bool _)) ?_
   refine zN ?_
   refine W_cond rf (fun c4 => ?_) (fun c4 => ?_)
   ·cases c4
   ·
    try simp only [qz1, qz2, qz3, qz4, qz5, qz6, qz7, qz8] at c4
    have hjn : want.getD k 0 < 0 ∨ (c.of x).i k = want.getD k 0 := by rw [hoi]; omega
    refine W_skip ?_
    refine InB_normal ?_
    refine zT fun ds => ?_
    refine zD hF (y_add rf rf ui) ?_
    refine zm (.int .i64 _) hF ?_
    refine WS_nil ?_
    exact Loop_next (k + 1) ⟨by omega, fun j h => by by_cases hjk : j = k; (subst hjk; exact hjn); exact hj j om0⟩ s10 s20 om0
 ·
  try simp only [qz1, qz2, qz3, qz4, qz5, qz6, qz7, qz8] at c2
  refine W_exit ?_
  refine Then_exit ?_
  refine Loop_exit ?_
  refine InB_same ?_
  refine zS fun ds => ?_
  refine za (.bool _) hF ?_
  refine zN ?_
  refine W_ret ?_
  refine Fin_ret [.bool _] [] Tryz.results89 ⟨by rfl, trivial⟩ HSub.nil ?_
  show Value.bool _ = _
  congr 1
  symm
  unfold Cn.bothP
  rw [List.all_eq_true]
  intro j h
  rw [decide_eq_true_eq]
  exact hj j (by have := List.mem_range.1 h; omega)
theorem cboth_any (c : Cn) (a1 : Option Addr) (p1 : Nat) (a2 : Option Addr) (p2 : Nat) (wa : Option Addr) (wcap : Nat) (want : List Int) (w : World) (hG : Gv w) (hn : c.n ≤ 1000000) (hm : c.inn.length ≤ 1000000) (h1 : Ints w a1 c.n p1 c.sz) (h2 : Ints w a2 c.inn.length p2 c.inn) (hwn : want.length ≤ 1000000) (hwa : Ints w wa want.length wcap want) : Ct Tryz.prog 41 #[.agg #[.slice a1 c.n p1, .slice a2 c.inn.length p2, .int .i64 c.st], .slice wa want.length wcap] w (AskA (c.boE want) (c.few (c.bothP want))) := by
 have hF := wide_wide
 refine Ct_start (args := [_, _]) Tryz.func41 rf Tryz.ntmps41 rf ?_
 refine zR fun ds => ?_
 refine WS_new hF rf (y_box rf) (fun b1 => ?_)
 refine WS_new hF rf (y_box rf) (fun b2 => ?_)
 refine za (.slice _ _ _) hF ?_
 refine za (.int .i64 _) hF ?_
 refine za (.int .i64 _) hF ?_
 refine zO ?_
 refine zR fun ds => ?_
 refine zD hF (y_loadN rf Tryz.isAgg24 Tryz.sizeOf24 (Mem.own (us := [.slice _ _ _, .slice _ _ _, .int .i64 _]) 1 rf rf) rf) ?_
 refine zD hF (y_callL rf rf Tryz.call47 (fun w hw => ccheck_any c a1 p1 a2 p2 w (hG.st w hw) hn hm (h1.st w hw) (h2.st w hw))) ?_
 refine za (.int .i64 _) hF ?_
 refine zP fun ds => ?_
 refine zm (.int .i64 _) hF ?_
 refine zD hF (y_neq rf rf) ?_
 refine zN ?_
 refine W_cond rf (fun c2 => ?_) (fun c2 => ?_)
 ·
  try simp only [qz1, qz2, qz3, qz4, qz5, qz6, qz7, qz8] at c2
  refine zR fun ds => ?_
  refine zm (.int .i64 _) hF ?_
  refine za (.slice _ _ _) hF ?_
  refine za (.int .i64 _) hF ?_
  refine za (.int .i64 _) hF ?_
  refine zN ?_
  refine W_ret ?_
  refine Then_ret ?_
  refine Fin_ret [.slice _ _ _, .int .i64 _, .int .i64 _] [] Tryz.results41 ⟨by rfl, by rfl, by rfl, trivial⟩ HSub.nil ?_
  obtain ⟨h3, h4⟩ := Cn.err_no c2
  rw [h4]
  exact AskA.err (by unfold Cn.boE; rw [h3]; rfl) dc
 ·
  try simp only [qz1, qz2, qz3, qz4, qz5, qz6, qz7, qz8] at c2
  have hokB := Cn.err_iff.1 c2
  have hok := Cn.ok_iff.1 hokB
  have hn3 := hok.n3
  refine zU ?_
  refine W_seq ?_
  refine zR fun ds => ?_
  refine zD hF (y_load1 rf Tryz.isAgg22 (Mem.own1 0 rf rf)) ?_
  refine zD hF (y_len rf Tryz.runUnderlying22) ?_
  refine zD hF (y_fieldAddr rf fa24_0) ?_
  refine zD hF (y_load1 rf Tryz.isAgg22 (Mem.own1 1 rf rf)) ?_
  refine zD hF (y_len rf Tryz.runUnderlying22) ?_
  refine zD hF (y_neq rf rf) ?_
  refine zN ?_
  refine W_cond rf (fun c4 => ?_) (fun c4 => ?_)
  ·
   try simp only [qz1, qz2, qz3, qz4, qz5, qz6, qz7, qz8] at c4
   refine zR fun ds => ?_
   refine za (.slice _ _ _) hF ?_
   refine za (.int .i64 _) hF ?_
   refine za (.int .i64 _) hF ?_
   refine zN ?_
   refine W_ret ?_
   refine Then_ret ?_
   refine Fin_ret [.slice _ _ _, .int .i64 _, .int .i64 _] [] Tryz.results41 ⟨by rfl, by rfl, by rfl, trivial⟩ HSub.nil ?_
   exact AskA.err (by unfold Cn.boE Cn.wantB; rw [hokB, show decide (want.length = c.n) = false from decide_eq_false om0]; rfl) dc
  ·
   try simp only [qz1, qz2, qz3, qz4, qz5, qz6, qz7, qz8] at c4
   have hwl : want.length = c.n := by omega
   refine zU ?_
   refine W_seq ?_
   refine zR fun ds => ?_
   refine zD hF (y_load1 rf Tryz.isAgg22 (Mem.own1 0 rf rf)) ?_
   refine zD hF (y_len rf Tryz.runUnderlying22) ?_
   refine zm (.int .i64 _) hF ?_
   refine zN ?_
   refine W_block ?_
   refine W_loop (γ := Nat) (fun k => k ≤ want.length ∧ ∀ j, j < k → inB (-1) (c.s j) [want.getD j 0] = true) (fun k => [(2, .pointer (some ⟨b1, 0, none⟩)), (3, .pointer (some ⟨b2, 0, none⟩)), (21, .slice wa want.length wcap), (22, .int .i64 (want.length : Int)), (23, .int .i64 (k : Int))]) (fun _ => _) (fun k => want.length - k) (0) ⟨Nat.zero_le _, fun j h => absurd h (Nat.not_lt_zero _)⟩ s10 (List.Sublist.refl _) ?_
   rintro k e ⟨hk, hj⟩
   refine zR fun ds => ?_
   refine zD hF (y_lss rf rf) ?_
   refine zO ?_
   refine W_cond rf (fun c7 => ?_) (fun c7 => ?_)
   ·
    try simp only [qz1, qz2, qz3, qz4, qz5, qz6, qz7, qz8] at c7
    obtain ⟨b, o, rfl, hc⟩ := hwa.cell k om0
    obtain ⟨b', o', rfl, hc'⟩ := h1.cell k om0
    change At w b' _ [.int .i64 (c.s k)] at hc'
    refine zU ?_
    refine W_seq ?_
    refine W_block ?_
    refine zR fun ds => ?_
    refine zm (.int .i64 _) hF ?_
    refine zD hF (y_index (k := k) rf rf r1 d10 Tryz.runUnderlying22 Tryz.sizeOf3) ?_
    refine zD hF (y_load1 rf Tryz.isAgg3 zo) ?_
    refine za (.int .i64 _) hF ?_
    refine za (.int .i64 _) hF ?_
    refine zP fun ds => ?_
    refine zD hF (y_fieldAddr rf fa24_0) ?_
    refine zD hF (y_load1 rf Tryz.isAgg22 (Mem.own1 1 rf rf)) ?_
    refine zm (.int .i64 _) hF ?_
    refine zD hF (y_index (k := k) rf rf r1 d10 Tryz.runUnderlying22 Tryz.sizeOf3) ?_
    refine zD hF (y_load1 rf Tryz.isAgg3 zo) ?_
    refine zm (.int .i64 _) hF ?_
    refine WS_newS hF rf (y_buildSliceL bs22_1_0 rf) (fun b3 => ?_)
    refine zD hF (y_callL rf rf Tryz.call52 (fun w hw => cin_any _ _ _ _ _ _ w dc (by first | exact Ints.one 0 rfl w hw | exact Ints.two 0 rfl w hw))) ?_
    refine zD hF (y_not rf) ?_
    refine zN ?_
    refine W_cond rf (fun c9 => ?_) (fun c9 => ?_)
    ·
     try simp only [qz1, qz2, qz3, qz4, qz5, qz6, qz7, qz8] at c9
     refine zR fun ds => ?_
     refine za (.slice _ _ _) hF ?_
     refine za (.int .i64 _) hF ?_
     refine za (.int .i64 _) hF ?_
     refine zN ?_
     refine W_ret ?_
     refine InB_ret ?_
     refine Then_ret ?_
     refine Loop_ret ?_
     refine InB_ret ?_
     refine Then_ret ?_
     refine Fin_ret [.slice _ _ _, .int .i64 _, .int .i64 _] [] Tryz.results41 ⟨by rfl, by rfl, by rfl, trivial⟩ HSub.nil ?_
     refine AskA.err ?_ dc
     unfold Cn.boE Cn.wantB
     rw [hokB, List.all_eq_false.2 ⟨k, List.mem_range.2 om0, by rw [c9]; decide⟩, Bool.and_false]
     rfl
    ·
     try simp only [qz1, qz2, qz3, qz4, qz5, qz6, qz7, qz8] at c9
     refine W_skip ?_
     refine InB_normal ?_
     refine zT fun ds => ?_
     refine zD hF (y_add rf rf ui) ?_
     refine zm (.int .i64 _) hF ?_
     refine WS_nil ?_
     exact Loop_next (k + 1) ⟨by omega, fun j h => by by_cases hjk : j = k; (subst hjk; exact c9); exact hj j om0⟩ s10 sbA om0
   ·
    try simp only [qz1, qz2, qz3, qz4, qz5, qz6, qz7, qz8] at c7
    have hwB : c.wantB want = true := by
     unfold Cn.wantB
     rw [Bool.and_eq_true]
     refine ⟨decide_eq_true hwl, List.all_eq_true.2 fun j h => hj j (by have := List.mem_range.1 h; omega)⟩
    refine W_exit ?_
    refine Then_exit ?_
    refine Loop_exit ?_
    refine InB_same ?_
    refine zS fun ds => ?_
    refine zD hF (y_loadN rf Tryz.isAgg24 Tryz.sizeOf24 (Mem.own (us := [.slice _ _ _, .slice _ _ _, .int .i64 _]) 1 rf rf) rf) ?_
    refine zD hF (y_buildL bd92_0 rf) ?_
    refine zD hF (y_makeFuncL rf rf) ?_
    refine WS_gen hF rf (y_callL rf rf Tryz.call53 (fun w hw => basked_any c a1 p1 a2 p2 89 [] [_] (c.bothP want) w hok hn hm (h1.st w hw) (h2.st w hw) ⟨Tryz.call89, fun x hx w' h => both1_any c x wa wcap want _ w' hok hwl ((hwa.st w hw).below h) (At.old h (Mem.own1 0 rf rf w hw))⟩)) ?_
    rintro _ L24 ⟨v0, rfl, ta, tk, rfl, hTp⟩
    refine zD hF (y_extract (c := .slice _ _ _) rf rf) ?_
    refine zD hF (y_extract (c := .int .i64 _) rf rf) ?_
    refine zD hF (y_extract (c := .int .i64 _) rf rf) ?_
    refine za (.slice _ _ _) hF ?_
    refine za (.int .i64 _) hF ?_
    refine za (.int .i64 _) hF ?_
    refine zN ?_
    refine W_ret ?_
    refine Fin_ret [.slice _ _ _, .int .i64 _, .int .i64 _] L24 Tryz.results41 ⟨by rfl, by rfl, by rfl, trivial⟩ (HSub.sub sbA) ?_
    exact AskA.ok (by unfold Cn.boE; rw [hokB, hwB]; rfl) ⟨ta, tk, rfl, hTp⟩
structure Am where
 some : Int
 total : Int
 each : List Int
def Am.p (c : Cn) (a : Am) (x : Co) : Bool := if 0 ≤ a.total then totP a.total x else if 0 ≤ a.some then c.someP a.some x else c.bothP a.each x
def sumA (s : Int) (xs : List Int) : Nat → Int
 | 0 => s
 | k + 1 => sumA s xs k + xs.getD k 0
theorem ye_extract {C : Ctx} {e : Env} {H : List Blk} {d : Option Tmp} {ty : TypeId} {pos : String} {af : Array Edge} {x : Operand} {i : Nat} {vs : Array Value} {c : Value} (hx : ev e x = .tuple vs) (hi : vs[i]? = some c) : YE C ⟨d, .extract x i, ty, pos, af, none⟩ e H c :=
 ⟨fun w _ => by simp [execOp, hx, Instr.extract, hi], fun w => rfl⟩
structure Rv where
 s : Option Addr
 sn : Nat
 sk : Nat
 i : Option Addr
 im : Nat
 ik : Nat
 st : Int
 l : Option Addr
 ln : Nat
 lk : Nat
 back : Int
def Rv.cells (v : Rv) : List Value := [.slice v.s v.sn v.sk, .slice v.i v.im v.ik, .int .i64 v.st, .slice v.l v.ln v.lk, .int .i64 v.back]
def Rv.z : Rv := ⟨none, 0, 0, none, 0, 0, 0, none, 0, 0, 0⟩
def Rl.rv (c : Cn) (r : Rl) : Rv := ⟨r.s, c.n, r.ks, r.i, (c.of r.x).inn.length, r.ki, r.x.a, r.l, r.w.l.length, r.kl, r.w.back⟩
structure Rl.Rd (c : Cn) (w : World) (r : Rl) : Prop where
 i : Ints w r.i (c.of r.x).inn.length r.ki (c.of r.x).inn
 p : Pos w r.l r.w.l.length r.kl r.w.l
theorem Rl.Rd.st {c : Cn} {C : Ctx} {H : List Blk} {r : Rl} (h : r.Rd c C.w0) (w : World) (hw : St C H w) : r.Rd c w := ⟨h.i.st w hw, h.p.st w hw⟩
def FewR (c : Cn) (p : Co → Bool) (rs : List Rl) (v : Value) : Prop := ∃ (b : Bool) (q : Rv), v = .tuple #[.agg q.cells.toArray, .bool b] ∧ (b = true → ∃ r ∈ rs, q = r.rv c ∧ c.few p = some r.w) ∧ (b = false → c.few p = none)
theorem sl_ext : ∀ {l m : List Int}, l.Pairwise (· < ·) → m.Pairwise (· < ·) → (∀ x, x ∈ l ↔ x ∈ m) → l = m
 | [], [], _, _, _ => rfl
 | [], y :: m, _, _, h => by have := (h y).2 List.mem_cons_self; cases this
 | x :: l, [], _, _, h => by have := (h x).1 List.mem_cons_self; cases this
 | x :: l, y :: m, h1, h2, h => by
  rw [List.pairwise_cons] at h1 h2
  have hxy : x = y := by
   rcases List.mem_cons.1 ((h x).1 List.mem_cons_self) with e | e
   ·exact e
   ·rcases List.mem_cons.1 ((h y).2 List.mem_cons_self) with e' | e'
    ·exact e'.symm
    ·have := h2.1 x e; have := h1.1 y e'; omega
  subst hxy
  rw [sl_ext h1.2 h2.2 fun z => ?_]
  have hz := h z
  simp only [List.mem_cons] at hz
  constructor
  ·intro hm
   rcases hz.1 (.inr hm) with e | e
   ·subst e; have := h1.1 _ hm; omega
   ·exact e
  ·intro hm
   rcases hz.2 (.inr hm) with e | e
   ·subst e; have := h2.1 _ hm; omega
   ·exact e
def sortL (xs : List Int) : List Int := xs.mergeSort fun x y => decide (x ≤ y)
theorem sortL_len (xs : List Int) : (sortL xs).length = xs.length := List.length_mergeSort _
theorem sortL_mem {xs : List Int} {x : Int} : x ∈ sortL xs ↔ x ∈ xs := (List.mergeSort_perm xs _).mem_iff
theorem sortL_le (xs : List Int) : (sortL xs).Pairwise (· ≤ ·) := by
 have h := List.pairwise_mergeSort (le := fun x y : Int => decide (x ≤ y)) (fun a b c h1 h2 => by simp only [decide_eq_true_eq] at *; omega) (fun a b => by simp only [Bool.or_eq_true, decide_eq_true_eq]; omega) xs
 exact h.imp fun h => by simpa using h
theorem le_get {zs : List Int} (h : zs.Pairwise (· ≤ ·)) {i j : Nat} (hij : i ≤ j) (hj : j < zs.length) : zs.toArray[i]! ≤ zs.toArray[j]! := by
 have hi : i < zs.length := by omega
 simp only [hi, hj, getElem!_pos, List.size_toArray, List.getElem_toArray]
 by_cases he : i = j
 ·subst he; exact Int.le_refl _
 ·exact List.pairwise_iff_getElem.1 h i j hi hj om0
theorem compact_lt {zs : List Int} (h : zs.Pairwise (· ≤ ·)) : (Lib.compact zs).Pairwise (· < ·) := by
 unfold Lib.compact Lib.compactUpTo
 rw [List.pairwise_map]
 refine (List.Pairwise.filter _ List.pairwise_lt_range).imp_of_mem fun {i j} hi hj hij => ?_
 obtain ⟨hir, hik⟩ := List.mem_filter.1 hi
 obtain ⟨hjr, hjk⟩ := List.mem_filter.1 hj
 rw [List.mem_range] at hir hjr
 unfold Lib.keeps at hjk
 rw [decide_eq_true_eq] at hjk
 have h1 := le_get h (i := i) (j := j - 1) om0 om0
 have h2 := le_get h (i := j - 1) (j := j) om0 hjr
 rcases hjk with h0 | hne
 ·omega
 ·omega
theorem compact_mem {zs : List Int} {x : Int} : x ∈ Lib.compact zs ↔ x ∈ zs := by
 unfold Lib.compact Lib.compactUpTo
 constructor
 ·intro h
  obtain ⟨j, hj, rfl⟩ := List.mem_map.1 h
  have hjr := List.mem_range.1 (List.mem_filter.1 hj).1
  simp only [hjr, getElem!_pos, List.size_toArray, List.getElem_toArray]
  exact List.getElem_mem _
 ·intro h
  obtain ⟨j, hj, rfl⟩ := List.getElem_of_mem h
  have key : ∀ (n j : Nat), j ≤ n → ∀ (hj : j < zs.length), zs[j] ∈ ((List.range zs.length).filter (Lib.keeps zs.toArray)).map (zs.toArray[·]!) := by
   intro n
   induction n with
   | zero =>
    intro j hjn hj
    obtain rfl : j = 0 := by omega
    refine List.mem_map.2 ⟨0, List.mem_filter.2 ⟨List.mem_range.2 hj, by unfold Lib.keeps; simp⟩, by simp [hj]⟩
   | succ n ih =>
    intro j hjn hj
    by_cases h0 : j = 0
    ·exact ih j om0 hj
    ·by_cases he : zs.toArray[j]! = zs.toArray[j - 1]!
     ·have h1 := ih (j - 1) om0 om0
      have h2 : zs[j] = zs[j - 1] := by
       have hj1 : j - 1 < zs.length := by omega
       simpa [hj, hj1] using he
      rw [h2]; exact h1
     ·exact List.mem_map.2 ⟨j, List.mem_filter.2 ⟨List.mem_range.2 hj, by unfold Lib.keeps; exact decide_eq_true (.inr he)⟩, by simp [hj]⟩
  exact key j j (Nat.le_refl _) hj
def Cn.mkP (c : Cn) (n : Int) : Prop := ∃ w y, c.Best w y ∧ n ∈ (c.of y).inn
open Classical in
noncomputable def Cn.madeL (c : Cn) : List Int := ((List.range 21).map fun (k : Nat) => (k : Int)).filter fun n => decide (c.mkP n)
theorem Cn.mkP_bd {c : Cn} (hok : c.Ok) {n : Int} (h : c.mkP n) : 0 ≤ n ∧ n ≤ 20 := by
 obtain ⟨w, y, hb, hm⟩ := h
 have hin := (hb.way.in hok).1
 have hoky := hok.of hin
 obtain ⟨k, hk, rfl⟩ := List.getElem_of_mem hm
 have h1 := hoky.i k (by rw [← hoky.len]; exact hk)
 have h2 := hoky.s k (by rw [← hoky.len]; exact hk)
 unfold Cn.i at h1
 rw [List.getD_eq_getElem?_getD, List.getElem?_eq_getElem hk] at h1
 simp only [Option.getD_some] at h1
 omega
theorem Cn.madeL_lt (c : Cn) : c.madeL.Pairwise (· < ·) := by
 unfold Cn.madeL
 refine List.Pairwise.filter _ ?_
 rw [List.pairwise_map]
 exact List.pairwise_lt_range.imp fun h => by omega
theorem Cn.madeL_mem {c : Cn} (hok : c.Ok) {n : Int} : n ∈ c.madeL ↔ c.mkP n := by
 unfold Cn.madeL
 simp only [List.mem_filter, decide_eq_true_eq]
 constructor
 ·exact fun h => h.2
 ·intro h
  obtain ⟨h0, h1⟩ := Cn.mkP_bd hok h
  exact ⟨List.mem_map.2 ⟨n.toNat, List.mem_range.2 om0, by omega⟩, h⟩
theorem Cn.madeL_len (c : Cn) : c.madeL.length ≤ 21 := by
 unfold Cn.madeL
 refine Nat.le_trans (List.length_filter_le _ _) ?_
 simp
structure MdI (c : Cn) (l : List (EntK Co)) (seen : Array Nat) (L : List Int) : Prop where
 snd : ∀ n ∈ L, ∃ e ∈ l, n ∈ (c.of e.1).inn
 cmp : ∀ e ∈ l, e.2.2 ∈ seen → ∀ n ∈ (c.of e.1).inn, n ∈ L
 len : L.length + 3 * leftL l seen ≤ 3 * l.length
theorem MdI.nil (c : Cn) (l : List (EntK Co)) : MdI c l #[] [] := ⟨fun n h => (by cases h), fun e _ h => (by simp at h), (by rw [List.length_nil, Nat.zero_add]; exact Nat.mul_le_mul_left 3 (List.length_filter_le _ _))⟩
theorem MdI.step {c : Cn} (hok : c.Ok) {l : List (EntK Co)} {seen : Array Nat} {L : List Int} (h : MdI c l seen L) {k : Co} {v : Value} {bn : Nat} (hy : (k, v, bn) ∈ l) (hb : (l.map (·.2.2)).Nodup) (hns : bn ∉ seen) (hin : c.In k) : MdI c l (seen.push bn) (L ++ (c.of k).inn) := by
 have hlt := leftL_lt (l := l) (seen := seen) (y := (k, v, bn)) hy hns
 have h3 := hok.n3
 have hk := (hok.of hin).len
 refine ⟨fun n hn => ?_, fun e he hs n hn => ?_, ?_⟩
 ·rcases List.mem_append.1 hn with hn | hn
  ·exact h.snd n hn
  ·exact ⟨_, hy, hn⟩
 ·rcases Array.mem_push.1 hs with hs | hs
  ·exact List.mem_append_left _ (h.cmp e he hs n hn)
  ·have : ∀ {l : List (EntK Co)}, (l.map (·.2.2)).Nodup → e ∈ l → (k, v, bn) ∈ l → e = (k, v, bn) := by
    intro l
    induction l with
    | nil => intro _ h; cases h
    | cons z l ih =>
     intro hn a1 a2
     rw [List.map_cons, List.nodup_cons] at hn
     rcases List.mem_cons.1 a1 with e1 | e1
     ·rcases List.mem_cons.1 a2 with e2 | e2
      ·rw [e1, e2]
      ·exact absurd (List.mem_map.2 ⟨_, e2, by rw [← e1]; exact hs.symm⟩) hn.1
     ·rcases List.mem_cons.1 a2 with e2 | e2
      ·exact absurd (List.mem_map.2 ⟨_, e1, by rw [← e2]; exact hs⟩) hn.1
      ·exact ih hn.2 e1 e2
   have he := this hb he hy
   subst he
   exact List.mem_append_right _ hn
 ·have h1 := h.len
  rw [List.length_append]
  change leftL l (seen.push bn) < leftL l seen at hlt
  have h4 : (c.of k).inn.length ≤ 3 := by rw [hk]; exact h3
  omega
theorem MdI.made {c : Cn} (hok : c.Ok) {l : List (EntK Co)} {ck : Nat} {HX : List Blk} {seen : Array Nat} {L : List Int} (h : MdI c l seen L) (hg : GoodM l ck) (hT : Tab HX l c.bestO) (hov : ∀ x ∈ l, x.2.2 ∈ seen) : Lib.compact (sortL L) = c.madeL := by
 refine sl_ext (compact_lt (sortL_le L)) c.madeL_lt fun n => ?_
 rw [compact_mem, sortL_mem, Cn.madeL_mem hok]
 constructor
 ·intro hn
  obtain ⟨e, he, hne⟩ := h.snd n hn
  obtain ⟨x, _, h2, _⟩ := hT.mem hg he
  exact ⟨_, _, Cn.bestO_iff.1 h2, hne⟩
 ·rintro ⟨w, y, hb, hm⟩
  obtain ⟨e, he, rfl⟩ := hT.has (Cn.bestO_iff.2 hb)
  exact h.cmp e he (hov e he) n hm
theorem Cn.made_ne {c : Cn} (hok : c.Ok) : ∃ n, c.mkP n := by
 have hb : c.Best ⟨[], 0⟩ c.co := (Cn.lv_zero.2 ⟨rfl, rfl⟩).1
 have hl := hok.len
 have h1 := hok.n1
 refine ⟨(c.of c.co).inn.getD 0 0, _, _, hb, ?_⟩
 rw [hok.co_of]
 rw [List.getD_eq_getElem?_getD, List.getElem?_eq_getElem (show 0 < c.inn.length by omega)]
 exact List.getElem_mem _
end Go.Proofs.YtjekjehgmljbgaaGreatDoor.T
