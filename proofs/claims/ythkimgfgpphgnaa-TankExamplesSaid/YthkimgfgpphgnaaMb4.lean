/- What the examples come to: by the kernel's own run. -/
import Derived.Test.YthkimgfgpphgnaaMb3
import Derived.MapKept
import Derived.Scope
import Derived.Laws.Bits64b
set_option linter.unusedVariables false
set_option linter.unusedSimpArgs false
/- What leaks altogether: the walks. -/
namespace Go.Proofs.Ythkimgfgpphgnaa.T
open Go.RowKit Go.Proofs Go.Eng
set_option maxRecDepth 100000
set_option linter.unusedVariables false
set_option linter.unusedSimpArgs false

theorem bd26_0 {x0 : Int} : ∀ w, (Instr.build 26 #[(0, .int .i64 x0)]).run Try.prog w = .ok (.agg #[.int .i64 x0, .int .i64 0]) w := fun w => by kernel_rfl

theorem WS_sub {C : Ctx} {F : Fence} {n : Nat} {ds : List Deferred} {all : Array Oper} {Q : Exit → Env → List Blk → Prop} {rest : List Oper} {e : Env} {H H' : List Blk} (hs : HSub H H') (k : WS C F n ds all Q rest e H') : WS C F n ds all Q rest e H :=
  fun w hw a ha => k w ⟨hw.1, hs _ _ hw.2, hw.3⟩ a ha
theorem mv_bd {F : Nat} {lo hi wo m : Int} {best : Nat → Int} (hF : F ≤ 600) (hwo : wo = -1 ∨ wo = 0 ∨ wo = 1) (hm0 : 0 ≤ m) (hb : ∀ j, j ≤ F → never ≤ best j ∧ best j ≤ m) (t : Nat) (ht : t ≤ F) : never ≤ mv F lo hi wo best t ∧ mv F lo hi wo best t ≤ m + 600 := by
  have hA : ((mvA hi t : Nat) : Int) = max 0 ((t : Int) - hi) := by unfold mvA; omega
  have hN : ((mvN F lo hi t : Nat) : Int) = max 0 (min (F : Int) ((t : Int) - lo) - max 0 ((t : Int) - hi) + 1) := by unfold mvN; omega
  have hnv : never = -1099511627776 := rfl
  refine mxF_bd (by omega) _ fun j hj => ?_
  have h1 := hb (mvA hi t + j) (by omega)
  unfold mvG
  have h2 : wo * (((mvA hi t + j : Nat) : Int) - (t : Int)) ≤ 600 := by rcases hwo with rfl | rfl | rfl <;> omega
  omega
theorem mv0_bd {F : Nat} {lo hi m : Int} {best : Nat → Int} (hm0 : 0 ≤ m) (hb : ∀ j, j ≤ F → never ≤ best j ∧ best j ≤ m) (t : Nat) (ht : t ≤ F) : never ≤ mv F lo hi 0 best t ∧ mv F lo hi 0 best t ≤ m := by
  have hA : ((mvA hi t : Nat) : Int) = max 0 ((t : Int) - hi) := by unfold mvA; omega
  have hN : ((mvN F lo hi t : Nat) : Int) = max 0 (min (F : Int) ((t : Int) - lo) - max 0 ((t : Int) - hi) + 1) := by unfold mvN; omega
  have hnv : never = -1099511627776 := rfl
  refine mxF_bd (by omega) _ fun j hj => ?_
  have h1 := hb (mvA hi t + j) (by omega)
  unfold mvG
  rw [Int.zero_mul]; omega
def dipF (d : Sn) (best : Nat → Int) (v : Nat) : Int := if inB d.lo d.hi [(v : Int)] then best v else never
def Lg.best0 (l : Lg) (v : Nat) : Int := if l.start.lo ≤ (v : Int) ∧ (v : Int) ≤ l.start.hi then 0 else never
def Lg.bstep (l : Lg) (F : Nat) (sign : Int) (k : Nat) (best : Nat → Int) : Nat → Int :=
  if (l.e k).kind = 1 then mv F (l.e k).size.lo (l.e k).size.hi 0 (mv F (-l.drip k) 0 sign best)
  else if (l.e k).kind = 2 then mv F (-(l.e k).size.hi) (-(l.e k).size.lo) 0 (mv F (-l.drip k) 0 sign best)
  else dipF (l.tk.dip (l.e k).size) (mv F (-l.drip k) 0 sign best)
def Lg.bestK (l : Lg) (F : Nat) (sign : Int) : Nat → Nat → Int
  | 0 => l.best0
  | k + 1 => l.bstep F sign k (l.bestK F sign k)
theorem Lg.best_bd (l : Lg) {F : Nat} {sign : Int} (hF : F ≤ 600) (hs : sign = -1 ∨ sign = 0 ∨ sign = 1) : ∀ k v, v ≤ F → never ≤ l.bestK F sign k v ∧ l.bestK F sign k v ≤ 600 * (k : Int)
  | 0, v, _ => by
    have hnv : never = -1099511627776 := rfl
    show never ≤ l.best0 v ∧ l.best0 v ≤ _
    unfold Lg.best0
    split <;> omega
  | k + 1, v, hv => by
    have hnv : never = -1099511627776 := rfl
    have ih := Lg.best_bd l hF hs k
    have h1 : ∀ j, j ≤ F → never ≤ mv F (-l.drip k) 0 sign (l.bestK F sign k) j ∧ mv F (-l.drip k) 0 sign (l.bestK F sign k) j ≤ 600 * (k : Int) + 600 := fun j hj => mv_bd hF hs (by omega) ih j hj
    show never ≤ l.bstep F sign k (l.bestK F sign k) v ∧ l.bstep F sign k (l.bestK F sign k) v ≤ _
    push_cast
    unfold Lg.bstep
    split
    · have := mv0_bd (lo := (l.e k).size.lo) (hi := (l.e k).size.hi) (m := 600 * (k : Int) + 600) (by omega) h1 v hv; omega
    · split
      · have := mv0_bd (lo := -(l.e k).size.hi) (hi := -(l.e k).size.lo) (m := 600 * (k : Int) + 600) (by omega) h1 v hv; omega
      · unfold dipF
        split
        · have := h1 v hv; omega
        · omega
def Lg.lostI (l : Lg) (sign : Int) : Int := maxN (l.bestK l.tk.full.toNat sign l.es.length) (l.tk.full.toNat + 1)
def stF (lo : Int) (c v : Nat) : Int := if lo ≤ (v : Int) ∧ (v : Int) < lo + (c : Int) then 0 else never
def dpF (d : Sn) (best : Nat → Int) (j v : Nat) : Int := if v < j then dipF d best v else best v

theorem lost2_any (kb : Nat) (l : Lg) (sign : Int) (w : World) (hK : Kn w kb l) (hsg : sign = -1 ∨ sign = 0 ∨ sign = 1) :
    Ct Try.prog 114 #[.pointer (some ⟨kb, 0, none⟩), .int .i64 sign] w fun v _ => v = .int .i64 (l.lostI sign) := by
  have hK0 := hK
  obtain ⟨hok, hne, bk, fb, capf, ab, bb, k3, _, _, _, hB⟩ := hK
  have ⟨_, g, a, cap, ae, cape, k4, hG, he⟩ := hB
  have ⟨_, a2, cap2, hg, _⟩ := hG
  have hfb := hok.tk.full_bd
  have hn12 := hok.n12
  have hst := Sn.inB_iff.1 hok.start
  have hnv : never = -1099511627776 := rfl
  obtain ⟨F, hFu⟩ : ∃ F : Nat, l.tk.full = (F : Int) := Int.eq_ofNat_of_zero_le hfb.1
  have hF6 : F ≤ 600 := by omega
  have hFt : l.tk.full.toNat = F := by omega
  rw [hFu] at hg
  unfold Lg.lostI
  rw [hFt]
  have hF := wide_wide
  refine Ct_start (args := [_, _]) Try.func114 (by rfl) Try.ntmps114 (by rfl) ?_
  refine W_seq ?_
  refine W_region_lit (fun ds => ?_)
  refine WS_new hF (by rfl) (y_box (by rfl)) (fun b1 => ?_)
  refine WS_det hF (by rfl) (y_assign (c := .int .i64 _) (by rfl)) ?_
  refine WS_nil ?_
  refine Then_normal ?_
  refine W_seq ?_
  refine W_region_lit (fun ds => ?_)
  refine WS_newS hF (by rfl) (y_buildSliceL bs22_1_0 (by rfl)) (fun b2 => ?_)
  refine WS_det hF (by rfl) (y_load1 (by rfl) Try.isAgg123 (Mem.own1 1 (by rfl) (by rfl))) ?_
  refine WS_det hF (by rfl) (by first | exact y_nilCheck (by rfl) | exact y_nilCheckF (by rfl)) ?_
  refine WS_det hF (by rfl) (y_fieldAddr (by rfl) fa127_0) ?_
  refine WS_det hF (by rfl) (y_load1 (by rfl) Try.isAgg108 (by first | exact Mem.old1 (by assumption) | exact Mem.oldAt1 (by assumption) (by rfl) | exact Mem.old (by assumption) | exact Mem.oldAtL1 (by assumption) (by rfl) (by rfl))) ?_
  refine WS_det hF (by rfl) (by first | exact y_nilCheck (by rfl) | exact y_nilCheckF (by rfl)) ?_
  refine WS_det hF (by rfl) (y_fieldAddr (by rfl) fa119_0) ?_
  refine WS_det hF (by rfl) (y_load1 (by rfl) Try.isAgg93 (by first | exact Mem.old1 (by assumption) | exact Mem.oldAt1 (by assumption) (by rfl) | exact Mem.old (by assumption) | exact Mem.oldAtL1 (by assumption) (by rfl) (by rfl))) ?_
  refine WS_det hF (by rfl) (by first | exact y_nilCheck (by rfl) | exact y_nilCheckF (by rfl)) ?_
  refine WS_det hF (by rfl) (y_fieldAddr (by rfl) fa98_1) ?_
  refine WS_det hF (by rfl) (y_load1 (by rfl) Try.isAgg3 (by first | exact Mem.old1 (by assumption) | exact Mem.oldAt1 (by assumption) (by rfl) | exact Mem.old (by assumption) | exact Mem.oldAtL1 (by assumption) (by rfl) (by rfl))) ?_
  refine WS_det hF (by rfl) (y_add (by rfl) (by rfl) (by unfold I64; omega)) ?_
  refine WS_gen hF (by rfl) (y_callL (by rfl) (by rfl) Try.call131 (fun w hw => repeat_any b2 1 never (F + 1) w (by omega) (by omega) (Mem.own (us := [.int _ _]) 0 (by rfl) (by rfl) w hw))) ?_
  rintro _ _ ⟨ob, rfl, rfl⟩
  refine WS_new hF (by rfl) (y_alloc Try.zeroValue22 (by rfl)) (fun pb => ?_)
  refine WS_store hF (i := 0) (by rfl) (by rfl) Try.sizeOf22 (by rfl) (by rfl) (by rfl) (by first | decide | exact Nat.le_of_ble_eq_true rfl | simp) ?_
  refine WS_nil ?_
  refine Then_normal ?_
  refine W_seq ?_
  refine W_seq ?_
  refine W_region_lit (fun ds => ?_)
  refine WS_det hF (by rfl) (y_load1 (by rfl) Try.isAgg123 (Mem.own1 3 (by rfl) (by rfl))) ?_
  refine WS_det hF (by rfl) (by first | exact y_nilCheck (by rfl) | exact y_nilCheckF (by rfl)) ?_
  refine WS_det hF (by rfl) (y_fieldAddr (by rfl) fa127_0) ?_
  refine WS_det hF (by rfl) (y_load1 (by rfl) Try.isAgg108 (by first | exact Mem.old1 (by assumption) | exact Mem.oldAt1 (by assumption) (by rfl) | exact Mem.old (by assumption) | exact Mem.oldAtL1 (by assumption) (by rfl) (by rfl))) ?_
  refine WS_det hF (by rfl) (by first | exact y_nilCheck (by rfl) | exact y_nilCheckF (by rfl)) ?_
  refine WS_det hF (by rfl) (y_fieldAddr (by rfl) fa119_1) ?_
  refine WS_det hF (by rfl) (y_fieldAddr (by rfl) fa46_1) ?_
  refine WS_det hF (by rfl) (y_fieldAddr (by rfl) fa26_0) ?_
  refine WS_det hF (by rfl) (y_load1 (by rfl) Try.isAgg3 (by first | exact Mem.old1 (by assumption) | exact Mem.oldAt1 (by assumption) (by rfl) | exact Mem.old (by assumption) | exact Mem.oldAtL1 (by assumption) (by rfl) (by rfl))) ?_
  refine WS_det hF (by rfl) (y_assign (c := .int .i64 _) (by rfl)) ?_
  refine WS_nil ?_
  refine Then_normal ?_
  refine W_block ?_
  refine W_loop (γ := Nat) (fun c => c ≤ (l.start.hi - l.start.lo + 1).toNat) (fun c => [(1, .int .i64 sign), (2, .pointer (some ⟨b1, 0, none⟩)), (5, .pointer (some ⟨pb, 0, none⟩)), (6, .int .i64 (l.start.lo + (c : Int)))]) (fun c => [(pb, CB [.slice (some ⟨ob, 0, none⟩) (F + 1) (F + 1)] 22), (ob, CB (iRow (stF l.start.lo c) (F + 1)) 3), (b1, CB [.pointer (some ⟨kb, 0, none⟩)] 123)]) (fun c => (l.start.hi - l.start.lo + 1).toNat - c) (0) (Nat.zero_le _) ((by repeat (first | exact trivial | refine ⟨by rfl, ?_⟩ | refine ⟨congrArg (Value.int _) (by first | omega | (simp only; omega) | (push_cast; omega)), ?_⟩))) ((by rw [show iRow (stF l.start.lo 0) (F + 1) = iRow (fun _ => never) (F + 1) from rowOf_congr _ fun j hj => by unfold stF; rw [if_neg (by omega)]]; repeat (first | exact List.Sublist.refl _ | exact List.nil_sublist _ | apply List.Sublist.cons_cons | apply List.Sublist.cons))) ?_
  intro c e hc
  refine W_seq ?_
  refine W_seq ?_
  refine W_region_lit (fun ds => ?_)
  refine WS_det hF (by rfl) (y_move (c := .int .i64 _) (by rfl)) ?_
  refine WS_det hF (by rfl) (y_load1 (by rfl) Try.isAgg123 (Mem.own1 2 (by rfl) (by rfl))) ?_
  refine WS_det hF (by rfl) (by first | exact y_nilCheck (by rfl) | exact y_nilCheckF (by rfl)) ?_
  refine WS_det hF (by rfl) (y_fieldAddr (by rfl) fa127_0) ?_
  refine WS_det hF (by rfl) (y_load1 (by rfl) Try.isAgg108 (by first | exact Mem.old1 (by assumption) | exact Mem.oldAt1 (by assumption) (by rfl) | exact Mem.old (by assumption) | exact Mem.oldAtL1 (by assumption) (by rfl) (by rfl))) ?_
  refine WS_det hF (by rfl) (by first | exact y_nilCheck (by rfl) | exact y_nilCheckF (by rfl)) ?_
  refine WS_det hF (by rfl) (y_fieldAddr (by rfl) fa119_1) ?_
  refine WS_det hF (by rfl) (y_fieldAddr (by rfl) fa46_1) ?_
  refine WS_det hF (by rfl) (y_fieldAddr (by rfl) fa26_1) ?_
  refine WS_det hF (by rfl) (y_load1 (by rfl) Try.isAgg3 (by first | exact Mem.old1 (by assumption) | exact Mem.oldAt1 (by assumption) (by rfl) | exact Mem.old (by assumption) | exact Mem.oldAtL1 (by assumption) (by rfl) (by rfl))) ?_
  refine WS_det hF (by rfl) (y_leq (by rfl) (by rfl)) ?_
  refine WS_nil ?_
  refine Then_normal ?_
  refine W_cond (by rfl) (fun c3 => ?_) (fun c3 => ?_)
  ·
    try simp only [Bool.not_eq_true', Bool.not_eq_false', decide_eq_true_eq, decide_eq_false_iff_not, ne_eq, Classical.not_not, Int.not_lt, Int.not_le] at c3
    obtain ⟨v, hv⟩ : ∃ v : Nat, l.start.lo + (c : Int) = (v : Int) := Int.eq_ofNat_of_zero_le (by omega)
    have hst2 : splice (iRow (stF l.start.lo c) (F + 1)) (0 + v * 1) [.int .i64 0] = iRow (stF l.start.lo (c + 1)) (F + 1) := by
      rw [Nat.zero_add]
      refine rowOf_splice (enc := iEnc) (sz := 1) ii_len (by omega) ?_ fun j hj hne => ?_
      · unfold stF iEnc; rw [if_pos (by omega)]
      · unfold stF
        by_cases h1 : l.start.lo ≤ (j : Int) ∧ (j : Int) < l.start.lo + (c : Int)
        · rw [if_pos h1, if_pos (by omega)]
        · rw [if_neg h1, if_neg (by omega)]
    refine W_skip ?_
    refine Then_normal ?_
    refine W_seq ?_
    refine W_block ?_
    refine W_region_lit (fun ds => ?_)
    refine WS_det hF (by rfl) (y_load1 (by rfl) Try.isAgg22 (Mem.own1 0 (by rfl) (by rfl))) ?_
    refine WS_det hF (by rfl) (y_move (c := .int .i64 _) (by rfl)) ?_
    refine WS_det hF (by rfl) (y_index (k := v) (by rfl) (by rfl) (by first | rfl | omega) (by first | decide | omega) Try.runUnderlying22 Try.sizeOf3) ?_
    refine WS_store hF (i := 1) (by rfl) (by rfl) Try.sizeOf3 (by rfl) (by rfl) (by rfl) (by show 0 + v * 1 + 1 ≤ (iRow (stF l.start.lo c) (F + 1)).length; rw [rowOf_len ii_len]; omega) ?_
    refine WS_nil ?_
    refine InB_normal ?_
    refine Then_normal ?_
    refine W_region_lit (fun ds => ?_)
    refine WS_det hF (by rfl) (y_move (c := .int .i64 _) (by rfl)) ?_
    refine WS_det hF (by rfl) (y_add (by rfl) (by rfl) (by unfold I64; omega)) ?_
    refine WS_det hF (by rfl) (y_assign (c := .int .i64 _) (by rfl)) ?_
    refine WS_nil ?_
    exact Loop_next (c + 1) (by omega) (by repeat (first | exact trivial | refine ⟨by rfl, ?_⟩ | refine ⟨congrArg (Value.int _) (by first | omega | (simp only; omega) | (push_cast; omega)), ?_⟩)) (by rw [← hst2]; exact List.Sublist.refl _) (by omega)
  ·
    try simp only [Bool.not_eq_true', Bool.not_eq_false', decide_eq_true_eq, decide_eq_false_iff_not, ne_eq, Classical.not_not, Int.not_lt, Int.not_le] at c3
    refine W_exit ?_
    refine Then_exit ?_
    refine Loop_exit ?_
    refine InB_same ?_
    refine Then_normal ?_
    refine W_seq ?_
    have hc2 : iRow (stF l.start.lo c) (F + 1) = iRow (l.bestK F sign 0) (F + 1) := rowOf_congr _ fun j hj => by
      show stF _ _ _ = l.best0 j
      unfold stF Lg.best0
      by_cases h1 : l.start.lo ≤ (j : Int) ∧ (j : Int) ≤ l.start.hi
      · rw [if_pos h1, if_pos (by omega)]
      · rw [if_neg h1, if_neg (by omega)]
    refine W_region_lit (fun ds => ?_)
    refine WS_det hF (by rfl) (y_makeFuncL (by rfl) (by rfl)) ?_
    refine WS_det hF (by rfl) (y_assign (c := _) (by rfl)) ?_
    refine WS_nil ?_
    refine Then_normal ?_
    refine W_seq ?_
    refine W_seq ?_
    refine W_region_lit (fun ds => ?_)
    refine WS_det hF (by rfl) (y_load1 (by rfl) Try.isAgg123 (Mem.own1 2 (by rfl) (by rfl))) ?_
    refine WS_det hF (by rfl) (by first | exact y_nilCheck (by rfl) | exact y_nilCheckF (by rfl)) ?_
    refine WS_det hF (by rfl) (y_fieldAddr (by rfl) fa127_0) ?_
    refine WS_det hF (by rfl) (y_load1 (by rfl) Try.isAgg108 (by first | exact Mem.old1 (by assumption) | exact Mem.oldAt1 (by assumption) (by rfl) | exact Mem.old (by assumption) | exact Mem.oldAtL1 (by assumption) (by rfl) (by rfl))) ?_
    refine WS_det hF (by rfl) (by first | exact y_nilCheck (by rfl) | exact y_nilCheckF (by rfl)) ?_
    refine WS_det hF (by rfl) (y_fieldAddr (by rfl) fa119_1) ?_
    refine WS_det hF (by rfl) (y_fieldAddr (by rfl) fa46_2) ?_
    refine WS_det hF (by rfl) (y_load1 (by rfl) Try.isAgg44 (by first | exact Mem.old1 (by assumption) | exact Mem.oldAt1 (by assumption) (by rfl) | exact Mem.old (by assumption) | exact Mem.oldAtL1 (by assumption) (by rfl) (by rfl))) ?_
    refine WS_det hF (by rfl) (y_len (by rfl) Try.runUnderlying44) ?_
    refine WS_det hF (by rfl) (y_move (c := .int .i64 _) (by rfl)) ?_
    refine WS_nil ?_
    refine Then_normal ?_
    refine W_block ?_
    refine W_loop (γ := Nat × Nat) (fun p => p.1 ≤ l.es.length) (fun p => [(1, .int .i64 sign), (2, .pointer (some ⟨b1, 0, none⟩)), (5, .pointer (some ⟨pb, 0, none⟩)), (7, .func (.func 132) #[] #[.pointer (some ⟨b1, 0, none⟩), .pointer (some ⟨pb, 0, none⟩)]), (58, .slice ae l.es.length cape), (59, .int .i64 (l.es.length : Int)), (60, .int .i64 (p.1 : Int))]) (fun p => [(pb, CB [.slice (some ⟨p.2, 0, none⟩) (F + 1) (F + 1)] 22), (p.2, CB (iRow (l.bestK F sign p.1) (F + 1)) 3), (b1, CB [.pointer (some ⟨kb, 0, none⟩)] 123)]) (fun p => l.es.length - p.1) ((0, ob)) (Nat.zero_le _) (by repeat (first | exact trivial | refine ⟨by rfl, ?_⟩)) ((by rw [← hc2]; exact List.Sublist.refl _)) ?_
    rintro ⟨k, oc⟩ e hk
    refine W_seq ?_
    refine W_region_lit (fun ds => ?_)
    refine WS_det hF (by rfl) (y_lss (by rfl) (by rfl)) ?_
    refine WS_nil ?_
    refine Then_normal ?_
    refine W_seq ?_
    refine W_cond (by rfl) (fun c8 => ?_) (fun c8 => ?_)
    ·
      try simp only [Bool.not_eq_true', Bool.not_eq_false', decide_eq_true_eq, decide_eq_false_iff_not, ne_eq, Classical.not_not, Int.not_lt, Int.not_le] at c8
      have hkn : k < l.es.length := by omega
      obtain ⟨b, o, rfl, hce⟩ := he.cell k hkn
      change At w b _ (l.e k).cells at hce
      have hdr := hok.drip_bd hkn
      have hkd := hok.kind k hkn
      have hsz := hok.sm hkn
      have hsz2 := hsz
      unfold Sn.Sm at hsz2
      have hsmd : (⟨-l.drip k, 0⟩ : Sn).Sm := by unfold Sn.Sm; simp only; omega
      have hb0 := l.best_bd (F := F) hF6 hsg k
      have hb1 : ∀ j, j ≤ F → never ≤ mv F (-l.drip k) 0 sign (l.bestK F sign k) j ∧ mv F (-l.drip k) 0 sign (l.bestK F sign k) j ≤ 600 * (k : Int) + 600 := fun j hj => mv_bd hF6 hsg (by omega) hb0 j hj
      refine W_skip ?_
      refine Then_normal ?_
      refine W_seq ?_
      refine W_block ?_
      refine W_seq ?_
      refine W_region_lit (fun ds => ?_)
      refine WS_det hF (by rfl) (y_move (c := .int .i64 _) (by rfl)) ?_
      refine WS_det hF (by rfl) (y_index (k := k) (by rfl) (by rfl) (by first | rfl | omega) (by first | decide | omega) Try.runUnderlying44 Try.sizeOf48) ?_
      refine WS_det hF (by rfl) (y_loadN (by rfl) Try.isAgg48 Try.sizeOf48 (by first | exact Mem.old (by assumption) | exact Mem.oldAt (us := [.int .i64 _, .int .i64 _, .int .i64 _, .int .i64 _]) (by assumption) (by rfl) | exact Mem.oldAtL (us := [.int .i64 _, .int .i64 _, .int .i64 _, .int .i64 _]) (by assumption) (by rfl) (by rfl)) (by rfl)) ?_
      refine WS_new hF (by rfl) (y_alloc Try.zeroValue48 (by rfl)) (fun be => ?_)
      refine WS_det hF (by rfl) (y_assign (c := .int .i64 _) (by rfl)) ?_
      refine WS_store hF (i := 0) (by rfl) (by rfl) Try.sizeOf48 (by rfl) (by rfl) (by rfl) (by first | decide | exact Nat.le_of_ble_eq_true rfl | simp) ?_
      refine WS_nil ?_
      refine Then_normal ?_
      refine W_seq ?_
      refine W_region_lit (fun ds => ?_)
      refine WS_det hF (by rfl) (y_move (c := _) (by rfl)) ?_
      refine WS_det hF (by rfl) (y_load1 (by rfl) Try.isAgg123 (Mem.own1 3 (by rfl) (by rfl))) ?_
      refine WS_det hF (by rfl) (by first | exact y_nilCheck (by rfl) | exact y_nilCheckF (by rfl)) ?_
      refine WS_det hF (by rfl) (y_fieldAddr (by rfl) fa127_0) ?_
      refine WS_det hF (by rfl) (y_load1 (by rfl) Try.isAgg108 (by first | exact Mem.old1 (by assumption) | exact Mem.oldAt1 (by assumption) (by rfl) | exact Mem.old (by assumption) | exact Mem.oldAtL1 (by assumption) (by rfl) (by rfl))) ?_
      refine WS_det hF (by rfl) (y_move (c := .int .i64 _) (by rfl)) ?_
      refine WS_det hF (by rfl) (y_callL (by rfl) (by rfl) Try.call111 (fun w hw => drip_any bk l k w (hB.st w hw) hkn)) ?_
      refine WS_det hF (by rfl) (y_neg (by rfl) (by unfold I64; omega)) ?_
      refine WS_det hF (by rfl) (y_buildL bd26_0 (by rfl)) ?_
      refine WS_det hF (by rfl) (y_move (c := .int .i64 _) (by rfl)) ?_
      refine WS_sub ((SubP.hsub (SubP.pick 1 (by rfl) (SubP.pick 1 (by rfl) (SubP.pick 1 (by rfl) (SubP.pick 0 (by rfl) (SubP.nil))))))) ?_
      refine WS_callS hF (by rfl) (by rfl) (by rfl) Try.call132 (moves_cs _ _ _ b1 pb oc kb F l ⟨-l.drip k, 0⟩ sign (600 * (k : Int)) (l.bestK F sign k) _ hK0 hFu hsg hsmd hb0 (by omega) (by omega)) ?_
      rintro v0 _ ⟨od, rfl⟩
      refine WS_nil ?_
      refine Then_normal ?_
      refine W_seq ?_
      refine W_region_lit (fun ds => ?_)
      refine WS_det hF (by rfl) (y_fieldAddr (by rfl) fa48_1) ?_
      refine WS_det hF (by rfl) (y_load1 (by rfl) Try.isAgg3 (Mem.own1 3 (by rfl) (by rfl))) ?_
      refine WS_nil ?_
      refine Then_normal ?_
      refine W_block ?_
      refine W_seq ?_
      refine W_region_lit (fun ds => ?_)
      refine WS_det hF (by rfl) (y_eql (by rfl) (by rfl)) ?_
      refine WS_det hF (by rfl) (y_assign (c := .bool _) (by rfl)) ?_
      refine WS_nil ?_
      refine Then_normal ?_
      refine W_cond (by rfl) (fun c19 => ?_) (fun c19 => ?_)
      ·
        try simp only [Bool.not_eq_true', Bool.not_eq_false', decide_eq_true_eq, decide_eq_false_iff_not, ne_eq, Classical.not_not, Int.not_lt, Int.not_le] at c19
        refine W_region_lit (fun ds => ?_)
        refine WS_det hF (by rfl) (y_move (c := _) (by rfl)) ?_
        refine WS_det hF (by rfl) (y_fieldAddr (by rfl) fa48_2) ?_
        refine WS_det hF (by rfl) (y_loadN (by rfl) Try.isAgg26 Try.sizeOf26 (Mem.own (us := [.int .i64 _, .int .i64 _]) 3 (by rfl) (by rfl)) (by rfl)) ?_
        refine WS_callS hF (by rfl) (by rfl) (by rfl) Try.call132 (moves_cs _ _ _ b1 pb od kb F l (l.e k).size 0 (600 * (k : Int) + 600) (mv F (-l.drip k) 0 sign (l.bestK F sign k)) _ hK0 hFu (.inr (.inl rfl)) hsz hb1 (by omega) (by omega)) ?_
        rintro v1 _ ⟨oz, rfl⟩
        have hnx : mv F (l.e k).size.lo (l.e k).size.hi 0 (mv F (-l.drip k) 0 sign (l.bestK F sign k)) = l.bestK F sign (k + 1) := by
          show _ = l.bstep F sign k (l.bestK F sign k)
          unfold Lg.bstep
          rw [if_pos (by omega)]
        refine WS_nil ?_
        refine InB_normal ?_
        refine InB_normal ?_
        refine Then_normal ?_
        refine W_region_lit (fun ds => ?_)
        refine WS_det hF (by rfl) (y_add (by rfl) (by rfl) (by unfold I64; omega)) ?_
        refine WS_det hF (by rfl) (y_move (c := .int .i64 _) (by rfl)) ?_
        refine WS_nil ?_
        exact Loop_next (k + 1, oz) (by omega) (by repeat (first | exact trivial | refine ⟨by rfl, ?_⟩)) (by rw [← hnx]; exact (by repeat (first | exact List.Sublist.refl _ | exact List.nil_sublist _ | apply List.Sublist.cons_cons | apply List.Sublist.cons))) (by simp only; omega)
      ·
        try simp only [Bool.not_eq_true', Bool.not_eq_false', decide_eq_true_eq, decide_eq_false_iff_not, ne_eq, Classical.not_not, Int.not_lt, Int.not_le] at c19
        refine W_seq ?_
        refine W_region_lit (fun ds => ?_)
        refine WS_det hF (by rfl) (y_eql (by rfl) (by rfl)) ?_
        refine WS_det hF (by rfl) (y_assign (c := .bool _) (by rfl)) ?_
        refine WS_nil ?_
        refine Then_normal ?_
        refine W_cond (by rfl) (fun c21 => ?_) (fun c21 => ?_)
        ·
          try simp only [Bool.not_eq_true', Bool.not_eq_false', decide_eq_true_eq, decide_eq_false_iff_not, ne_eq, Classical.not_not, Int.not_lt, Int.not_le] at c21
          refine W_region_lit (fun ds => ?_)
          refine WS_det hF (by rfl) (y_move (c := _) (by rfl)) ?_
          refine WS_det hF (by rfl) (y_fieldAddr (by rfl) fa48_2) ?_
          refine WS_det hF (by rfl) (y_fieldAddr (by rfl) fa26_1) ?_
          refine WS_det hF (by rfl) (y_load1 (by rfl) Try.isAgg3 (Mem.own1 3 (by rfl) (by rfl))) ?_
          refine WS_det hF (by rfl) (y_neg (by rfl) (by unfold I64; omega)) ?_
          refine WS_det hF (by rfl) (y_fieldAddr (by rfl) fa48_2) ?_
          refine WS_det hF (by rfl) (y_fieldAddr (by rfl) fa26_0) ?_
          refine WS_det hF (by rfl) (y_load1 (by rfl) Try.isAgg3 (Mem.own1 3 (by rfl) (by rfl))) ?_
          refine WS_det hF (by rfl) (y_neg (by rfl) (by unfold I64; omega)) ?_
          refine WS_det hF (by rfl) (y_buildL bd26_0_1 (by rfl)) ?_
          refine WS_callS hF (by rfl) (by rfl) (by rfl) Try.call132 (moves_cs _ _ _ b1 pb od kb F l ⟨-(l.e k).size.hi, -(l.e k).size.lo⟩ 0 (600 * (k : Int) + 600) (mv F (-l.drip k) 0 sign (l.bestK F sign k)) _ hK0 hFu (.inr (.inl rfl)) (by unfold Sn.Sm at hsz ⊢; simp only; omega) hb1 (by omega) (by omega)) ?_
          rintro v1 _ ⟨oz, rfl⟩
          have hnx : mv F (-(l.e k).size.hi) (-(l.e k).size.lo) 0 (mv F (-l.drip k) 0 sign (l.bestK F sign k)) = l.bestK F sign (k + 1) := by
            show _ = l.bstep F sign k (l.bestK F sign k)
            unfold Lg.bstep
            rw [if_neg (by omega), if_pos (by omega)]
          refine WS_nil ?_
          refine InB_normal ?_
          refine InB_normal ?_
          refine Then_normal ?_
          refine W_region_lit (fun ds => ?_)
          refine WS_det hF (by rfl) (y_add (by rfl) (by rfl) (by unfold I64; omega)) ?_
          refine WS_det hF (by rfl) (y_move (c := .int .i64 _) (by rfl)) ?_
          refine WS_nil ?_
          exact Loop_next (k + 1, oz) (by omega) (by repeat (first | exact trivial | refine ⟨by rfl, ?_⟩)) (by rw [← hnx]; exact (by repeat (first | exact List.Sublist.refl _ | exact List.nil_sublist _ | apply List.Sublist.cons_cons | apply List.Sublist.cons))) (by simp only; omega)
        ·
          try simp only [Bool.not_eq_true', Bool.not_eq_false', decide_eq_true_eq, decide_eq_false_iff_not, ne_eq, Classical.not_not, Int.not_lt, Int.not_le] at c21
          refine W_seq ?_
          have hk3 : (l.e k).kind = 3 := by omega
          have hq2 := Sn.inB_iff.1 (hok.size k hkn)
          unfold Tk.most at hq2
          rw [if_pos hk3] at hq2
          refine W_draw0 hF Trymixed [10] (by decide +kernel) (fun ds => ?_)
          refine P_det (by rfl) (Over_nil (y_load1 (by rfl) Try.isAgg123 (Mem.own1 2 (by rfl) (by rfl)))) ?_
          refine P_det (by rfl) (Over_nil (by first | exact y_nilCheck (by rfl) | exact y_nilCheckF (by rfl))) ?_
          refine P_det (by rfl) (Over_nil (y_fieldAddr (by rfl) fa127_0)) ?_
          refine P_det (by rfl) (Over_nil (y_load1 (by rfl) Try.isAgg108 (by first | exact Mem.old1 (by assumption) | exact Mem.oldAt1 (by assumption) (by rfl) | exact Mem.old (by assumption) | exact Mem.oldAtL1 (by assumption) (by rfl) (by rfl)))) ?_
          refine P_det (by rfl) (Over_nil (by first | exact y_nilCheck (by rfl) | exact y_nilCheckF (by rfl))) ?_
          refine P_det (by rfl) (Over_nil (y_fieldAddr (by rfl) fa119_0)) ?_
          refine P_det (by rfl) (Over_nil (y_load1 (by rfl) Try.isAgg93 (by first | exact Mem.old1 (by assumption) | exact Mem.oldAt1 (by assumption) (by rfl) | exact Mem.old (by assumption) | exact Mem.oldAtL1 (by assumption) (by rfl) (by rfl)))) ?_
          refine P_det (by rfl) (Over_nil (y_fieldAddr (by rfl) fa48_2)) ?_
          refine P_det (by rfl) (Over_nil (y_loadN (by rfl) Try.isAgg26 Try.sizeOf26 (Mem.own (us := [.int .i64 _, .int .i64 _]) 3 (by rfl) (by rfl)) (by rfl))) ?_
          refine P_det (by rfl) (Over_nil (y_callL (by rfl) (by rfl) Try.call73 (fun w hw => dip_any g 0 l.tk (l.e k).size.lo (l.e k).size.hi w (hG.st w hw) hq2.1 (by omega) (by omega) hq2.2.2))) ?_
          apply P_newS _ (by rfl) (by rfl) (by rfl) (Over_nil (y_alloc Try.zeroValue26 (by rfl)))
          refine P_st 10 0 (by rfl) (by rfl) (by rfl) (by rfl) (by rfl) (Over_nil (st_new (fun _ => by rfl) Try.sizeOf26 (by rfl) (by rfl) (by first | decide | exact Nat.le_of_ble_eq_true rfl | simp))) ?_
          refine PW_end (by rfl) ?_
          refine OverAll_cons (fun w10 l10 => ?_)
          refine OverAll_nil ?_
          rintro ⟨-, h10⟩
          obtain ⟨bd, rfl, rfl⟩ := h10
          refine Then_normal ?_
          refine W_seq ?_
          refine W_region_lit (fun ds => ?_)
          refine WS_det hF (by rfl) (y_load1 (by rfl) Try.isAgg22 (Mem.own1 1 (by rfl) (by rfl))) ?_
          refine WS_det hF (by rfl) (y_len (by rfl) Try.runUnderlying22) ?_
          refine WS_det hF (by rfl) (y_move (c := .int .i64 _) (by rfl)) ?_
          refine WS_nil ?_
          refine Then_normal ?_
          refine W_block ?_
          refine W_loop (γ := Nat) (fun j => j ≤ F + 1) (fun j => [(1, .int .i64 sign), (2, .pointer (some ⟨b1, 0, none⟩)), (5, .pointer (some ⟨pb, 0, none⟩)), (7, .func (.func 132) #[] #[.pointer (some ⟨b1, 0, none⟩), .pointer (some ⟨pb, 0, none⟩)]), (10, .pointer (some ⟨bd, 0, none⟩)), (58, .slice (some ⟨b, o, none⟩) l.es.length cape), (59, .int .i64 (l.es.length : Int)), (60, .int .i64 (k : Int)), (89, .int .i64 ((F + 1 : Nat) : Int)), (90, .int .i64 (j : Int))]) (fun j => [(bd, CB (l.tk.dip (l.e k).size).cells 26), (pb, CB [.slice (some ⟨od, 0, none⟩) (F + 1) (F + 1)] 22), (od, CB (iRow (dpF (l.tk.dip (l.e k).size) (mv F (-l.drip k) 0 sign (l.bestK F sign k)) j) (F + 1)) 3), (b1, CB [.pointer (some ⟨kb, 0, none⟩)] 123)]) (fun j => F + 1 - j) (0) (Nat.zero_le _) (by repeat (first | exact trivial | refine ⟨by rfl, ?_⟩)) ((by rw [show iRow (dpF (l.tk.dip (l.e k).size) (mv F (-l.drip k) 0 sign (l.bestK F sign k)) 0) (F + 1) = iRow (mv F (-l.drip k) 0 sign (l.bestK F sign k)) (F + 1) from rowOf_congr _ fun j hj => if_neg (by omega)]; exact (by repeat (first | exact List.Sublist.refl _ | exact List.nil_sublist _ | apply List.Sublist.cons_cons | apply List.Sublist.cons)))) ?_
          intro j e hj
          refine W_seq ?_
          refine W_region_lit (fun ds => ?_)
          refine WS_det hF (by rfl) (y_lss (by rfl) (by rfl)) ?_
          refine WS_nil ?_
          refine Then_normal ?_
          refine W_seq ?_
          refine W_cond (by rfl) (fun c14 => ?_) (fun c14 => ?_)
          ·
            try simp only [Bool.not_eq_true', Bool.not_eq_false', decide_eq_true_eq, decide_eq_false_iff_not, ne_eq, Classical.not_not, Int.not_lt, Int.not_le] at c14
            refine W_skip ?_
            refine Then_normal ?_
            refine W_seq ?_
            refine W_block ?_
            refine W_seq ?_
            refine W_region_lit (fun ds => ?_)
            refine WS_det hF (by rfl) (y_move (c := .int .i64 _) (by rfl)) ?_
            refine WS_det hF (by rfl) (y_assign (c := .int .i64 _) (by rfl)) ?_
            refine WS_nil ?_
            refine Then_normal ?_
            refine W_seq ?_
            refine W_region_lit (fun ds => ?_)
            refine WS_det hF (by rfl) (y_fieldAddr (by rfl) fa26_0) ?_
            refine WS_det hF (by rfl) (y_load1 (by rfl) Try.isAgg3 (Mem.own1 0 (by rfl) (by rfl))) ?_
            refine WS_det hF (by rfl) (y_fieldAddr (by rfl) fa26_1) ?_
            refine WS_det hF (by rfl) (y_load1 (by rfl) Try.isAgg3 (Mem.own1 0 (by rfl) (by rfl))) ?_
            refine WS_det hF (by rfl) (y_move (c := .int .i64 _) (by rfl)) ?_
            refine WS_newS hF (by rfl) (y_buildSliceL bs22_1_0 (by rfl)) (fun b3 => ?_)
            refine WS_det hF (by rfl) (y_callL (by rfl) (by rfl) Try.call65 (fun w hw => in_any _ _ _ _ _ _ w (by decide) (by first | exact Ints.one 0 rfl w hw | exact Ints.two 0 rfl w hw))) ?_
            refine WS_det hF (by rfl) (y_not (by rfl)) ?_
            refine WS_nil ?_
            refine Then_normal ?_
            refine W_cond (by rfl) (fun c16 => ?_) (fun c16 => ?_)
            ·
              try simp only [Bool.not_eq_true', Bool.not_eq_false', decide_eq_true_eq, decide_eq_false_iff_not, ne_eq, Classical.not_not, Int.not_lt, Int.not_le] at c16
              have hdx1 : splice (iRow (dpF (l.tk.dip (l.e k).size) (mv F (-l.drip k) 0 sign (l.bestK F sign k)) j) (F + 1)) (0 + j * 1) [.int .i64 never] = iRow (dpF (l.tk.dip (l.e k).size) (mv F (-l.drip k) 0 sign (l.bestK F sign k)) (j + 1)) (F + 1) := by
                rw [Nat.zero_add]
                refine rowOf_splice (enc := iEnc) (sz := 1) ii_len (by omega) ?_ fun i hi hne => ?_
                · unfold dpF dipF iEnc; rw [if_pos (by omega), if_neg (by rw [show inB (l.tk.dip (l.e k).size).lo (l.tk.dip (l.e k).size).hi [(j : Int)] = false from c16]; exact Bool.false_ne_true)]
                · unfold dpF
                  by_cases h1 : i < j
                  · rw [if_pos h1, if_pos (by omega)]
                  · rw [if_neg h1, if_neg (by omega)]
              refine W_region_lit (fun ds => ?_)
              refine WS_det hF (by rfl) (y_load1 (by rfl) Try.isAgg22 (Mem.own1 2 (by rfl) (by rfl))) ?_
              refine WS_det hF (by rfl) (y_move (c := .int .i64 _) (by rfl)) ?_
              refine WS_det hF (by rfl) (y_index (k := j) (by rfl) (by rfl) (by first | rfl | omega) (by first | decide | omega) Try.runUnderlying22 Try.sizeOf3) ?_
              refine WS_store hF (i := 3) (by rfl) (by rfl) Try.sizeOf3 (by rfl) (by rfl) (by rfl) (by show 0 + j * 1 + 1 ≤ (iRow (dpF (l.tk.dip (l.e k).size) (mv F (-l.drip k) 0 sign (l.bestK F sign k)) j) (F + 1)).length; rw [rowOf_len ii_len]; omega) ?_
              refine WS_nil ?_
              refine InB_normal ?_
              refine Then_normal ?_
              refine W_region_lit (fun ds => ?_)
              refine WS_det hF (by rfl) (y_add (by rfl) (by rfl) (by unfold I64; omega)) ?_
              refine WS_det hF (by rfl) (y_move (c := .int .i64 _) (by rfl)) ?_
              refine WS_nil ?_
              exact Loop_next (j + 1) (by omega) (by repeat (first | exact trivial | refine ⟨by rfl, ?_⟩)) (by rw [← hdx1]; exact (by repeat (first | exact List.Sublist.refl _ | exact List.nil_sublist _ | apply List.Sublist.cons_cons | apply List.Sublist.cons))) (by omega)
            ·
              try simp only [Bool.not_eq_true', Bool.not_eq_false', decide_eq_true_eq, decide_eq_false_iff_not, ne_eq, Classical.not_not, Int.not_lt, Int.not_le] at c16
              have hdx2 : iRow (dpF (l.tk.dip (l.e k).size) (mv F (-l.drip k) 0 sign (l.bestK F sign k)) j) (F + 1) = iRow (dpF (l.tk.dip (l.e k).size) (mv F (-l.drip k) 0 sign (l.bestK F sign k)) (j + 1)) (F + 1) := rowOf_congr _ fun i hi => by
                unfold dpF
                by_cases h1 : i < j
                · rw [if_pos h1, if_pos (by omega)]
                · rw [if_neg h1]
                  by_cases h2 : i = j
                  · subst h2; rw [if_pos (by omega)]; unfold dipF; rw [if_pos c16]
                  · rw [if_neg (by omega)]
              refine W_skip ?_
              refine InB_normal ?_
              refine Then_normal ?_
              refine W_region_lit (fun ds => ?_)
              refine WS_det hF (by rfl) (y_add (by rfl) (by rfl) (by unfold I64; omega)) ?_
              refine WS_det hF (by rfl) (y_move (c := .int .i64 _) (by rfl)) ?_
              refine WS_nil ?_
              exact Loop_next (j + 1) (by omega) (by repeat (first | exact trivial | refine ⟨by rfl, ?_⟩)) (by rw [← hdx2]; exact (by repeat (first | exact List.Sublist.refl _ | exact List.nil_sublist _ | apply List.Sublist.cons_cons | apply List.Sublist.cons))) (by omega)
          ·
            try simp only [Bool.not_eq_true', Bool.not_eq_false', decide_eq_true_eq, decide_eq_false_iff_not, ne_eq, Classical.not_not, Int.not_lt, Int.not_le] at c14
            have hnx3 : iRow (dpF (l.tk.dip (l.e k).size) (mv F (-l.drip k) 0 sign (l.bestK F sign k)) j) (F + 1) = iRow (l.bestK F sign (k + 1)) (F + 1) := rowOf_congr _ fun i hi => by
              show _ = l.bstep F sign k (l.bestK F sign k) i
              unfold Lg.bstep dpF
              rw [if_pos (show i < j by omega), if_neg (show ¬ (l.e k).kind = 1 by omega), if_neg (show ¬ (l.e k).kind = 2 by omega)]
            refine W_exit ?_
            refine Then_exit ?_
            refine Loop_exit ?_
            refine InB_same ?_
            refine InB_normal ?_
            refine InB_normal ?_
            refine Then_normal ?_
            refine W_region_lit (fun ds => ?_)
            refine WS_det hF (by rfl) (y_add (by rfl) (by rfl) (by unfold I64; omega)) ?_
            refine WS_det hF (by rfl) (y_move (c := .int .i64 _) (by rfl)) ?_
            refine WS_nil ?_
            exact Loop_next (k + 1, od) (by omega) (by repeat (first | exact trivial | refine ⟨by rfl, ?_⟩)) (by rw [← hnx3]; exact (by repeat (first | exact List.Sublist.refl _ | exact List.nil_sublist _ | apply List.Sublist.cons_cons | apply List.Sublist.cons))) (by simp only; omega)
    ·
      try simp only [Bool.not_eq_true', Bool.not_eq_false', decide_eq_true_eq, decide_eq_false_iff_not, ne_eq, Classical.not_not, Int.not_lt, Int.not_le] at c8
      refine W_exit ?_
      refine Then_exit ?_
      refine Loop_exit ?_
      refine InB_same ?_
      refine Then_normal ?_
      refine W_seq ?_
      refine W_region_lit (fun ds => ?_)
      refine WS_det hF (by rfl) (y_load1 (by rfl) Try.isAgg22 (Mem.own1 0 (by rfl) (by rfl))) ?_
      refine WS_det hF (by rfl) (y_callL (by rfl) (by rfl) Try.call133 (fun w hw => max_any oc (F + 1) (F + 1) (l.bestK F sign k) w (by omega) (by omega) (At.block0 (by repeat (first | exact List.mem_cons_self | apply List.mem_cons_of_mem)) w hw))) ?_
      refine WS_det hF (by rfl) (y_assign (c := .int .i64 _) (by rfl)) ?_
      refine WS_nil ?_
      refine Then_normal ?_
      refine W_ret ?_
      refine Fin_ret [.int .i64 _] [] Try.results114 ⟨by rfl, trivial⟩ HSub.nil ?_
      obtain rfl : k = l.es.length := by have : k ≤ l.es.length := hk; omega
      rfl
def Lg.leakedV (l : Lg) : Value := if l.aerr = 0 then .tuple #[.agg (Sn.cells ⟨-l.lostI (-1), l.lostI 1⟩).toArray, .int .i64 0] else .tuple #[.agg Sn.z.cells.toArray, .int .i64 l.aerr]
theorem maxN_bd {f : Nat → Int} {m : Int} (h0 : never ≤ f 0 ∧ f 0 ≤ m) : ∀ n, (∀ j, j < n → never ≤ f j ∧ f j ≤ m) → never ≤ maxN f n ∧ maxN f n ≤ m
  | 0, _ => h0
  | n + 1, h => by
    have h1 := maxN_bd h0 n fun j hj => h j (by omega)
    have h2 := h n (by omega)
    show never ≤ max _ _ ∧ max _ _ ≤ m
    omega
theorem Lg.lost_bd (l : Lg) (hok : l.Ok) {sg : Int} (hsg : sg = -1 ∨ sg = 0 ∨ sg = 1) : never ≤ l.lostI sg ∧ l.lostI sg ≤ 7200 := by
  have hfb := hok.tk.full_bd
  have h12 := hok.n12
  unfold Lg.lostI
  have h3 : ∀ j, j < l.tk.full.toNat + 1 → never ≤ l.bestK l.tk.full.toNat sg l.es.length j ∧ l.bestK l.tk.full.toNat sg l.es.length j ≤ 7200 := fun j hj => by
    have := l.best_bd (F := l.tk.full.toNat) (by omega) hsg l.es.length j (by omega)
    omega
  exact maxN_bd (h3 0 (by omega)) _ h3
theorem leaked_any (l : Lg) (a : Option Addr) (cap : Nat) (ae : Option Addr) (cape : Nat) (w : World) (hn : l.tk.n ≤ 1000000) (hx : Ints w a l.tk.n cap l.tk.pints) (he : Ens w ae l.es.length cape l.es) : Ct Try.prog 51 #[.agg #[.slice a l.tk.n cap, .int .i64 l.tk.leak, .int .i64 l.tk.foot, .int .i64 l.start.lo, .int .i64 l.start.hi, .slice ae l.es.length cape]] w fun v _ => v = l.leakedV := by
  have hF := wide_wide
  refine Ct_start (args := [_]) Try.func51 (by rfl) Try.ntmps51 (by rfl) ?_
  refine W_seq ?_
  refine W_region_lit (fun ds => ?_)
  refine WS_new hF (by rfl) (y_box (by rfl)) (fun b1 => ?_)
  refine WS_new hF (by rfl) (y_alloc Try.zeroValue26 (by rfl)) (fun b2 => ?_)
  refine WS_det hF (by rfl) (y_assign (c := .int .i64 _) (by rfl)) ?_
  refine WS_nil ?_
  refine Then_normal ?_
  refine W_seq ?_
  refine W_region_lit (fun ds => ?_)
  refine WS_det hF (by rfl) (y_loadN (by rfl) Try.isAgg46 Try.sizeOf46 (Mem.own (us := [.slice _ _ _, .int .i64 _, .int .i64 _, .int .i64 _, .int .i64 _, .slice _ _ _]) 1 (by rfl) (by rfl)) (by rfl)) ?_
  refine WS_gen hF (by rfl) (y_callL (by rfl) (by rfl) Try.call88 (fun w hw => asked_any l a cap ae cape w hn (hx.st w hw) (he.st w hw))) ?_
  rintro _ Hg ⟨p, rfl, hg1, hg2⟩
  refine WS_det hF (by rfl) (y_move (c := .tuple _) (by rfl)) ?_
  refine WS_det hF (by rfl) (y_extract (c := .pointer _) (by rfl) (by rfl)) ?_
  refine WS_det hF (by rfl) (y_extract (c := .int .i64 _) (by rfl) (by rfl)) ?_
  refine WS_det hF (by rfl) (y_assign (c := .pointer _) (by rfl)) ?_
  refine WS_det hF (by rfl) (y_assign (c := .int .i64 _) (by rfl)) ?_
  refine WS_nil ?_
  refine Then_normal ?_
  refine W_seq ?_
  refine W_seq ?_
  refine W_region_lit (fun ds => ?_)
  refine WS_det hF (by rfl) (y_move (c := .int .i64 _) (by rfl)) ?_
  refine WS_det hF (by rfl) (y_neq (by rfl) (by rfl)) ?_
  refine WS_nil ?_
  refine Then_normal ?_
  refine W_cond (by rfl) (fun c2 => ?_) (fun c2 => ?_)
  ·
    try simp only [Bool.not_eq_true', Bool.not_eq_false', decide_eq_true_eq, decide_eq_false_iff_not, ne_eq, Classical.not_not, Int.not_lt, Int.not_le] at c2
    obtain rfl := hg2 c2
    refine W_seq ?_
    refine W_region_lit (fun ds => ?_)
    refine WS_det hF (by rfl) (y_buildL bd26 (by rfl)) ?_
    refine WS_det hF (by rfl) (y_move (c := .int .i64 _) (by rfl)) ?_
    refine WS_store hF (i := 0) (by rfl) (by rfl) Try.sizeOf26 (by rfl) (by rfl) (by rfl) (by first | decide | exact Nat.le_of_ble_eq_true rfl | simp) ?_
    refine WS_det hF (by rfl) (y_assign (c := .int .i64 _) (by rfl)) ?_
    refine WS_nil ?_
    refine Then_normal ?_
    refine W_ret ?_
    refine Then_ret ?_
    refine Fin_ret [_, .int .i64 _] [] Try.results51 ⟨lvN (by rfl) Try.isAgg26 Try.sizeOf26 (Mem.own (us := [.int .i64 _, .int .i64 _]) 0 (by rfl) (by rfl)) (by rfl), by rfl, trivial⟩ HSub.nil ?_
    show Value.tuple _ = _
    unfold Lg.leakedV
    rw [if_neg c2]; rfl
  ·
    try simp only [Bool.not_eq_true', Bool.not_eq_false', decide_eq_true_eq, decide_eq_false_iff_not, ne_eq, Classical.not_not, Int.not_lt, Int.not_le] at c2
    obtain ⟨kb, rfl, bk, g, fb, capf, junk, ab, bb, rfl⟩ := hg1 c2
    have hok := l.ok_of (l.aerr0 c2).1
    have hne := (l.aerr0 c2).2
    have hfull := hok.tk.full_bd
    have hlb := hok.last_bd hne
    have h12 := hok.n12
    have hnv : never = -1099511627776 := rfl
    have hb1 := l.lost_bd hok (sg := -1) (.inl rfl)
    have hb2 := l.lost_bd hok (sg := 1) (.inr (.inr rfl))
    refine W_skip ?_
    refine Then_normal ?_
    refine W_seq ?_
    refine W_region_lit (fun ds => ?_)
    refine WS_det hF (by rfl) (y_move (c := .pointer _) (by rfl)) ?_
    refine WS_det hF (by rfl) (y_callL (by rfl) (by rfl) Try.call114 (fun w hw => lost2_any kb l (-1) w (Kn.own (a := a) (cap := cap) (ae := ae) (cape := cape) (bk := bk) (g := g) (fb := fb) (capf := capf) (junk := junk) (ab := ab) (bb := bb) (by unfold knBlocks; repeat (first | exact List.Sublist.refl _ | exact List.nil_sublist _ | apply List.Sublist.cons_cons | apply List.Sublist.cons)) c2 hx he w hw) (.inl rfl))) ?_
    refine WS_det hF (by rfl) (y_neg (by rfl) (by unfold I64; omega)) ?_
    refine WS_det hF (by rfl) (y_move (c := .pointer _) (by rfl)) ?_
    refine WS_det hF (by rfl) (y_callL (by rfl) (by rfl) Try.call114 (fun w hw => lost2_any kb l 1 w (Kn.own (a := a) (cap := cap) (ae := ae) (cape := cape) (bk := bk) (g := g) (fb := fb) (capf := capf) (junk := junk) (ab := ab) (bb := bb) (by unfold knBlocks; repeat (first | exact List.Sublist.refl _ | exact List.nil_sublist _ | apply List.Sublist.cons_cons | apply List.Sublist.cons)) c2 hx he w hw) (.inr (.inr rfl)))) ?_
    refine WS_det hF (by rfl) (y_buildL bd26_0_1 (by rfl)) ?_
    refine WS_store hF (i := 6) (by rfl) (by rfl) Try.sizeOf26 (by rfl) (by rfl) (by rfl) (by first | decide | exact Nat.le_of_ble_eq_true rfl | simp) ?_
    refine WS_det hF (by rfl) (y_assign (c := .int .i64 _) (by rfl)) ?_
    refine WS_nil ?_
    refine Then_normal ?_
    refine W_ret ?_
    refine Fin_ret [_, .int .i64 _] [] Try.results51 ⟨lvN (by rfl) Try.isAgg26 Try.sizeOf26 (Mem.own (us := [.int .i64 _, .int .i64 _]) 6 (by rfl) (by rfl)) (by rfl), by rfl, trivial⟩ HSub.nil ?_
    show Value.tuple _ = _
    unfold Lg.leakedV
    rw [if_pos c2]; rfl
end Go.Proofs.Ythkimgfgpphgnaa.T

/- The reference: what the tank holds, the first truth, what was moved, what leaks behind a time: the walks. -/
namespace Go.Proofs.Ythkimgfgpphgnaa.T
open Go.RowKit Go.Proofs Go.Eng
set_option maxRecDepth 100000
set_option linter.unusedVariables false
set_option linter.unusedSimpArgs false



end Go.Proofs.Ythkimgfgpphgnaa.T

/- The reference: sums that leak, arrays of 601 spans: the walks of nothing, with and passed. -/
namespace Go.Proofs.Ythkimgfgpphgnaa.T
open Go.RowKit Go.Proofs Go.Eng
set_option maxRecDepth 100000
set_option linter.unusedVariables false
set_option linter.unusedSimpArgs false



def Sn.no : Sn := ⟨1, 0⟩
def noF (c j : Nat) : Sn := if j < c then Sn.no else Sn.z
def Sn.wth (s way : Sn) : Sn := if s.hi < s.lo then way else ⟨min s.lo way.lo, max s.hi way.hi⟩
def cw (cb : Bool) (x : Int) : Int := if cb = true then x else 0
def psN (S : Nat → Sn) (lo hi : Int) (v : Nat) : Nat := if (S v).hi < (S v).lo then 0 else (hi - lo + 1).toNat
def psI (S : Nat → Sn) (F : Nat) (cb : Bool) (lo : Int) (v c : Nat) (out : Nat → Sn) (t : Nat) : Sn :=
  if lo ≤ (t : Int) - (v : Int) ∧ (t : Int) - (v : Int) < lo + (c : Int) ∧ t ≤ F then (out t).wth ⟨(S v).lo - cw cb ((t : Int) - (v : Int)), (S v).hi - cw cb ((t : Int) - (v : Int))⟩ else out t
def psO (S : Nat → Sn) (F : Nat) (cb : Bool) (lo hi : Int) : Nat → Nat → Sn
  | 0 => fun _ => Sn.no
  | v + 1 => psI S F cb lo v (psN S lo hi v) (psO S F cb lo hi v)
end Go.Proofs.Ythkimgfgpphgnaa.T

/- The reference: sums that leak: what the arrays say of the least and the greatest sums; plain facts. -/
namespace Go.Proofs.Ythkimgfgpphgnaa.T
open Go.RowKit Go.Proofs Go.Eng
set_option maxRecDepth 100000
set_option linter.unusedVariables false
set_option linter.unusedSimpArgs false

theorem never_eq : never = -1099511627776 := rfl
/-- A span of sums, the greatest sum, and the least one turned round. -/
def Rep (M : Int) (s : Sn) (p m : Int) : Prop := (s = Sn.no ∧ p ≤ never + M ∧ m ≤ never + M) ∨ (0 ≤ s.lo ∧ s.lo ≤ s.hi ∧ s.hi ≤ M ∧ p = s.hi ∧ m = -s.lo)
theorem Rep.wth {M : Int} {a b : Sn} {p m q r : Int} (hM : M ≤ 1000000) (h : Rep M a p m) (h0 : 0 ≤ b.lo) (h1 : b.lo ≤ b.hi) (h2 : b.hi ≤ M) (hq : q = b.hi) (hr : r = -b.lo) : Rep M (a.wth b) (max p q) (max m r) := by
  have hn := never_eq
  subst hq hr
  refine .inr ?_
  unfold Sn.wth
  obtain ⟨rfl, hp, hm⟩ | ⟨g0, g1, g2, rfl, rfl⟩ := h
  · rw [if_pos (by decide)]; omega
  · rw [if_neg (by omega)]; refine ⟨?_, ?_, ?_, ?_, ?_⟩ <;> simp only <;> omega
theorem Rep.skip {M : Int} {a : Sn} {p m q r : Int} (hM : M ≤ 1000000) (h : Rep M a p m) (hq : q ≤ never + M) (hr : r ≤ never + M) : Rep M a (max p q) (max m r) := by
  have hn := never_eq
  obtain ⟨rfl, hp, hm⟩ | ⟨g0, g1, g2, rfl, rfl⟩ := h
  · exact .inl ⟨rfl, by omega, by omega⟩
  · exact .inr ⟨g0, g1, g2, by omega, by omega⟩
theorem Rep.mono {M N : Int} {a : Sn} {p m : Int} (h : Rep M a p m) (hMN : M ≤ N) : Rep N a p m := by
  obtain ⟨rfl, hp, hm⟩ | ⟨g0, g1, g2, g3, g4⟩ := h
  · exact .inl ⟨rfl, by omega, by omega⟩
  · exact .inr ⟨g0, g1, by omega, g3, g4⟩
theorem Rep.bd {M : Int} {a : Sn} {p m : Int} (h : Rep M a p m) (hM : 0 ≤ M ∧ M ≤ 1000000) : 0 ≤ a.lo ∧ a.lo ≤ 1000000 ∧ 0 ≤ a.hi ∧ a.hi ≤ 1000000 := by
  obtain ⟨rfl, hp, hm⟩ | ⟨g0, g1, g2, g3, g4⟩ := h
  · decide
  · omega
def wmx (g : Nat → Int) (a n : Nat) : Nat → Int
  | 0 => never
  | V + 1 => if a ≤ V ∧ V < a + n then max (wmx g a n V) (g V) else wmx g a n V
/-! ### The sums of a log, time by time -/
def stS (lo : Int) (c t : Nat) : Sn := if lo ≤ (t : Int) ∧ (t : Int) < lo + (c : Int) then Sn.z else Sn.no
def Lg.sum0 (l : Lg) (t : Nat) : Sn := if l.start.lo ≤ (t : Int) ∧ (t : Int) ≤ l.start.hi then Sn.z else Sn.no
def Lg.sum1 (l : Lg) (F k : Nat) (S : Nat → Sn) : Nat → Sn := if 0 < k then psO S F true (-(min (F : Int) (l.drip k))) 0 (F + 1) else S
def dpS (d : Sn) (S : Nat → Sn) (j t : Nat) : Sn := if t < j ∧ inB d.lo d.hi [(t : Int)] = false then Sn.no else S t
def Lg.sum2 (l : Lg) (F k : Nat) (S : Nat → Sn) : Nat → Sn :=
  if (l.e k).kind = 1 then psO S F false (l.e k).size.lo (l.e k).size.hi (F + 1)
  else if (l.e k).kind = 2 then psO S F false (-(l.e k).size.hi) (-(l.e k).size.lo) (F + 1)
  else dpS (l.tk.dip (l.e k).size) S (F + 1)
def Lg.sumK (l : Lg) (F : Nat) : Nat → Nat → Sn
  | 0 => l.sum0
  | k + 1 => l.sum2 F k (l.sum1 F k (l.sumK F k))
def outS (S : Nat → Sn) : Nat → Sn
  | 0 => Sn.no
  | V + 1 => if (S V).hi < (S V).lo then outS S V else (outS S V).wth (S V)
end Go.Proofs.Ythkimgfgpphgnaa.T

/- The reference: sums that leak: the walk. -/
namespace Go.Proofs.Ythkimgfgpphgnaa.T
open Go.RowKit Go.Proofs Go.Eng
set_option maxRecDepth 100000
set_option maxHeartbeats 800000
set_option linter.unusedVariables false
set_option linter.unusedSimpArgs false



end Go.Proofs.Ythkimgfgpphgnaa.T

/- Maps whose keys are integers, as lists of entries. No project text. -/
namespace Go.Eng
open Go.RowKit
/-- A key, its value, and when it was born. -/
abbrev Ent := Int × Value × Nat
def mEnt (x : Ent) : MapEntry := { key := .int .i64 x.1, val := x.2.1, born := x.2.2 }
def MO (l : List Ent) (clock : Nat) : Obj := .map (l.map mEnt).toArray clock
def hasK (k : Int) (x : Ent) : Bool := x.1 == k
theorem findNow_ent (k : Int) : ∀ (l : List Ent) (i : Nat), ∃ r, Instr.findNow (.int .i64) (.int .i64 k) (l.map mEnt) i = some r ∧ r.map Prod.snd = (l.find? (hasK k)).map (·.2.1) ∧ (r = none → l.eraseP (hasK k) = l) ∧ ∀ j v, r = some (j, v) → i ≤ j ∧ l.eraseIdx (j - i) = l.eraseP (hasK k)
  | [], i => ⟨none, rfl, rfl, fun _ => rfl, fun _ _ h => by cases h⟩
  | x :: l, i => by
    obtain ⟨r, h1, h2, h3, h4⟩ := findNow_ent k l (i + 1)
    by_cases hk : x.1 = k
    · refine ⟨some (i, x.2.1), ?_, ?_, (fun h => by cases h), fun j v h => ?_⟩
      · simp [Instr.findNow, mEnt, Instr.sameNow, hk]
      · simp [hasK, hk]
      · cases h
        refine ⟨Nat.le_refl _, ?_⟩
        rw [Nat.sub_self]
        simp [hasK, hk]
    · refine ⟨r, ?_, ?_, fun h => ?_, fun j v h => ?_⟩
      · have hk' : ¬ k = x.1 := fun h => hk h.symm
        have hkb : (k == x.1) = false := by simp [hk']
        simp only [List.map_cons, Instr.findNow, mEnt, Instr.sameNow, if_true, hkb]
        exact h1
      · simp [hasK, hk] at h2 ⊢; exact h2
      · have := h3 h
        have hxb : hasK k x = false := by simp [hasK, hk]
        rw [List.eraseP_cons, hxb, cond_false, this]
      · obtain ⟨h5, h6⟩ := h4 j v h
        refine ⟨by omega, ?_⟩
        obtain ⟨m, hm⟩ : ∃ m, j - i = m + 1 := ⟨j - i - 1, by omega⟩
        rw [hm, List.eraseIdx_cons_succ, show m = j - (i + 1) by omega, h6]
        simp [hasK, hk]
theorem map_eraseIdx {α β : Type} (f : α → β) : ∀ (l : List α) (j : Nat), (l.eraseIdx j).map f = (l.map f).eraseIdx j
  | [], _ => by simp
  | _ :: _, 0 => rfl
  | x :: l, j + 1 => by simp [map_eraseIdx f l j]
section
variable {C : Ctx} {F : Fence} {n : Nat} {ds : List Deferred} {all : Array Oper} {Q : Exit → Env → List Blk → Prop} {rest : List Oper} {e : Env} {H : List Blk}
variable {d : Option Tmp} {ty : TypeId} {pos : String} {af : Array Edge} {g : Option (Nat × Bool)}
def NewMap (v : Value) (Hn : List Blk) : Prop := ∃ b, v = .map (some b) ∧ Hn = [(b, MO [] 0)]
theorem y_makeMap {T : TypeId} : YR C ⟨d, .makeMap T none, ty, pos, af, g⟩ e H NewMap := fun w _ => by
  have : (execOp (ev e) ⟨d, .makeMap T none, ty, pos, af, g⟩).run C.P w = .ok (.value (.map (some w.heap.size))) (w.alloc (MO [] 0)) := by
    simp [execOp, Instr.makeMap, newObj, MO]; rfl
  rw [this]; exact out_new (fun h => by cases h) ⟨_, rfl, rfl⟩
theorem WS_newM (hF : Wide F) {o : Oper} (hc : chk n all e o = true) (hy : YR C o e H NewMap) (hk : ∀ b, WS C F n ds all Q rest (updo e o.dst (.map (some b))) ((b, MO [] 0) :: H)) : WS C F n ds all Q (o :: rest) e H :=
  WS_gen hF hc hy fun v Hn hr => by
    obtain ⟨b, rfl, rfl⟩ := hr
    exact hk b
theorem run_mapUpd {P : Program} {w : World} {T kT eT : TypeId} {b clock : Nat} {l : List Ent} {k : Int} {v : Value} (hT : P.underlying T = some (.map kT eT)) (hk : P.underlying kT = some (.int .i64)) (hb : w.heap[b]? = some (MO l clock)) (hn : l.find? (hasK k) = none) :
    (Instr.mapUpdate T (.map (some b)) (.int .i64 k) v).run P w = .ok () (w.putObj b (MO (l ++ [(k, v, clock)]) (clock + 1))) := by
  obtain ⟨r, h1, h2, _, _⟩ := findNow_ent k l 0
  rw [hn] at h2
  have hr : r = none := by cases r <;> simp_all
  subst hr
  have hkey : MapKept.IsKey (.int .i64) (.int .i64 k) := rfl
  have hf := MapKept.run_findKey (P := P) (w := w) hk h1
  have hb' : w.heap[b]? = some (.map (l.map mEnt).toArray clock) := hb
  have h3 : MO (l ++ [(k, v, clock)]) (clock + 1) = .map ((l.map mEnt).toArray.push (mEnt (k, v, clock))) (clock + 1) := by unfold MO; simp
  rw [h3]
  simp [Instr.mapUpdate, run_underlying hT, MapKept.run_getObj_map hb', MapKept.run_checkKey hk hkey, hf, MapKept.run_setObj_map _ hb', Result.andThen]
  rfl
theorem run_delete {P : Program} {w : World} {T kT eT : TypeId} {b clock : Nat} {l : List Ent} {k : Int} (hT : P.underlying T = some (.map kT eT)) (hk : P.underlying kT = some (.int .i64)) (hb : w.heap[b]? = some (MO l clock)) :
    (Builtin.delete_ #[T, kT] ty #[.map (some b), .int .i64 k]).run P w = .ok (.tuple #[]) (w.putObj b (MO (l.eraseP (hasK k)) clock)) := by
  obtain ⟨r, h1, _, h3, h4⟩ := findNow_ent k l 0
  have hkey : MapKept.IsKey (.int .i64) (.int .i64 k) := rfl
  have hf := MapKept.run_findKey (P := P) (w := w) hk h1
  have hb' : w.heap[b]? = some (.map (l.map mEnt).toArray clock) := hb
  cases r with
  | none =>
    rw [h3 rfl]
    simp [Builtin.delete_, run_underlying hT, MapKept.run_getObj_map hb', MapKept.run_checkKey hk hkey, hf, MapKept.run_setObj_map _ hb', Result.andThen]
    rfl
  | some p =>
    obtain ⟨j, v⟩ := p
    obtain ⟨_, h5⟩ := h4 j v rfl
    rw [Nat.sub_zero] at h5
    have h6 : MO (l.eraseP (hasK k)) clock = .map ((l.map mEnt).toArray.eraseIdxIfInBounds j) clock := by
      unfold MO
      rw [← h5]
      congr 1
      rw [map_eraseIdx]; simp
    rw [h6]
    simp [Builtin.delete_, run_underlying hT, MapKept.run_getObj_map hb', MapKept.run_checkKey hk hkey, hf, MapKept.run_setObj_map _ hb', Result.andThen]
    rfl
def lookV (z : Value) : Option Value → Value
  | some v => .tuple #[v, .bool true]
  | none => .tuple #[z, .bool false]
theorem run_lookup {P : Program} {w : World} {T kT eT : TypeId} {b clock : Nat} {l : List Ent} {k : Int} {z : Value} (hT : P.underlying T = some (.map kT eT)) (hk : P.underlying kT = some (.int .i64)) (hb : w.heap[b]? = some (MO l clock)) (hz : ∀ w, (zeroValue eT).run P w = .ok z w) :
    (Instr.lookup T (.map (some b)) (.int .i64 k) true).run P w = .ok (lookV z ((l.find? (hasK k)).map (·.2.1))) w := by
  obtain ⟨r, h1, h2, _, _⟩ := findNow_ent k l 0
  have hkey : MapKept.IsKey (.int .i64) (.int .i64 k) := rfl
  have hf := MapKept.run_findKey (P := P) (w := w) hk h1
  have hb' : w.heap[b]? = some (.map (l.map mEnt).toArray clock) := hb
  rw [← h2]
  cases r with
  | none => simp [Instr.lookup, run_underlying hT, MapKept.run_getObj_map hb', MapKept.run_checkKey hk hkey, hf, hz, Result.andThen, lookV]
  | some p => simp [Instr.lookup, run_underlying hT, MapKept.run_getObj_map hb', MapKept.run_checkKey hk hkey, hf, Result.andThen, lookV]
theorem WS_mapUpd (hF : Wide F) {x y v : Operand} {T kT eT : TypeId} {b clock i : Nat} {l : List Ent} {k : Int} {u : Value} (hx : ev e x = .map (some b)) (hy : ev e y = .int .i64 k) (hv : ev e v = u) (hT : C.P.underlying T = some (.map kT eT)) (hk : C.P.underlying kT = some (.int .i64))
    (hi : H[i]? = some (b, MO l clock)) (hn : l.find? (hasK k) = none) (hq : WS C F n ds all Q rest e (H.set i (b, MO (l ++ [(k, u, clock)]) (clock + 1)))) :
    WS C F n ds all Q (⟨none, .mapUpdate T x y v, ty, pos, af, none⟩ :: rest) e H := fun w hw a ha => by
  have hb := hw.get hi
  unfold wpListIn
  rw [if_pos (by rfl)]
  refine ⟨fun f _ => hF.fn f, ?_⟩
  have : (execOp (ev e) ⟨none, .mapUpdate T x y v, ty, pos, af, none⟩).run C.P w = .ok .skip (w.putObj b (MO (l ++ [(k, u, clock)]) (clock + 1))) := by
    simp [execOp, hx, hy, hv, run_mapUpd hT hk hb hn]
  rw [semAt_of rfl, ha.eval, this]
  exact hq _ (hw.set hi (swap_put hb (fun h => by cases h))) _ ha
theorem WS_delete (hF : Wide F) {x y : Operand} {T kT eT : TypeId} {b clock i : Nat} {l : List Ent} {k : Int} (hx : ev e x = .map (some b)) (hy : ev e y = .int .i64 k) (hT : C.P.underlying T = some (.map kT eT)) (hk : C.P.underlying kT = some (.int .i64))
    (hi : H[i]? = some (b, MO l clock)) (hq : WS C F n ds all Q rest e (H.set i (b, MO (l.eraseP (hasK k)) clock))) :
    WS C F n ds all Q (⟨none, .call ⟨.builtin .delete, #[x, y], #[T, kT]⟩, ty, pos, af, none⟩ :: rest) e H := fun w hw a ha => by
  have hb := hw.get hi
  unfold wpListIn
  rw [if_pos (by rfl)]
  refine ⟨fun f _ => hF.fn f, ?_⟩
  have : (execOp (ev e) ⟨none, .call ⟨.builtin .delete, #[x, y], #[T, kT]⟩, ty, pos, af, none⟩).run C.P w = .ok (.value (.tuple #[])) (w.putObj b (MO (l.eraseP (hasK k)) clock)) := by
    simp [execOp, resolve, invoke, builtin, hx, hy, run_delete hT hk hb]
  rw [semAt_of rfl, ha.eval, this]
  exact hq _ (hw.set hi (swap_put hb (fun h => by cases h))) _ ha
theorem y_lookup {x y : Operand} {T kT eT : TypeId} {b clock i : Nat} {l : List Ent} {k : Int} {z : Value} {r : Option Value} (hx : ev e x = .map (some b)) (hy : ev e y = .int .i64 k) (hT : C.P.underlying T = some (.map kT eT)) (hk : C.P.underlying kT = some (.int .i64))
    (hz : ∀ w, (zeroValue eT).run C.P w = .ok z w) (hi : H[i]? = some (b, MO l clock)) (hr : (l.find? (hasK k)).map (·.2.1) = r) :
    YD C ⟨d, .lookup T x y true, ty, pos, af, g⟩ e H (lookV z r) := yd_of fun w hw => by
  subst hr
  simp [execOp, hx, hy, run_lookup hT hk (hw.get hi) hz]
end
end Go.Eng

/- append onto a row that is the last of the blocks; a map's entry, as told. No project text. -/
namespace Go.Eng
open Go.RowKit
section
variable {C : Ctx} {F : Fence} {n : Nat} {ds : List Deferred} {all : Array Oper} {Q : Exit → Env → List Blk → Prop} {rest : List Oper} {e : Env} {H : List Blk}
variable {d : Option Tmp} {ty : TypeId} {pos : String} {af : Array Edge} {g : Option (Nat × Bool)}
theorem WS_appendE (hF : Wide F) {x y : Operand} {T E : TypeId} {a a' : Option Addr} {n' m cap cap' sz by_ : Nat} {us news : List Value} {z : Value} {H1 Hn : List Blk} (hc : chk n all e ⟨d, .call ⟨.builtin .append, #[x, y], #[T, T]⟩, ty, pos, af, g⟩ = true)
    (hx : ev e x = .slice a n' cap) (hy : ev e y = .slice a' m cap') (hT : C.P.underlying T = some (.slice E)) (hinf : (C.P.info? E).map (fun i => (i.zero, i.size, i.bytes)) = some (some z, sz, by_))
    (hzs : z.cells.size = sz) (hH : H = H1 ++ Hn) (hrow : Row E sz a n' cap us Hn) (hs : Src C H a' m news) (hl : news.length = m * sz) (hone : news.all Value.oneCell' = true) (hb : (n' + m) * by_ ≤ 140737488355328) (hm : n' + m ≤ 140737488355328)
    (hk : ∀ a' cap' Hn', Row E sz a' (n' + m) cap' (us ++ news) Hn' → WS C F n ds all Q rest (updo e d (.slice a' (n' + m) cap')) (H1 ++ Hn')) :
    WS C F n ds all Q (⟨d, .call ⟨.builtin .append, #[x, y], #[T, T]⟩, ty, pos, af, g⟩ :: rest) e H :=
  WS_append (H1 := H1) (H2 := []) hF hc hx hy hT hinf hzs (by rw [hH, List.append_nil]) hrow hs hl hone hb hm fun a' cap' Hn' hr => by
    rw [List.append_nil]; exact hk a' cap' Hn' hr
theorem y_lookupE {x y : Operand} {T kT eT : TypeId} {b clock i : Nat} {l : List Ent} {k : Int} {z c : Value} (hx : ev e x = .map (some b)) (hy : ev e y = .int .i64 k) (hT : C.P.underlying T = some (.map kT eT)) (hk : C.P.underlying kT = some (.int .i64))
    (hz : ∀ w, (zeroValue eT).run C.P w = .ok z w) (hi : H[i]? = some (b, MO l clock)) (hr : lookV z ((l.find? (hasK k)).map (·.2.1)) = c) : YD C ⟨d, .lookup T x y true, ty, pos, af, g⟩ e H c := by
  subst hr; exact y_lookup hx hy hT hk hz hi rfl
end
end Go.Eng

/- A log without entries: the walk of without, and holds. -/
namespace Go.Proofs.Ythkimgfgpphgnaa.T
open Go.RowKit Go.Proofs Go.Eng
set_option maxRecDepth 100000
set_option linter.unusedVariables false
set_option linter.unusedSimpArgs false

theorem bs44_1_0 {x0_0 : Int} {x0_1 : Int} {x0_2 : Int} {x0_3 : Int} : ∀ w, (Instr.buildSlice 44 1 #[(0, .agg #[.int .i64 x0_0, .int .i64 x0_1, .int .i64 x0_2, .int .i64 x0_3])]).run Try.prog w = .ok (.slice (some ⟨w.heap.size, 0, none⟩) 1 1) (w.alloc (CB [.int .i64 x0_0, .int .i64 x0_1, .int .i64 x0_2, .int .i64 x0_3] 48)) := fun w => by kernel_rfl

def kpB (D : List Int) (i : Nat) : Bool := !(D.contains ((i : Int) + 1))
def kpK (D : List Int) (i : Nat) : List Nat := (List.range i).filter (kpB D)
/-- The log without the entries at some times. -/
def Lg.woK (l : Lg) (D : List Int) (i : Nat) : Lg := ⟨l.tk, l.start, (kpK D i).map l.e⟩
def Lg.wo (l : Lg) (D : List Int) : Lg := l.woK D l.es.length
def Lg.ent (l : Lg) (i : Nat) : Ent := ((i : Int) + 1, .agg (l.e i).cells.toArray, i)
theorem kpK_succ (D : List Int) (i : Nat) : kpK D (i + 1) = if kpB D i then kpK D i ++ [i] else kpK D i := by
  unfold kpK
  rw [List.range_succ, List.filter_append]
  by_cases h : kpB D i = true
  · rw [if_pos h]; simp [h]
  · rw [if_neg h]; simp [h]
theorem ent_key (l : Lg) (i : Nat) (k : Int) : hasK k (l.ent i) = decide ((i : Int) + 1 = k) := by
  unfold hasK Lg.ent
  simp only []
  by_cases h : (i : Int) + 1 = k <;> simp [h]
theorem find_ent (l : Lg) (p : Nat → Bool) (i : Nat) : ∀ m, (((List.range m).filter p).map l.ent).find? (hasK ((i : Int) + 1)) = if i < m ∧ p i = true then some (l.ent i) else none
  | 0 => by simp
  | m + 1 => by
    rw [List.range_succ, List.filter_append, List.map_append, List.find?_append, find_ent l p i m]
    by_cases h : i < m ∧ p i = true
    · rw [if_pos h, if_pos ⟨by omega, h.2⟩]; rfl
    · rw [if_neg h, Option.none_or]
      by_cases hp : p m = true
      · simp only [List.filter_cons, hp, if_true, List.filter_nil, List.map_cons, List.map_nil, List.find?_cons, ent_key]
        by_cases he : m = i
        · subst he
          simp [hp]
        · rw [if_neg (fun h2 => h ⟨by omega, h2.2⟩)]
          have : ¬ ((m : Int) + 1 = (i : Int) + 1) := by omega
          simp [this]
      · have hz : (List.filter p [m]).map l.ent = [] := by simp [hp]
        rw [hz, if_neg (fun h2 => by
          obtain ⟨h3, h4⟩ := h2
          by_cases he : m = i
          · subst he; exact hp h4
          · exact h ⟨by omega, h4⟩)]
        rfl
theorem erase_ent (l : Lg) (p : Nat → Bool) (t : Int) : ∀ m, (((List.range m).filter p).map l.ent).eraseP (hasK t) = ((List.range m).filter fun i => p i && !decide ((i : Int) + 1 = t)).map l.ent
  | 0 => by simp
  | m + 1 => by
    have ih := erase_ent l p t m
    rw [List.range_succ, List.filter_append, List.filter_append, List.map_append, List.map_append]
    by_cases hany : ∃ x ∈ ((List.range m).filter p).map l.ent, hasK t x = true
    · obtain ⟨x, hx, hk⟩ := hany
      rw [List.eraseP_append_left hk _ hx, ih]
      congr 1
      obtain ⟨i, hi, rfl⟩ := List.mem_map.1 hx
      rw [ent_key, decide_eq_true_eq] at hk
      have him : i < m := by simpa using (List.mem_filter.1 hi).1
      have hne : ¬ ((m : Int) + 1 = t) := by omega
      by_cases hp : p m = true <;> simp [hp, hne]
    · have hall : ∀ b ∈ ((List.range m).filter p).map l.ent, ¬ hasK t b = true := fun b hb hk => hany ⟨b, hb, hk⟩
      rw [List.eraseP_append_right _ (by simpa using hall)]
      rw [List.eraseP_of_forall_not (by simpa using hall)] at ih
      rw [← ih]
      congr 1
      by_cases hp : p m = true
      · simp only [List.filter_cons, hp, if_true, List.filter_nil, List.map_cons, List.map_nil, Bool.true_and]
        by_cases ht : (m : Int) + 1 = t
        · simp [ht, ent_key]
        · simp [ht, ent_key]
      · simp [hp]
theorem kpB_snoc (D : List Int) (d : Int) (i : Nat) : kpB (D ++ [d]) i = (kpB D i && !decide ((i : Int) + 1 = d)) := by
  unfold kpB
  rw [Bool.eq_iff_iff]
  simp
theorem take_snoc {D : List Int} {j : Nat} (h : j < D.length) : D.take (j + 1) = D.take j ++ [D.getD j 0] := by
  rw [List.take_succ_eq_append_getElem h]
  simp [List.getD_eq_getElem?_getD, h]
theorem erase_kp (l : Lg) (D : List Int) {j : Nat} (h : j < D.length) (m : Nat) : ((kpK (D.take j) m).map l.ent).eraseP (hasK (D.getD j 0)) = (kpK (D.take (j + 1)) m).map l.ent := by
  unfold kpK
  rw [erase_ent, take_snoc h]
  congr 1
  exact List.filter_congr fun i _ => (kpB_snoc _ _ _).symm
theorem Row.rws {α : Type} {enc : α → List Value} {sz : Nat} {d : α} (hz : ∀ x, (enc x).length = sz) {C : Ctx} {H Hn : List Blk} {T : TypeId} {a : Option Addr} {n cap : Nat} {xs : List α} (h : Row T sz a n cap (rowOf enc (fun k => xs.getD k d) n) Hn) (hl : xs.length = n) (hs : Hn.Sublist H) (w : World) (hw : St C H w) : Rws enc sz d w a n cap xs := by
  rcases h with ⟨rfl, rfl, rfl, _, rfl⟩ | ⟨b, junk, rfl, rfl, h1, h2, h3⟩
  · rw [List.length_eq_zero_iff.1 hl]; exact Rws.nil _ _ _
  · refine ⟨hl, h3, fun k hk => ⟨b, 0, rfl, ?_⟩⟩
    exact Mem.rowJ (junk := junk) (k := k) (o := 0 + k * sz) hz 0 rfl hk rfl (Nat.zero_add _) w (hw.sub hs)
theorem Lg.woK_len (l : Lg) (D : List Int) (i : Nat) : (l.woK D i).es.length = (kpK D i).length := List.length_map _
theorem Lg.woK_e (l : Lg) (D : List Int) (i : Nat) : rowOf En.cells (l.woK D (i + 1)).e (l.woK D (i + 1)).es.length = if kpB D i then rowOf En.cells (l.woK D i).e (l.woK D i).es.length ++ (l.e i).cells else rowOf En.cells (l.woK D i).e (l.woK D i).es.length := by
  rw [l.woK_len, l.woK_len]
  by_cases h : kpB D i = true
  · rw [if_pos h, kpK_succ, if_pos h, List.length_append, List.length_singleton, rowOf_succ]
    have he : ∀ j, j < (kpK D i).length → (l.woK D (i + 1)).e j = (l.woK D i).e j := fun j hj => by
      unfold Lg.woK Lg.e
      simp only
      rw [kpK_succ, if_pos h, List.map_append]
      simp [List.getD_eq_getElem?_getD, List.getElem?_append_left, hj]
    rw [rowOf_congr _ he]
    congr 1
    unfold Lg.woK Lg.e
    simp only
    rw [kpK_succ, if_pos h, List.map_append]
    simp [List.getD_eq_getElem?_getD]
  · rw [if_neg h]
    unfold Lg.woK Lg.e
    simp only
    rw [kpK_succ, if_neg h]
theorem kpK_le (D : List Int) (i : Nat) : (kpK D i).length ≤ i := by
  have := List.length_filter_le (kpB D) (List.range i)
  rw [List.length_range] at this
  exact this
def WoV (l : Lg) (D : List Int) (g : Nat) (a : Option Addr) (cap : Nat) (v : Value) (Hn : List Blk) : Prop :=
  ∃ cb ae cape H2, v = .pointer (some ⟨cb, 0, none⟩) ∧ Hn = (cb, CB (bookCells g (l.wo D) a cap ae cape) 119) :: H2 ∧ Row 48 4 ae (l.wo D).es.length cape (rowOf En.cells (l.wo D).e (l.wo D).es.length) H2

theorem without_any (bk g : Nat) (l : Lg) (a : Option Addr) (cap : Nat) (ae : Option Addr) (cape : Nat) (ta : Option Addr) (tn tcap : Nat) (D : List Int) (w : World) (hok : l.Ok) (h1 : At w bk 0 (bookCells g l a cap ae cape)) (he : Ens w ae l.es.length cape l.es) (hD : Ints w ta tn tcap D) (htn : tn ≤ 1000000) :
    Ct Try.prog 81 #[.pointer (some ⟨bk, 0, none⟩), .slice ta tn tcap] w (WoV l D g a cap) := by
  have hn12 := hok.n12
  have hlenD := hD.len
  have hF := wide_wide
  refine Ct_start (args := [_, _]) Try.func81 (by rfl) Try.ntmps81 (by rfl) ?_
  refine W_seq ?_
  refine W_region_lit (fun ds => ?_)
  refine WS_det hF (by rfl) (y_assign (c := .pointer _) (by rfl)) ?_
  refine WS_nil ?_
  refine Then_normal ?_
  refine W_seq ?_
  refine W_region_lit (fun ds => ?_)
  refine WS_newM hF (by rfl) y_makeMap (fun mb => ?_)
  refine WS_det hF (by rfl) (y_assign (c := .map _) (by rfl)) ?_
  refine WS_nil ?_
  refine Then_normal ?_
  refine W_seq ?_
  refine W_seq ?_
  refine W_region_lit (fun ds => ?_)
  refine WS_det hF (by rfl) (y_move (c := .pointer _) (by rfl)) ?_
  refine WS_det hF (by rfl) (by first | exact y_nilCheck (by rfl) | exact y_nilCheckF (by rfl)) ?_
  refine WS_det hF (by rfl) (y_fieldAddr (by rfl) fa119_1) ?_
  refine WS_det hF (by rfl) (y_fieldAddr (by rfl) fa46_2) ?_
  refine WS_det hF (by rfl) (y_load1 (by rfl) Try.isAgg44 (by first | exact Mem.old1 (by assumption) | exact Mem.oldAt1 (by assumption) (by rfl) | exact Mem.old (by assumption) | exact Mem.oldAtL1 (by assumption) (by rfl) (by rfl))) ?_
  refine WS_det hF (by rfl) (y_len (by rfl) Try.runUnderlying44) ?_
  refine WS_det hF (by rfl) (y_move (c := .int .i64 _) (by rfl)) ?_
  refine WS_nil ?_
  refine Then_normal ?_
  refine W_block ?_
  refine W_loop (γ := Nat) (fun k => k ≤ l.es.length) (fun k => [(0, .pointer (some ⟨bk, 0, none⟩)), (1, .slice ta tn tcap), (5, .map (some mb)), (19, .slice ae l.es.length cape), (20, .int .i64 (l.es.length : Int)), (21, .int .i64 (k : Int))]) (fun k => [(mb, MO ((kpK [] k).map l.ent) k)]) (fun k => l.es.length - k) (0) (Nat.zero_le _) (by repeat (first | exact trivial | refine ⟨by rfl, ?_⟩)) (List.Sublist.refl _) ?_
  intro k e hk
  refine W_seq ?_
  refine W_region_lit (fun ds => ?_)
  refine WS_det hF (by rfl) (y_lss (by rfl) (by rfl)) ?_
  refine WS_nil ?_
  refine Then_normal ?_
  refine W_seq ?_
  refine W_cond (by rfl) (fun c3 => ?_) (fun c3 => ?_)
  ·
    try simp only [Bool.not_eq_true', Bool.not_eq_false', decide_eq_true_eq, decide_eq_false_iff_not, ne_eq, Classical.not_not, Int.not_lt, Int.not_le] at c3
    obtain ⟨b, o, rfl, hc⟩ := he.cell k (by omega)
    change At w b _ (l.e k).cells at hc
    have hmk : (kpK [] (k + 1)).map l.ent = (kpK [] k).map l.ent ++ [((k : Int) + 1, .agg (l.e k).cells.toArray, k)] := by rw [kpK_succ, if_pos (show kpB [] k = true from rfl), List.map_append]; rfl
    have hfind : ((kpK [] k).map l.ent).find? (hasK ((k : Int) + 1)) = none := by
      have := find_ent l (kpB []) k k
      rw [if_neg (by omega)] at this
      exact this
    refine W_skip ?_
    refine Then_normal ?_
    refine W_seq ?_
    refine W_block ?_
    refine W_seq ?_
    refine W_region_lit (fun ds => ?_)
    refine WS_det hF (by rfl) (y_move (c := .int .i64 _) (by rfl)) ?_
    refine WS_det hF (by rfl) (y_index (k := k) (by rfl) (by rfl) (by first | rfl | omega) (by first | decide | omega) Try.runUnderlying44 Try.sizeOf48) ?_
    refine WS_det hF (by rfl) (y_loadN (by rfl) Try.isAgg48 Try.sizeOf48 (by first | exact Mem.old (by assumption) | exact Mem.oldAt (us := [.int .i64 _, .int .i64 _, .int .i64 _, .int .i64 _]) (by assumption) (by rfl) | exact Mem.oldAtL (us := [.int .i64 _, .int .i64 _, .int .i64 _, .int .i64 _]) (by assumption) (by rfl) (by rfl)) (by rfl)) ?_
    refine WS_new hF (by rfl) (y_alloc Try.zeroValue48 (by rfl)) (fun b1 => ?_)
    refine WS_det hF (by rfl) (y_assign (c := .int .i64 _) (by rfl)) ?_
    refine WS_store hF (i := 0) (by rfl) (by rfl) Try.sizeOf48 (by rfl) (by rfl) (by rfl) (by first | decide | exact Nat.le_of_ble_eq_true rfl | simp) ?_
    refine WS_nil ?_
    refine Then_normal ?_
    refine W_region_lit (fun ds => ?_)
    refine WS_det hF (by rfl) (y_move (c := .map _) (by rfl)) ?_
    refine WS_det hF (by rfl) (y_move (c := .int .i64 _) (by rfl)) ?_
    refine WS_det hF (by rfl) (y_add (by rfl) (by rfl) (by unfold I64; omega)) ?_
    refine WS_det hF (by rfl) (y_loadN (by rfl) Try.isAgg48 Try.sizeOf48 (Mem.own (us := [.int .i64 _, .int .i64 _, .int .i64 _, .int .i64 _]) 0 (by rfl) (by rfl)) (by rfl)) ?_
    refine WS_mapUpd hF (i := 1) (by rfl) (by rfl) (by rfl) Try.underlying153 Try.underlying3 (by rfl) hfind ?_
    refine WS_nil ?_
    refine InB_normal ?_
    refine Then_normal ?_
    refine W_region_lit (fun ds => ?_)
    refine WS_det hF (by rfl) (y_add (by rfl) (by rfl) (by unfold I64; omega)) ?_
    refine WS_det hF (by rfl) (y_move (c := .int .i64 _) (by rfl)) ?_
    refine WS_nil ?_
    exact Loop_next (k + 1) (by omega) (by repeat (first | exact trivial | refine ⟨by rfl, ?_⟩)) (by rw [hmk]; exact (by repeat (first | exact List.Sublist.refl _ | exact List.nil_sublist _ | apply List.Sublist.cons_cons | apply List.Sublist.cons))) (by omega)
  ·
    try simp only [Bool.not_eq_true', Bool.not_eq_false', decide_eq_true_eq, decide_eq_false_iff_not, ne_eq, Classical.not_not, Int.not_lt, Int.not_le] at c3
    refine W_exit ?_
    refine Then_exit ?_
    refine Loop_exit ?_
    refine InB_same ?_
    refine Then_normal ?_
    refine W_seq ?_
    refine W_seq ?_
    refine W_region_lit (fun ds => ?_)
    refine WS_det hF (by rfl) (y_move (c := .slice _ _ _) (by rfl)) ?_
    refine WS_det hF (by rfl) (y_len (by rfl) Try.runUnderlying22) ?_
    refine WS_det hF (by rfl) (y_move (c := .int .i64 _) (by rfl)) ?_
    refine WS_nil ?_
    refine Then_normal ?_
    refine W_block ?_
    refine W_loop (γ := Nat) (fun j => j ≤ tn) (fun j => [(0, .pointer (some ⟨bk, 0, none⟩)), (5, .map (some mb)), (31, .slice ta tn tcap), (32, .int .i64 (tn : Int)), (33, .int .i64 (j : Int))]) (fun j => [(mb, MO ((kpK (D.take j) l.es.length).map l.ent) l.es.length)]) (fun j => tn - j) (0) (Nat.zero_le _) (by repeat (first | exact trivial | refine ⟨by rfl, ?_⟩)) ((by obtain rfl : k = l.es.length := (by omega); exact (by repeat (first | exact List.Sublist.refl _ | exact List.nil_sublist _ | apply List.Sublist.cons_cons | apply List.Sublist.cons)))) ?_
    intro j e hj
    refine W_seq ?_
    refine W_region_lit (fun ds => ?_)
    refine WS_det hF (by rfl) (y_lss (by rfl) (by rfl)) ?_
    refine WS_nil ?_
    refine Then_normal ?_
    refine W_seq ?_
    refine W_cond (by rfl) (fun c8 => ?_) (fun c8 => ?_)
    ·
      try simp only [Bool.not_eq_true', Bool.not_eq_false', decide_eq_true_eq, decide_eq_false_iff_not, ne_eq, Classical.not_not, Int.not_lt, Int.not_le] at c8
      obtain ⟨bt, ot, rfl, hct⟩ := hD.cell j (by omega)
      refine W_skip ?_
      refine Then_normal ?_
      refine W_seq ?_
      refine W_block ?_
      refine W_seq ?_
      refine W_region_lit (fun ds => ?_)
      refine WS_det hF (by rfl) (y_index (k := j) (by rfl) (by rfl) (by first | rfl | omega) (by first | decide | omega) Try.runUnderlying22 Try.sizeOf3) ?_
      refine WS_det hF (by rfl) (y_load1 (by rfl) Try.isAgg3 (by first | exact Mem.old1 (by assumption) | exact Mem.oldAt1 (by assumption) (by rfl) | exact Mem.old (by assumption) | exact Mem.oldAtL1 (by assumption) (by rfl) (by rfl))) ?_
      refine WS_det hF (by rfl) (y_assign (c := .int .i64 _) (by rfl)) ?_
      refine WS_nil ?_
      refine Then_normal ?_
      refine W_region_lit (fun ds => ?_)
      refine WS_det hF (by rfl) (y_move (c := .map _) (by rfl)) ?_
      refine WS_det hF (by rfl) (y_move (c := .int .i64 _) (by rfl)) ?_
      refine WS_delete hF (i := 0) (by rfl) (by rfl) Try.underlying153 Try.underlying3 (by rfl) ?_
      refine WS_nil ?_
      refine InB_normal ?_
      refine Then_normal ?_
      refine W_region_lit (fun ds => ?_)
      refine WS_det hF (by rfl) (y_add (by rfl) (by rfl) (by unfold I64; omega)) ?_
      refine WS_det hF (by rfl) (y_move (c := .int .i64 _) (by rfl)) ?_
      refine WS_nil ?_
      exact Loop_next (j + 1) (by omega) (by repeat (first | exact trivial | refine ⟨by rfl, ?_⟩)) (by rw [← erase_kp l D (j := j) (by omega)]; exact (by repeat (first | exact List.Sublist.refl _ | exact List.nil_sublist _ | apply List.Sublist.cons_cons | apply List.Sublist.cons))) (by omega)
    ·
      try simp only [Bool.not_eq_true', Bool.not_eq_false', decide_eq_true_eq, decide_eq_false_iff_not, ne_eq, Classical.not_not, Int.not_lt, Int.not_le] at c8
      refine W_exit ?_
      refine Then_exit ?_
      refine Loop_exit ?_
      refine InB_same ?_
      refine Then_normal ?_
      refine W_seq ?_
      refine W_region_lit (fun ds => ?_)
      refine WS_det hF (by rfl) (y_move (c := .pointer _) (by rfl)) ?_
      refine WS_det hF (by rfl) (by first | exact y_nilCheck (by rfl) | exact y_nilCheckF (by rfl)) ?_
      refine WS_det hF (by rfl) (y_loadN (by rfl) Try.isAgg119 Try.sizeOf119 (by first | exact Mem.old (by assumption) | exact Mem.oldAt (us := [.pointer _, .slice _ _ _, .int .i64 _, .int .i64 _, .int .i64 _, .int .i64 _, .slice _ _ _, _, _, _, _, _, _, _, _, _, _, _, _]) (by assumption) (by rfl) | exact Mem.oldAtL (us := [.pointer _, .slice _ _ _, .int .i64 _, .int .i64 _, .int .i64 _, .int .i64 _, .slice _ _ _, _, _, _, _, _, _, _, _, _, _, _, _]) (by assumption) (by rfl) (by rfl)) (by rfl)) ?_
      refine WS_new hF (by rfl) (y_alloc Try.zeroValue119 (by rfl)) (fun cb => ?_)
      refine WS_store hF (i := 0) (by rfl) (by rfl) Try.sizeOf119 (by rfl) (by rfl) (by rfl) (by first | decide | exact Nat.le_of_ble_eq_true rfl | simp) ?_
      refine WS_nil ?_
      refine Then_normal ?_
      refine W_seq ?_
      refine W_region_lit (fun ds => ?_)
      refine WS_det hF (by rfl) (y_fieldAddr (by rfl) fa119_1) ?_
      refine WS_det hF (by rfl) (y_fieldAddr (by rfl) fa46_2) ?_
      refine WS_store hF (i := 0) (by rfl) (by rfl) Try.sizeOf44 (by rfl) (by rfl) (by rfl) (by first | decide | exact Nat.le_of_ble_eq_true rfl | simp) ?_
      refine WS_nil ?_
      refine Then_normal ?_
      refine W_seq ?_
      refine W_seq ?_
      refine W_region_lit (fun ds => ?_)
      refine WS_det hF (by rfl) (y_move (c := .pointer _) (by rfl)) ?_
      refine WS_det hF (by rfl) (by first | exact y_nilCheck (by rfl) | exact y_nilCheckF (by rfl)) ?_
      refine WS_det hF (by rfl) (y_fieldAddr (by rfl) fa119_1) ?_
      refine WS_det hF (by rfl) (y_fieldAddr (by rfl) fa46_2) ?_
      refine WS_det hF (by rfl) (y_load1 (by rfl) Try.isAgg44 (by first | exact Mem.old1 (by assumption) | exact Mem.oldAt1 (by assumption) (by rfl) | exact Mem.old (by assumption) | exact Mem.oldAtL1 (by assumption) (by rfl) (by rfl))) ?_
      refine WS_det hF (by rfl) (y_len (by rfl) Try.runUnderlying44) ?_
      refine WS_det hF (by rfl) (y_move (c := .int .i64 _) (by rfl)) ?_
      refine WS_nil ?_
      refine Then_normal ?_
      refine W_block ?_
      refine W_loop (γ := Nat × Option Addr × Nat × List Blk) (fun p => p.1 ≤ l.es.length ∧ Row 48 4 p.2.1 (l.woK D p.1).es.length p.2.2.1 (rowOf En.cells (l.woK D p.1).e (l.woK D p.1).es.length) p.2.2.2) (fun p => [(5, .map (some mb)), (10, .pointer (some ⟨cb, 0, none⟩)), (50, .int .i64 (l.es.length : Int)), (51, .int .i64 (p.1 : Int))]) (fun p => (cb, CB (bookCells g (l.woK D p.1) a cap p.2.1 p.2.2.1) 119) :: (mb, MO ((kpK D l.es.length).map l.ent) l.es.length) :: p.2.2.2) (fun p => l.es.length - p.1) ((0, none, 0, [])) ⟨Nat.zero_le _, Row.nil 48 4⟩ (by repeat (first | exact trivial | refine ⟨by rfl, ?_⟩)) ((by obtain rfl : j = tn := (by omega); rw [List.take_of_length_le (show D.length ≤ j by omega)]; exact (by repeat (first | exact List.Sublist.refl _ | exact List.nil_sublist _ | apply List.Sublist.cons_cons | apply List.Sublist.cons)))) ?_
      rintro ⟨i, ra, rcap, Hf⟩ e ⟨hi, hrow⟩
      refine W_seq ?_
      refine W_region_lit (fun ds => ?_)
      refine WS_det hF (by rfl) (y_lss (by rfl) (by rfl)) ?_
      refine WS_nil ?_
      refine Then_normal ?_
      refine W_seq ?_
      refine W_cond (by rfl) (fun c15 => ?_) (fun c15 => ?_)
      ·
        try simp only [Bool.not_eq_true', Bool.not_eq_false', decide_eq_true_eq, decide_eq_false_iff_not, ne_eq, Classical.not_not, Int.not_lt, Int.not_le] at c15
        have hin : i < l.es.length := by omega
        have hkl : (l.woK D i).es.length ≤ i := by rw [l.woK_len]; exact kpK_le D i
        have hlk : lookV (.agg #[.int .i64 0, .int .i64 0, .int .i64 0, .int .i64 0]) ((((kpK D l.es.length).map l.ent).find? (hasK ((i : Int) + 1))).map (·.2.1)) = .tuple #[.agg (if kpB D i then l.e i else En.z).cells.toArray, .bool (kpB D i)] := by
          rw [show ((kpK D l.es.length).map l.ent).find? (hasK ((i : Int) + 1)) = _ from find_ent l (kpB D) i l.es.length]
          by_cases h : kpB D i = true
          · rw [if_pos ⟨hin, h⟩, if_pos h, h]; rfl
          · rw [if_neg (fun h2 => h h2.2), if_neg h, Bool.eq_false_iff.2 h]; rfl
        refine W_skip ?_
        refine Then_normal ?_
        refine W_seq ?_
        refine W_block ?_
        refine W_seq ?_
        refine W_region_lit (fun ds => ?_)
        refine WS_det hF (by rfl) (y_move (c := .int .i64 _) (by rfl)) ?_
        refine WS_det hF (by rfl) (y_assign (c := .int .i64 _) (by rfl)) ?_
        refine WS_nil ?_
        refine Then_normal ?_
        refine W_seq ?_
        refine W_region_lit (fun ds => ?_)
        refine WS_det hF (by rfl) (y_move (c := .map _) (by rfl)) ?_
        refine WS_det hF (by rfl) (y_move (c := .int .i64 _) (by rfl)) ?_
        refine WS_det hF (by rfl) (y_add (by rfl) (by rfl) (by unfold I64; omega)) ?_
        refine WS_det hF (by rfl) (y_lookupE (i := 1) (by rfl) (by rfl) Try.underlying153 Try.underlying3 Try.zeroValue48 (by rfl) hlk) ?_
        refine WS_det hF (by rfl) (y_move (c := .tuple _) (by rfl)) ?_
        refine WS_det hF (by rfl) (y_extract (c := .agg _) (by rfl) (by rfl)) ?_
        refine WS_det hF (by rfl) (y_extract (c := .bool _) (by rfl) (by rfl)) ?_
        refine WS_new hF (by rfl) (y_alloc Try.zeroValue48 (by rfl)) (fun bz => ?_)
        refine WS_store hF (i := 0) (by rfl) (by rfl) Try.sizeOf48 (by rfl) (by rfl) (by rfl) (by first | decide | exact Nat.le_of_ble_eq_true rfl | simp) ?_
        refine WS_det hF (by rfl) (y_assign (c := .bool _) (by rfl)) ?_
        refine WS_nil ?_
        refine Then_normal ?_
        refine W_seq ?_
        refine W_region_lit (fun ds => ?_)
        refine WS_det hF (by rfl) (y_move (c := .bool _) (by rfl)) ?_
        refine WS_nil ?_
        refine Then_normal ?_
        refine W_cond (by rfl) (fun c18 => ?_) (fun c18 => ?_)
        ·
          try simp only [Bool.not_eq_true', Bool.not_eq_false', decide_eq_true_eq, decide_eq_false_iff_not, ne_eq, Classical.not_not, Int.not_lt, Int.not_le] at c18
          refine W_region_lit (fun ds => ?_)
          refine WS_det hF (by rfl) (y_fieldAddr (by rfl) fa119_1) ?_
          refine WS_det hF (by rfl) (y_fieldAddr (by rfl) fa46_2) ?_
          refine WS_det hF (by rfl) (y_load1 (by rfl) Try.isAgg44 (Mem.own1 1 (by rfl) (by rfl))) ?_
          refine WS_det hF (by rfl) (y_loadN (by rfl) Try.isAgg48 Try.sizeOf48 (Mem.own (us := [.int .i64 _, .int .i64 _, .int .i64 _, .int .i64 _]) 0 (by rfl) (by rfl)) (by rfl)) ?_
          refine WS_newS hF (by rfl) (y_buildSliceL bs44_1_0 (by rfl)) (fun b2 => ?_)
          refine WS_appendE hF (n' := (l.woK D i).es.length) (H1 := [_, _, _, _]) (by rfl) (by rfl) (by rfl) Try.underlying44 infEntry (by rfl) (by rfl) hrow (.inr ⟨_, _, rfl, Mem.own (us := [.int _ _, .int _ _, .int _ _, .int _ _]) 0 (by rfl) (by rfl)⟩) (by rfl) (by rfl) (by omega) (by omega) ?_
          intro ra2 rcap2 Hf2 hrow2
          have hle : (l.woK D (i + 1)).es.length = (l.woK D i).es.length + 1 := by rw [l.woK_len, l.woK_len, kpK_succ, if_pos c18, List.length_append]; rfl
          have hrow3 : Row 48 4 ra2 (l.woK D (i + 1)).es.length rcap2 (rowOf En.cells (l.woK D (i + 1)).e (l.woK D (i + 1)).es.length) Hf2 := by
            rw [l.woK_e, if_pos c18, hle]
            have he2 : (if kpB D i then l.e i else En.z) = l.e i := if_pos c18
            rw [← he2]
            exact hrow2
          refine WS_det hF (by rfl) (y_fieldAddr (by rfl) fa119_1) ?_
          refine WS_det hF (by rfl) (y_fieldAddr (by rfl) fa46_2) ?_
          refine WS_store hF (i := 2) (by rfl) (by rfl) Try.sizeOf44 (by rfl) (by rfl) (by rfl) (by first | decide | exact Nat.le_of_ble_eq_true rfl | simp) ?_
          refine WS_nil ?_
          refine InB_normal ?_
          refine Then_normal ?_
          refine W_region_lit (fun ds => ?_)
          refine WS_det hF (by rfl) (y_add (by rfl) (by rfl) (by unfold I64; omega)) ?_
          refine WS_det hF (by rfl) (y_move (c := .int .i64 _) (by rfl)) ?_
          refine WS_nil ?_
          exact Loop_next (i + 1, ra2, rcap2, Hf2) ⟨by omega, hrow3⟩ (by repeat (first | exact trivial | refine ⟨by rfl, ?_⟩)) (by unfold bookCells; rw [hle]; exact (by repeat (first | exact List.Sublist.refl _ | exact List.nil_sublist _ | apply List.Sublist.cons_cons | apply List.Sublist.cons))) (by simp only; omega)
        ·
          try simp only [Bool.not_eq_true', Bool.not_eq_false', decide_eq_true_eq, decide_eq_false_iff_not, ne_eq, Classical.not_not, Int.not_lt, Int.not_le] at c18
          have hkk : kpK D (i + 1) = kpK D i := by rw [kpK_succ, if_neg (by rw [c18]; exact Bool.false_ne_true)]
          have hww : l.woK D (i + 1) = l.woK D i := by unfold Lg.woK; rw [hkk]
          refine W_skip ?_
          refine InB_normal ?_
          refine Then_normal ?_
          refine W_region_lit (fun ds => ?_)
          refine WS_det hF (by rfl) (y_add (by rfl) (by rfl) (by unfold I64; omega)) ?_
          refine WS_det hF (by rfl) (y_move (c := .int .i64 _) (by rfl)) ?_
          refine WS_nil ?_
          exact Loop_next (i + 1, ra, rcap, Hf) ⟨by omega, by rw [hww]; exact hrow⟩ (by repeat (first | exact trivial | refine ⟨by rfl, ?_⟩)) (by rw [hww]; exact (by repeat (first | exact List.Sublist.refl _ | exact List.nil_sublist _ | apply List.Sublist.cons_cons | apply List.Sublist.cons))) (by simp only; omega)
      ·
        try simp only [Bool.not_eq_true', Bool.not_eq_false', decide_eq_true_eq, decide_eq_false_iff_not, ne_eq, Classical.not_not, Int.not_lt, Int.not_le] at c15
        refine W_exit ?_
        refine Then_exit ?_
        refine Loop_exit ?_
        refine InB_same ?_
        refine Then_normal ?_
        refine W_seq ?_
        refine W_region_lit (fun ds => ?_)
        refine WS_det hF (by rfl) (y_assign (c := .pointer _) (by rfl)) ?_
        refine WS_nil ?_
        refine Then_normal ?_
        refine W_ret ?_
        refine Fin_ret [.pointer _] ((cb, _) :: Hf) Try.results81 ⟨by rfl, trivial⟩ ((SubP.hsub (SubP.pick 0 (by rfl) (by exact SubP.drop (SubP.refl))))) ?_
        obtain rfl : i = l.es.length := by have : i ≤ l.es.length := hi; omega
        exact ⟨cb, ra, rcap, Hf, rfl, rfl, hrow⟩
end Go.Proofs.Ythkimgfgpphgnaa.T

/- Whether a log has a truth: the walk of holds. -/
namespace Go.Proofs.Ythkimgfgpphgnaa.T
open Go.RowKit Go.Proofs Go.Eng
set_option maxRecDepth 100000
set_option linter.unusedVariables false
set_option linter.unusedSimpArgs false



theorem holding_it2 (l : Lg) (w0 : World) (ds0 out0 : List Deferred) (bx bk : Nat) (hB : Bk w0 bk l) :
    It ⟨Try.prog, w0, ds0, out0⟩ 140 [.pointer (some ⟨bx, 0, none⟩)] (fun k => [.int .i64 (k : Int), .agg (l.hold k).cells.toArray]) l.times
      [(bx, CB [.pointer (some ⟨bk, 0, none⟩)] 108)] := by
  intro lp J Jx hY G hJ
  have hB0 := hB
  obtain ⟨hok, g, a, cap, ae, cape, k1, hG, he⟩ := hB
  have h0 : 0 < l.times := l.steps_pos 0 _
  have hn := hok.n12
  have he0 : (l.hold 0).empty = false := by
    have := Sn.inB_iff.1 hok.start
    show decide (l.start.hi < l.start.lo) = false
    simp only [decide_eq_false_iff_not]; omega
  have hF := wide_wide
  refine Cs_start (args := [_, _]) Try.func140 (by rfl) Try.ntmps140 (by rfl) ?_
  refine W_seq ?_
  refine W_region_lit (fun ds => ?_)
  refine WS_det hF (by rfl) (y_load1 (by rfl) Try.isAgg108 (Mem.own1 0 (by rfl) (by rfl))) ?_
  refine WS_det hF (by rfl) (by first | exact y_nilCheck (by rfl) | exact y_nilCheckF (by rfl)) ?_
  refine WS_det hF (by rfl) (y_fieldAddr (by rfl) fa119_1) ?_
  refine WS_det hF (by rfl) (y_fieldAddr (by rfl) fa46_1) ?_
  refine WS_det hF (by rfl) (y_loadN (by rfl) Try.isAgg26 Try.sizeOf26 (by first | exact Mem.old (by assumption) | exact Mem.oldAt (us := [.int .i64 _, .int .i64 _]) (by assumption) (by rfl) | exact Mem.oldAtL (us := [.int .i64 _, .int .i64 _]) (by assumption) (by rfl) (by rfl)) (by rfl)) ?_
  refine WS_new hF (by rfl) (y_alloc Try.zeroValue26 (by rfl)) (fun b1 => ?_)
  refine WS_store hF (i := 0) (by rfl) (by rfl) Try.sizeOf26 (by rfl) (by rfl) (by rfl) (by first | decide | exact Nat.le_of_ble_eq_true rfl | simp) ?_
  refine WS_nil ?_
  refine Then_normal ?_
  refine W_seq ?_
  refine W_seq ?_
  refine W_region_lit (fun ds => ?_)
  refine WS_det hF (by rfl) (y_move (c := _) (by rfl)) ?_
  refine WS_det hF (by rfl) (y_loadN (by rfl) Try.isAgg26 Try.sizeOf26 (Mem.own (us := [.int .i64 _, .int .i64 _]) 0 (by rfl) (by rfl)) (by rfl)) ?_
  refine WS_yield (by rfl) (by rfl) (by rfl) (hY 0 h0 ds [_, _] G hJ) ?_
  rintro yb _ ⟨G1, rfl, hb⟩
  refine WS_det hF (by rfl) (y_not (by rfl)) ?_
  refine WS_nil ?_
  refine Then_normal ?_
  refine W_cond (by rfl) (fun c1 => ?_) (fun c1 => ?_)
  ·
    try simp only [Bool.not_eq_true', Bool.not_eq_false', decide_eq_true_eq, decide_eq_false_iff_not, ne_eq, Classical.not_not, Int.not_lt, Int.not_le] at c1
    obtain ⟨rfl, hj⟩ | ⟨_, hj⟩ := hb
    · cases c1
    refine W_ret ?_
    refine Then_ret ?_
    refine Fin_ret [] ((bx, _) :: G1) Try.results140 trivial (HSub.sub (by repeat (first | exact List.Sublist.refl _ | exact List.nil_sublist _ | apply List.Sublist.cons_cons | apply List.Sublist.cons))) ?_
    exact ⟨G1, rfl, .inr ⟨0, h0, hj⟩⟩
  ·
    try simp only [Bool.not_eq_true', Bool.not_eq_false', decide_eq_true_eq, decide_eq_false_iff_not, ne_eq, Classical.not_not, Int.not_lt, Int.not_le] at c1
    obtain ⟨_, hj⟩ | ⟨rfl, hj⟩ := hb
    case inr => cases c1
    refine W_skip ?_
    refine Then_normal ?_
    refine W_seq ?_
    refine W_region_lit (fun ds => ?_)
    refine WS_det hF (by rfl) (y_load1 (by rfl) Try.isAgg108 (Mem.own1 1 (by rfl) (by rfl))) ?_
    refine WS_det hF (by rfl) (by first | exact y_nilCheck (by rfl) | exact y_nilCheckF (by rfl)) ?_
    refine WS_det hF (by rfl) (y_fieldAddr (by rfl) fa119_1) ?_
    refine WS_det hF (by rfl) (y_fieldAddr (by rfl) fa46_2) ?_
    refine WS_det hF (by rfl) (y_load1 (by rfl) Try.isAgg44 (by first | exact Mem.old1 (by assumption) | exact Mem.oldAt1 (by assumption) (by rfl) | exact Mem.old (by assumption) | exact Mem.oldAtL1 (by assumption) (by rfl) (by rfl))) ?_
    refine WS_det hF (by rfl) (y_len (by rfl) Try.runUnderlying44) ?_
    refine WS_det hF (by rfl) (y_move (c := .int .i64 _) (by rfl)) ?_
    refine WS_nil ?_
    refine Then_normal ?_
    refine W_block ?_
    refine W_loop (γ := Nat × List Blk) (fun p => p.1 ≤ l.es.length ∧ (∀ j, j ≤ p.1 → (l.hold j).empty = false) ∧ l.times = p.1 + l.steps p.1 (l.es.length - p.1) ∧ J (p.1 + 1) p.2) (fun p => [(0, .func (.yield lp) #[] #[]), (1, .pointer (some ⟨bx, 0, none⟩)), (3, .pointer (some ⟨b1, 0, none⟩)), (19, .int .i64 (l.es.length : Int)), (20, .int .i64 (p.1 : Int))]) (fun p => (b1, CB (l.hold p.1).cells 26) :: (bx, CB [.pointer (some ⟨bk, 0, none⟩)] 108) :: p.2) (fun p => l.es.length - p.1) ((0, G1)) ⟨Nat.zero_le _, fun j hj => by obtain rfl : j = 0 := (by omega); exact he0, by show l.times = 0 + l.times; omega, hj⟩ (by repeat (first | exact trivial | refine ⟨by rfl, ?_⟩)) (List.Sublist.refl _) ?_
    rintro ⟨k, G2⟩ e ⟨hk, hne, htm, hj2⟩
    refine W_seq ?_
    refine W_region_lit (fun ds => ?_)
    refine WS_det hF (by rfl) (y_lss (by rfl) (by rfl)) ?_
    refine WS_nil ?_
    refine Then_normal ?_
    refine W_seq ?_
    refine W_cond (by rfl) (fun c3 => ?_) (fun c3 => ?_)
    ·
      try simp only [Bool.not_eq_true', Bool.not_eq_false', decide_eq_true_eq, decide_eq_false_iff_not, ne_eq, Classical.not_not, Int.not_lt, Int.not_le] at c3
      have hk1 : k + 1 < l.times := by
        rw [htm, show l.es.length - k = (l.es.length - (k + 1)) + 1 by omega, l.steps_more (hne k (Nat.le_refl _))]
        have := l.steps_pos (k + 1) (l.es.length - (k + 1))
        omega
      refine W_skip ?_
      refine Then_normal ?_
      refine W_seq ?_
      refine W_block ?_
      refine W_seq ?_
      refine W_region_lit (fun ds => ?_)
      refine WS_det hF (by rfl) (y_move (c := .int .i64 _) (by rfl)) ?_
      refine WS_det hF (by rfl) (y_assign (c := .int .i64 _) (by rfl)) ?_
      refine WS_nil ?_
      refine Then_normal ?_
      refine W_seq ?_
      refine W_region_lit (fun ds => ?_)
      refine WS_det hF (by rfl) (y_load1 (by rfl) Try.isAgg108 (Mem.own1 1 (by rfl) (by rfl))) ?_
      refine WS_det hF (by rfl) (y_move (c := .int .i64 _) (by rfl)) ?_
      refine WS_det hF (by rfl) (y_loadN (by rfl) Try.isAgg26 Try.sizeOf26 (Mem.own (us := [.int .i64 _, .int .i64 _]) 0 (by rfl) (by rfl)) (by rfl)) ?_
      refine WS_det hF (by rfl) (y_callL (by rfl) (by rfl) Try.call103 (fun w hw => after_any bk l k (l.hold k) w (hB0.st w hw) (by omega) (hok.hold_sm (by omega) (fun j hj => hne j (by omega)) (hne k (Nat.le_refl _))))) ?_
      refine WS_store hF (i := 0) (by rfl) (by rfl) Try.sizeOf26 (by rfl) (by rfl) (by rfl) (by first | decide | exact Nat.le_of_ble_eq_true rfl | simp) ?_
      refine WS_nil ?_
      refine Then_normal ?_
      refine W_seq ?_
      refine W_region_lit (fun ds => ?_)
      refine WS_det hF (by rfl) (y_move (c := _) (by rfl)) ?_
      refine WS_det hF (by rfl) (y_move (c := .int .i64 _) (by rfl)) ?_
      refine WS_det hF (by rfl) (y_add (by rfl) (by rfl) (by unfold I64; omega)) ?_
      refine WS_det hF (by rfl) (y_loadN (by rfl) Try.isAgg26 Try.sizeOf26 (Mem.own (us := [.int .i64 _, .int .i64 _]) 0 (by rfl) (by rfl)) (by rfl)) ?_
      refine WS_yield (by rfl) (by rfl) (by rfl) (hY (k + 1) hk1 ds [_, _] G2 hj2) ?_
      rintro yb _ ⟨G3, rfl, hb⟩
      refine WS_det hF (by rfl) (y_not (by rfl)) ?_
      refine WS_det hF (by rfl) (y_move (c := .bool _) (by rfl)) ?_
      refine WS_split 33 (by rfl) (fun g6_6 => ?_) (fun g6_6 => ?_)
      ·
        try simp only [Bool.not_eq_true', Bool.not_eq_false', decide_eq_true_eq, decide_eq_false_iff_not, ne_eq, Classical.not_not, Int.not_lt, Int.not_le] at g6_6
        obtain ⟨rfl, hj3⟩ | ⟨_, hj3⟩ := hb
        · cases g6_6
        refine WS_no hF (by rfl) ?_
        refine WS_no hF (by rfl) ?_
        refine WS_det hF (by rfl) (by first | exact y_pick_t (c := .bool _) (by rfl) (by rfl) | exact y_pick_f (c := .bool _) (by rfl) (by rfl)) ?_
        refine WS_nil ?_
        refine Then_normal ?_
        refine W_cond (by rfl) (fun c6 => ?_) (fun c6 => ?_)
        ·
          try simp only [Bool.not_eq_true', Bool.not_eq_false', decide_eq_true_eq, decide_eq_false_iff_not, ne_eq, Classical.not_not, Int.not_lt, Int.not_le] at c6
          refine W_ret ?_
          refine InB_ret ?_
          refine Then_ret ?_
          refine Loop_ret ?_
          refine InB_ret ?_
          refine Fin_ret [] ((bx, _) :: G3) Try.results140 trivial (HSub.sub (by repeat (first | exact List.Sublist.refl _ | exact List.nil_sublist _ | apply List.Sublist.cons_cons | apply List.Sublist.cons))) ?_
          exact ⟨G3, rfl, .inr ⟨k + 1, hk1, hj3⟩⟩
        · cases c6
      ·
        try simp only [Bool.not_eq_true', Bool.not_eq_false', decide_eq_true_eq, decide_eq_false_iff_not, ne_eq, Classical.not_not, Int.not_lt, Int.not_le] at g6_6
        obtain ⟨_, hj3⟩ | ⟨rfl, hj3⟩ := hb
        case inr => cases g6_6
        refine WS_det hF (by rfl) (y_loadN (by rfl) Try.isAgg26 Try.sizeOf26 (Mem.own (us := [.int .i64 _, .int .i64 _]) 0 (by rfl) (by rfl)) (by rfl)) ?_
        refine WS_det hF (by rfl) (y_callL (by rfl) (by rfl) Try.call74 (fun w hw => empty_any (l.hold (k + 1)).lo (l.hold (k + 1)).hi w)) ?_
        refine WS_det hF (by rfl) (by first | exact y_pick_t (c := .bool _) (by rfl) (by rfl) | exact y_pick_f (c := .bool _) (by rfl) (by rfl)) ?_
        refine WS_nil ?_
        refine Then_normal ?_
        refine W_cond (by rfl) (fun c6 => ?_) (fun c6 => ?_)
        ·
          try simp only [Bool.not_eq_true', Bool.not_eq_false', decide_eq_true_eq, decide_eq_false_iff_not, ne_eq, Classical.not_not, Int.not_lt, Int.not_le] at c6
          refine W_ret ?_
          refine InB_ret ?_
          refine Then_ret ?_
          refine Loop_ret ?_
          refine InB_ret ?_
          refine Fin_ret [] ((bx, _) :: G3) Try.results140 trivial (HSub.sub (by repeat (first | exact List.Sublist.refl _ | exact List.nil_sublist _ | apply List.Sublist.cons_cons | apply List.Sublist.cons))) ?_
          refine ⟨G3, rfl, .inl ?_⟩
          rw [htm, show l.es.length - k = (l.es.length - (k + 1)) + 1 by omega, l.steps_more (hne k (Nat.le_refl _)), l.steps_end (by unfold Sn.empty; simp only [decide_eq_true_eq]; omega)]
          rw [show k + (1 + 1) = k + 1 + 1 by omega]
          exact hj3
        ·
          try simp only [Bool.not_eq_true', Bool.not_eq_false', decide_eq_true_eq, decide_eq_false_iff_not, ne_eq, Classical.not_not, Int.not_lt, Int.not_le] at c6
          have hne1 : ∀ j, j ≤ k + 1 → (l.hold j).empty = false := fun j hj => by
            obtain hj | rfl : j ≤ k ∨ j = k + 1 := by omega
            · exact hne j hj
            · unfold Sn.empty; simp only [decide_eq_false_iff_not]; omega
          have htm1 : l.times = (k + 1) + l.steps (k + 1) (l.es.length - (k + 1)) := by
            rw [htm, show l.es.length - k = (l.es.length - (k + 1)) + 1 by omega, l.steps_more (hne k (Nat.le_refl _))]; omega
          refine W_skip ?_
          refine InB_normal ?_
          refine Then_normal ?_
          refine W_region_lit (fun ds => ?_)
          refine WS_det hF (by rfl) (y_add (by rfl) (by rfl) (by unfold I64; omega)) ?_
          refine WS_det hF (by rfl) (y_move (c := .int .i64 _) (by rfl)) ?_
          refine WS_nil ?_
          exact Loop_next (k + 1, G3) ⟨by omega, hne1, htm1, hj3⟩ (by repeat (first | exact trivial | refine ⟨by rfl, ?_⟩)) (by repeat (first | exact List.Sublist.refl _ | exact List.nil_sublist _ | apply List.Sublist.cons_cons | apply List.Sublist.cons)) (by simp only; omega)
    ·
      try simp only [Bool.not_eq_true', Bool.not_eq_false', decide_eq_true_eq, decide_eq_false_iff_not, ne_eq, Classical.not_not, Int.not_lt, Int.not_le] at c3
      refine W_exit ?_
      refine Then_exit ?_
      refine Loop_exit ?_
      refine InB_same ?_
      refine Fin_norm [] ((bx, _) :: G2) Try.results140 trivial (HSub.sub (by repeat (first | exact List.Sublist.refl _ | exact List.nil_sublist _ | apply List.Sublist.cons_cons | apply List.Sublist.cons))) ?_
      refine ⟨G2, rfl, .inl ?_⟩
      obtain rfl : k = l.es.length := by omega
      rw [htm, Nat.sub_self]; exact hj2
theorem holds2_any (bk : Nat) (l : Lg) (w : World) (hB : Bk w bk l) : Ct Try.prog 82 #[.pointer (some ⟨bk, 0, none⟩)] w fun v _ => v = .bool l.holdsB := by
  have htl := l.times_le
  have hF := wide_wide
  refine Ct_start (args := [_]) Try.func82 (by rfl) Try.ntmps82 (by rfl) ?_
  refine W_seq ?_
  refine W_region_lit (fun ds => ?_)
  refine WS_new hF (by rfl) (y_alloc Try.zeroValue4 (by rfl)) (fun b1 => ?_)
  refine WS_nil ?_
  refine Then_normal ?_
  refine W_seq ?_
  refine W_seq ?_
  refine W_region_lit (fun ds => ?_)
  refine WS_det hF (by rfl) (y_move (c := .pointer _) (by rfl)) ?_
  refine WS_gen hF (by rfl) (y_callL (by rfl) (by rfl) Try.call125 (fun w hw => holding_any bk w)) ?_
  rintro _ _ ⟨bx, rfl, rfl⟩
  refine WS_nil ?_
  refine Then_normal ?_
  refine W_block ?_
  refine W_range hF (by rfl) (encs := (fun k => [.int .i64 (k : Int), .agg (l.hold k).cells.toArray])) (N := l.times) (H0 := [(bx, CB [.pointer (some ⟨bk, 0, none⟩)] 108)]) (G0 := [_]) (fun k G => G = [(b1, CB [.bool false] 4)] ∧ ∀ j, j < k → (l.hold j).empty = false) (fun c k G => c = .ret ∧ (l.hold (k - 1)).empty = true ∧ G = [(b1, CB [.bool false] 4)]) (by rfl) Try.call140 (by rfl) (fun _ => rfl) (fun ds => holding_it2 l _ _ _ bx bk hB) (⟨rfl, fun j hj => by omega⟩) ((SubP.hsub (SubP.pick 0 (by rfl) (SubP.pick 0 (by rfl) (SubP.nil))))) ?_ ?_ ?_
  · rintro k hk G hj out lpr R R'
    have hF := wide_inRound wide_wide lpr
    obtain ⟨rfl, hne⟩ := hj
    refine W_region_lit (fun ds => ?_)
    refine WS_new hF (by rfl) (y_alloc Try.zeroValue26 (by rfl)) (fun b2 => ?_)
    refine WS_store hF (i := 0) (by rfl) (by rfl) Try.sizeOf26 (by rfl) (by rfl) (by rfl) (by first | decide | exact Nat.le_of_ble_eq_true rfl | simp) ?_
    refine WS_nil ?_
    refine Then_normal ?_
    refine ⟨[_, _], rfl, ?_⟩
    refine W_block ?_
    refine W_seq ?_
    refine W_region_lit (fun ds => ?_)
    refine WS_det hF (by rfl) (y_loadN (by rfl) Try.isAgg26 Try.sizeOf26 (Mem.own (us := [.int .i64 _, .int .i64 _]) 0 (by rfl) (by rfl)) (by rfl)) ?_
    refine WS_det hF (by rfl) (y_callL (by rfl) (by rfl) Try.call74 (fun w hw => empty_any (l.hold k).lo (l.hold k).hi w)) ?_
    refine WS_nil ?_
    refine Then_normal ?_
    refine W_cond (by rfl) (fun c3 => ?_) (fun c3 => ?_)
    ·
      try simp only [Bool.not_eq_true', Bool.not_eq_false', decide_eq_true_eq, decide_eq_false_iff_not, ne_eq, Classical.not_not, Int.not_lt, Int.not_le] at c3
      refine W_seq ?_
      refine W_region_lit (fun ds => ?_)
      refine WS_store hF (i := 1) (by rfl) (by rfl) Try.sizeOf4 (by rfl) (by rfl) (by rfl) (by first | decide | exact Nat.le_of_ble_eq_true rfl | simp) ?_
      refine WS_nil ?_
      refine Then_normal ?_
      refine W_ret ?_
      refine InB_ret ?_
      refine ⟨[_], (SubP.hsub (SubP.pick 1 (by rfl) (by exact SubP.drop (SubP.refl)))), rfl, ?_, rfl⟩
      show (l.hold k).empty = true
      unfold Sn.empty; simp only [decide_eq_true_eq]; omega
    ·
      try simp only [Bool.not_eq_true', Bool.not_eq_false', decide_eq_true_eq, decide_eq_false_iff_not, ne_eq, Classical.not_not, Int.not_lt, Int.not_le] at c3
      refine W_skip ?_
      refine InB_normal ?_
      refine ⟨[_], (SubP.hsub (SubP.pick 1 (by rfl) (by exact SubP.drop (SubP.refl)))), rfl, fun j hj => ?_⟩
      obtain hj | rfl : j < k ∨ j = k := by omega
      · exact hne j hj
      · unfold Sn.empty; simp only [decide_eq_false_iff_not]; omega
  · rintro G hj
    obtain ⟨rfl, hne⟩ := hj
    have htf := l.times_full hne
    refine InB_normal ?_
    refine Then_normal ?_
    refine W_seq ?_
    refine W_region_lit (fun ds => ?_)
    refine WS_store hF (i := 1) (by rfl) (by rfl) Try.sizeOf4 (by rfl) (by rfl) (by rfl) (by first | decide | exact Nat.le_of_ble_eq_true rfl | simp) ?_
    refine WS_nil ?_
    refine Then_normal ?_
    refine W_ret ?_
    refine Fin_ret [_] [] Try.results82 ⟨lv1 (by rfl) Try.isAgg4 (Mem.own1 1 (by rfl) (by rfl)), trivial⟩ HSub.nil ?_
    show Value.bool true = _
    rw [l.holdsB_iff.2 fun k hk => hne k (by omega)]
  · rintro c k G hk hj
    obtain ⟨rfl, hemp, rfl⟩ := hj
    refine W_ret ?_
    refine InB_ret ?_
    refine Then_ret ?_
    refine Fin_ret [_] [] Try.results82 ⟨lv1 (by rfl) Try.isAgg4 (Mem.own1 1 (by rfl) (by rfl)), trivial⟩ HSub.nil ?_
    show Value.bool false = _
    congr 1
    cases hb : l.holdsB with
    | false => rfl
    | true => rw [Nat.add_sub_cancel, l.holdsB_iff.1 hb k (by omega)] at hemp; cases hemp
theorem kp_sorted {l : Lg} (h : l.Ok) (D : List Int) : ∀ i, i ≤ l.es.length → (∀ j, j < (l.woK D i).es.length → ∃ m, m < i ∧ (l.woK D i).e j = l.e m) ∧ ∀ j, j + 1 < (l.woK D i).es.length → ((l.woK D i).e j).day ≤ ((l.woK D i).e (j + 1)).day
  | 0, _ => ⟨fun j hj => by simp [Lg.woK, kpK] at hj, fun j hj => by simp [Lg.woK, kpK] at hj⟩
  | i + 1, hi => by
    obtain ⟨h1, h2⟩ := kp_sorted h D i (by omega)
    have hdm : ∀ a b, a ≤ b → b < l.es.length → (l.e a).day ≤ (l.e b).day := by
      intro a b hab
      induction b with
      | zero => intro _; obtain rfl : a = 0 := (by omega); exact Int.le_refl _
      | succ b ih =>
        intro hb
        by_cases hx : a = b + 1
        · subst hx; exact Int.le_refl _
        · exact Int.le_trans (ih (by omega) (by omega)) (h.mono b hb)
    by_cases hk : kpB D i = true
    · have hlen : (l.woK D (i + 1)).es.length = (l.woK D i).es.length + 1 := by rw [l.woK_len, l.woK_len, kpK_succ, if_pos hk, List.length_append]; rfl
      have he : ∀ j, j < (l.woK D i).es.length → (l.woK D (i + 1)).e j = (l.woK D i).e j := fun j hj => by
        rw [l.woK_len] at hj
        unfold Lg.woK Lg.e
        simp only
        rw [kpK_succ, if_pos hk, List.map_append]
        simp [List.getD_eq_getElem?_getD, List.getElem?_append_left, hj]
      have hl : (l.woK D (i + 1)).e (l.woK D i).es.length = l.e i := by
        rw [l.woK_len]
        unfold Lg.woK Lg.e
        simp only
        rw [kpK_succ, if_pos hk, List.map_append]
        simp [List.getD_eq_getElem?_getD]
      refine ⟨fun j hj => ?_, fun j hj => ?_⟩
      · by_cases hjl : j < (l.woK D i).es.length
        · obtain ⟨m, hm, hme⟩ := h1 j hjl
          exact ⟨m, by omega, (he j hjl).trans hme⟩
        · obtain rfl : j = (l.woK D i).es.length := by omega
          exact ⟨i, by omega, hl⟩
      · by_cases hjl : j + 1 < (l.woK D i).es.length
        · rw [he j (by omega), he (j + 1) hjl]; exact h2 j hjl
        · have hje : j + 1 = (l.woK D i).es.length := by omega
          obtain ⟨m, hm, hme⟩ := h1 j (by omega)
          rw [he j (by omega), hje, hl, hme]
          exact hdm m i (by omega) (by omega)
    · have hw : l.woK D (i + 1) = l.woK D i := by unfold Lg.woK; rw [kpK_succ, if_neg hk]
      rw [hw]
      exact ⟨fun j hj => by obtain ⟨m, hm, hme⟩ := h1 j hj; exact ⟨m, by omega, hme⟩, h2⟩
theorem Lg.Ok.wo {l : Lg} (h : l.Ok) (D : List Int) : (l.wo D).Ok := by
  obtain ⟨h1, h2⟩ := kp_sorted h D l.es.length (Nat.le_refl _)
  have hl := kpK_le D l.es.length
  have hn := h.n12
  refine ⟨h.tk, h.start, by show (l.woK D _).es.length ≤ 12; rw [l.woK_len]; omega, fun k hk => ?_, fun k hk => h2 k hk, fun k hk => ?_, fun k hk => ?_⟩
  · obtain ⟨m, hm, he⟩ := h1 k hk
    show 0 ≤ ((l.woK D _).e k).day ∧ _ ≤ _
    rw [show (l.wo D).e k = l.e m from he, he]; exact h.day m hm
  · obtain ⟨m, hm, he⟩ := h1 k hk
    rw [show (l.wo D).e k = l.e m from he]; exact h.kind m hm
  · obtain ⟨m, hm, he⟩ := h1 k hk
    rw [show (l.wo D).e k = l.e m from he]; exact h.size m hm
end Go.Proofs.Ythkimgfgpphgnaa.T

/- A region whose order is open, order by order: pure operations first, then the others as they are ready. No project text. -/
namespace Go.Eng
open Go.RowKit
section
variable {C : Ctx} {F : Fence} {n : Nat} {ds : List Deferred} {ops : Array Oper} {Q : Exit → Env → List Blk → Prop} {fuel : Nat} {listed : Array Bool} {e : Env} {H : List Blk}
def WA (C : Ctx) (F : Fence) (n : Nat) (ds : List Deferred) (ops : Array Oper) (Q : Exit → Env → List Blk → Prop) (fuel : Nat) (listed : Array Bool) (e : Env) (H : List Blk) : Prop :=
  ∀ w, St C H w → ∀ a, Rep n ds a e → wpAnyIn F 0 C.P .any ops (lift C n ds Q) fuel listed a w
/-- Only the normal end. -/
def OnlyQ (M : Env → List Blk → Prop) : Exit → Env → List Blk → Prop
  | .normal, e, H => M e H
  | _, _, _ => False
def Pure (P : Program) (e : Env) (o : Oper) (c : Value) : Prop := (∀ w, (execOp (ev e) o).run P w = .ok (.value c) w) ∧ ∀ w, o.about P w (ev e) = none
theorem pure_move {P : Program} {d : Option Tmp} {x : Operand} {c : Value} {ty : TypeId} {pos : String} {af : Array Edge} {g : Option (Nat × Bool)} (hx : ev e x = c) : Pure P e ⟨d, .move x, ty, pos, af, g⟩ c :=
  ⟨fun w => by simp [execOp, hx], fun _ => rfl⟩
theorem pure_add {P : Program} {d : Option Tmp} {x y : Operand} {T T' : TypeId} {m k : Int} {ty : TypeId} {pos : String} {af : Array Edge} {g : Option (Nat × Bool)} (hx : ev e x = .int .i64 m) (hy : ev e y = .int .i64 k) (h : I64 (m + k)) : Pure P e ⟨d, .binOp .add T x y T', ty, pos, af, g⟩ (.int .i64 (m + k)) :=
  ⟨fun w => by simp [execOp, hx, hy, eqGuard, binOp, Op.intArith, wrapI h], fun _ => rfl⟩
theorem pure_sub {P : Program} {d : Option Tmp} {x y : Operand} {T T' : TypeId} {m k : Int} {ty : TypeId} {pos : String} {af : Array Edge} {g : Option (Nat × Bool)} (hx : ev e x = .int .i64 m) (hy : ev e y = .int .i64 k) (h : I64 (m - k)) : Pure P e ⟨d, .binOp .sub T x y T', ty, pos, af, g⟩ (.int .i64 (m - k)) :=
  ⟨fun w => by simp [execOp, hx, hy, eqGuard, binOp, Op.intArith, wrapI h], fun _ => rfl⟩
theorem WA_take {M : Env → List Blk → Prop} (i : Nat) {o : Oper} {c : Value} (hro : F.round = none) (hi : ops[i]? = some o) (hs : Region.noSelect ops = true) (hf : (Region.free .any ops listed i && (Region.ready .any ops listed).contains i && dOk n o.dst) = true) (hg : o.guard = none)
    (hp : Pure C.P e o c) (h : WA C F n ds ops (OnlyQ M) fuel (listed.setIfInBounds i true) (updo e o.dst c) H) : WA C F n ds ops (OnlyQ M) (fuel + 1) listed e H := fun w hw a ha => by
  simp only [Bool.and_eq_true] at hf
  refine wpAnyIn_take hro hi hs hf.1.1 hf.1.2 (fun c a w hq => ?_) ⟨.inl ⟨?_, fun w => ?_⟩, fun w => ?_⟩ (h w hw _ (ha.put o.dst hf.2))
  · obtain ⟨_, _, _, _, hq⟩ := hq; exact hq.elim
  · unfold Region.wanted; rw [hg]
  · rw [ha.eval]; exact hp.1 w
  · rw [ha.eval]; exact hp.2 w
def NextQ (M : Env → List Blk → Prop) (N : Env → List Blk → Prop) : Exit → Env → List Blk → Prop
  | .normal, e, H => N e H
  | x, e, H => OnlyQ M x e H
theorem WA_op {M : Env → List Blk → Prop} {i : Nat} {o : Oper} (hi : ops[i]? = some o) (h : WS C F n ds ops (NextQ M fun e H => WA C F n ds ops (OnlyQ M) fuel (listed.setIfInBounds i true) e H) [o] e H) (w : World) (hw : St C H w) (a : Act) (ha : Rep n ds a e) :
    wpOpIn F 0 C.P ops (lift C n ds (OnlyQ M)) i (wpAnyIn F 0 C.P .any ops (lift C n ds (OnlyQ M)) fuel (listed.setIfInBounds i true)) a w := by
  have h1 := h w hw a ha
  unfold wpOpIn
  rw [hi]
  simp only []
  have hk : ∀ a w, lift C n ds (NextQ M fun e H => WA C F n ds ops (OnlyQ M) fuel (listed.setIfInBounds i true) e H) .normal a w → wpAnyIn F 0 C.P .any ops (lift C n ds (OnlyQ M)) fuel (listed.setIfInBounds i true) a w := fun a w ⟨e', H', g1, g2, g3⟩ => g3 w g2 a g1
  have hq : ∀ x, x ≠ .normal → ∀ a w, lift C n ds (NextQ M fun e H => WA C F n ds ops (OnlyQ M) fuel (listed.setIfInBounds i true) e H) x a w → lift C n ds (OnlyQ M) x a w := fun x hx a w ⟨e', H', g1, g2, g3⟩ => ⟨e', H', g1, g2, by cases x <;> first | exact g3 | exact absurd rfl hx⟩
  unfold wpListIn at h1
  split at h1
  · rename_i hwt
    rw [if_pos hwt]
    exact wpIn_to hk hq h1
  · rename_i hwt
    rw [if_neg hwt]
    exact ⟨h1.1, hk _ _ h1.2⟩
theorem WA_step1 {M : Env → List Blk → Prop} (i : Nat) {o : Oper} (hr : Region.ready .any ops listed = [i]) (hi : ops[i]? = some o)
    (h : WS C F n ds ops (NextQ M fun e H => WA C F n ds ops (OnlyQ M) fuel (listed.setIfInBounds i true) e H) [o] e H) : WA C F n ds ops (OnlyQ M) (fuel + 1) listed e H := fun w hw a ha => by
  refine wpAnyIn_all hr (by simp) fun k hk => ?_
  obtain rfl := List.mem_singleton.1 hk
  exact WA_op hi h w hw a ha
theorem WA_step2 {M : Env → List Blk → Prop} (i j : Nat) {o p : Oper} (hr : Region.ready .any ops listed = [i, j]) (hi : ops[i]? = some o) (hj : ops[j]? = some p)
    (h : WS C F n ds ops (NextQ M fun e H => WA C F n ds ops (OnlyQ M) fuel (listed.setIfInBounds i true) e H) [o] e H)
    (h' : WS C F n ds ops (NextQ M fun e H => WA C F n ds ops (OnlyQ M) fuel (listed.setIfInBounds j true) e H) [p] e H) : WA C F n ds ops (OnlyQ M) (fuel + 1) listed e H := fun w hw a ha => by
  refine wpAnyIn_all hr (by simp) fun k hk => ?_
  rcases List.mem_cons.1 hk with rfl | hk
  · exact WA_op hi h w hw a ha
  · obtain rfl := List.mem_singleton.1 hk
    exact WA_op hj h' w hw a ha
theorem WA_step3 {M : Env → List Blk → Prop} (i j k : Nat) {o p q : Oper} (hr : Region.ready .any ops listed = [i, j, k]) (hi : ops[i]? = some o) (hj : ops[j]? = some p) (hk : ops[k]? = some q)
    (h : WS C F n ds ops (NextQ M fun e H => WA C F n ds ops (OnlyQ M) fuel (listed.setIfInBounds i true) e H) [o] e H)
    (h' : WS C F n ds ops (NextQ M fun e H => WA C F n ds ops (OnlyQ M) fuel (listed.setIfInBounds j true) e H) [p] e H)
    (h'' : WS C F n ds ops (NextQ M fun e H => WA C F n ds ops (OnlyQ M) fuel (listed.setIfInBounds k true) e H) [q] e H) : WA C F n ds ops (OnlyQ M) (fuel + 1) listed e H := fun w hw a ha => by
  refine wpAnyIn_all hr (by simp) fun t ht => ?_
  rcases List.mem_cons.1 ht with rfl | ht
  · exact WA_op hi h w hw a ha
  · rcases List.mem_cons.1 ht with rfl | ht
    · exact WA_op hj h' w hw a ha
    · obtain rfl := List.mem_singleton.1 ht
      exact WA_op hk h'' w hw a ha
theorem WA_done {M : Env → List Blk → Prop} (hr : Region.ready .any ops listed = []) (h : M e H) : WA C F n ds ops (OnlyQ M) fuel listed e H := fun _ hw _ ha => wpAnyIn_done hr ⟨e, H, ha, hw, h⟩ fuel
theorem W_tailA {id : Nat} {l : List Oper} (m : Nat) (hm : C.P.follows .mixedOrders = true) (M : Env → List Blk → Prop)
    (hph : (tailB l.toArray m && Nat.ble m l.length) = true)
    (hrest : ∀ ds e H, M e H → WS (C.at ds) F n ds l.toArray Q (l.drop m) e H) (hp : ∀ ds, WA (C.at ds) F n ds (l.take m).toArray (OnlyQ M) m (Array.replicate m false) e H) :
    W C F n ds (.region id l.toArray true) Q e H := fun dd w hw a ha => by
  simp only [Bool.and_eq_true] at hph
  obtain ⟨ht, hml⟩ := hph
  have hml : m ≤ l.length := Nat.le_of_ble_eq_true hml
  have hlen : (l.take m).length = m := by simp; omega
  have hl : l.take m ++ l.drop m = l := List.take_append_drop m l
  have ht' : Tail (l.take m ++ l.drop m).toArray (l.take m).length := by rw [hl, hlen]; exact tail_of ht
  have hd : ∀ i k, edge (l.take m).toArray i k = true → k < i := fun i k hk => by
    have hi : i < (l.take m).length := by simpa using edge_lt hk
    refine ht'.down i k ?_
    unfold edge at hk ⊢
    rwa [show (l.take m ++ l.drop m).toArray[i]? = (l.take m).toArray[i]? by rw [List.getElem?_toArray, List.getElem?_toArray, List.getElem?_append_left hi]]
  refine wpIn_mono (Q := lift (C.at dd) n dd Q) (wpIn_region_any hm ?_) fun _ _ _ h => lift_M h
  have h1 := hp dd w.drew ⟨hw.drew.1, hw.drew.2, hw.drew.3⟩ a ha
  have h2 := tail_any (P := C.P) (F := F) (pre := l.take m) (post := l.drop m) (Q := lift (C.at dd) n dd Q) (Q' := lift (C.at dd) n dd (OnlyQ M)) ht' hd
    (fun x hx a w ⟨e, H, g1, g2, g3⟩ => by cases x <;> first | exact g3.elim | exact absurd rfl hx) (fun a w ⟨e, H, g1, g2, g3⟩ => by rw [hl]; exact hrest dd e H g3 w g2 a g1)
    m l.toArray.size (Array.replicate m false) a w.drew (by simp [hlen]) (fun j k hj => by
      unfold Lst at hj
      rw [Array.getD_eq_getD_getElem?, Array.getElem?_replicate] at hj
      split at hj <;> cases hj) (by simp; omega) h1
  rw [hl] at h2
  have hrep : Array.replicate m false ++ Array.replicate (l.drop m).length false = Array.replicate l.toArray.size false := by
    rw [Array.replicate_append_replicate]
    congr 1
    simp; omega
  rw [hrep] at h2
  exact h2
end
end Go.Eng

/- Dips that must be false: the walks of the closures. -/
namespace Go.Proofs.Ythkimgfgpphgnaa.T
open Go.RowKit Go.Proofs Go.Eng
set_option maxRecDepth 100000
set_option linter.unusedVariables false
set_option linter.unusedSimpArgs false



section
variable {C : Ctx} {e : Env} {H : List Blk} {d : Option Tmp} {ty : TypeId} {pos : String} {af : Array Edge} {g : Option (Nat × Bool)}
theorem y_eqlNil {x y : Operand} {T E T' : TypeId} {a : Option Addr} {n c : Nat} (hx : ev e x = .slice a n c) (hy : ev e y = .slice none 0 0) (hT : ∀ w, (underlying T).run C.P w = .ok (.slice E) w) : YD C ⟨d, .binOp .eql T x y T', ty, pos, af, g⟩ e H (.bool a.isNone) := yd_of fun w _ => by
  have h : (Op.equalIn Op.maxDepth T (.slice a n c) (.slice none 0 0)).run C.P w = .ok a.isNone w := by
    unfold Op.maxDepth Op.equalIn
    rw [Sem.run_bind, hT]
    cases a <;> simp
  simp [execOp, hx, hy, eqGuard, binOp, Op.equal, h]
end
theorem Row.ints {C : Ctx} {H Hn : List Blk} {T : TypeId} {a : Option Addr} {n cap : Nat} {xs : List Int} (h : Row T 1 a n cap (iv xs) Hn) (hl : xs.length = n) (hs : Hn.Sublist H) (w : World) (hw : St C H w) : Ints w a n cap xs := by
  rcases h with ⟨rfl, rfl, rfl, _, rfl⟩ | ⟨b, junk, rfl, rfl, h1, h2, h3⟩
  · rw [List.length_eq_zero_iff.1 hl]; exact Ints.nil _ _ _
  · exact Ints.mem (rest := junk) 0 rfl hl h3 w (hw.sub hs)
theorem clone_any (ta : Option Addr) (tn tcap : Nat) (D : List Int) (w : World) (hD : Ints w ta tn tcap D) (htn : tn ≤ 1000000) (hnil : ta = none ∧ tn = 0 ∨ ta ≠ none ∧ 0 < tn) :
    Ct Try.prog 79 #[.slice ta tn tcap] w fun v Hn => ∃ a' cap', v = .slice a' tn cap' ∧ Row 3 1 a' tn cap' (iv D) Hn ∧ (a' = none ∧ tn = 0 ∨ a' ≠ none ∧ 0 < tn) := by
  have hlen : (iv D).length = tn * 1 := by rw [Nat.mul_one]; exact (List.length_map _).trans hD.len
  have hF := wide_wide
  refine Ct_start (args := [_]) Try.func79 (by rfl) Try.ntmps79 (by rfl) ?_
  refine W_seq ?_
  refine W_region_lit (fun ds => ?_)
  refine WS_det hF (by rfl) (y_assign (c := .slice _ _ _) (by rfl)) ?_
  refine WS_nil ?_
  refine Then_normal ?_
  refine W_seq ?_
  refine W_seq ?_
  refine W_region_lit (fun ds => ?_)
  refine WS_det hF (by rfl) (y_move (c := .slice _ _ _) (by rfl)) ?_
  refine WS_det hF (by rfl) (y_eqlNil (by rfl) (by rfl) Try.runUnderlying22) ?_
  refine WS_nil ?_
  refine Then_normal ?_
  refine W_cond (by rfl) (fun c1 => ?_) (fun c1 => ?_)
  ·
    try simp only [Bool.not_eq_true', Bool.not_eq_false', decide_eq_true_eq, decide_eq_false_iff_not, ne_eq, Classical.not_not, Int.not_lt, Int.not_le] at c1
    have ht : ta = none ∧ tn = 0 := by
      rcases hnil with h | h
      · exact h
      · cases ta with
        | none => exact absurd rfl h.1
        | some _ => cases c1
    obtain ⟨rfl, rfl⟩ := ht
    obtain rfl : D = [] := List.length_eq_zero_iff.1 hD.len
    refine W_seq ?_
    refine W_region_lit (fun ds => ?_)
    refine WS_det hF (by rfl) (y_assign (c := .slice _ _ _) (by rfl)) ?_
    refine WS_nil ?_
    refine Then_normal ?_
    refine W_ret ?_
    refine Then_ret ?_
    refine Fin_ret [.slice _ _ _] [] Try.results79 ⟨by rfl, trivial⟩ HSub.nil ?_
    exact ⟨none, 0, rfl, Row.nil 3 1, .inl ⟨rfl, rfl⟩⟩
  ·
    try simp only [Bool.not_eq_true', Bool.not_eq_false', decide_eq_true_eq, decide_eq_false_iff_not, ne_eq, Classical.not_not, Int.not_lt, Int.not_le] at c1
    have ht : ta ≠ none ∧ 0 < tn := by
      rcases hnil with h | h
      · rw [h.1] at c1; cases c1
      · exact h
    refine W_skip ?_
    refine Then_normal ?_
    refine W_seq ?_
    refine W_region_lit (fun ds => ?_)
    refine WS_newS hF (by rfl) (y_buildSliceL bs22_0 (by rfl)) (fun b1 => ?_)
    refine WS_det hF (by rfl) (y_move (c := .slice _ _ _) (by rfl)) ?_
    refine WS_gen hF (by rfl) (y_append0 (by rfl) (by rfl) Try.underlying22 infInt (by rfl) hD.src hlen (by omega) (by omega)) ?_
    rintro _ Hc hrow
    obtain ⟨a', cap', rfl, hle, ⟨hm, b, junk, rfl, rfl, hl2⟩ | ⟨h0, _⟩⟩ := hrow
    case inr => omega
    refine WS_det hF (by rfl) (y_assign (c := .slice _ _ _) (by rfl)) ?_
    refine WS_nil ?_
    refine Then_normal ?_
    refine W_ret ?_
    refine Fin_ret [.slice _ _ _] [(b, _)] Try.results79 ⟨by rfl, trivial⟩ (HSub.sub (by repeat (first | exact List.Sublist.refl _ | exact List.sublist_append_left _ _ | exact List.nil_sublist _ | apply List.Sublist.cons_cons | apply List.Sublist.cons | refine List.Sublist.trans ?_ (List.sublist_append_right _ _)))) ?_
    exact ⟨_, _, rfl, .inr ⟨b, junk, rfl, rfl, hlen, hl2, hle⟩, .inr ⟨by simp, hm⟩⟩
theorem w2_cs (w0 : World) (ds0 out0 : List Deferred) (pf pb bk g : Nat) (l : Lg) (a : Option Addr) (cap : Nat) (ae : Option Addr) (cape : Nat) (s0 : Value) (ta : Option Addr) (tn tcap : Nat) (D : List Int) (Ht L : List Blk)
    (hok : l.Ok) (hx : Ints w0 a l.tk.n cap l.tk.pints) (he : Ens w0 ae l.es.length cape l.es) (hrow : Row 3 1 ta tn tcap (iv D) Ht) (hD : D.length = tn) (htn : tn ≤ 1000) (hsub : Ht.Sublist L) :
    Cs ⟨Try.prog, w0, ds0, out0⟩ 80 #[.slice ta tn tcap, .pointer (some ⟨pf, 0, none⟩), .pointer (some ⟨pb, 0, none⟩)]
      ((pf, CB [s0] 22) :: (pb, CB [.pointer (some ⟨bk, 0, none⟩)] 108) :: (bk, CB (bookCells g l a cap ae cape) 119) :: (g, CB (gaugeCells l.tk a cap) 98) :: L)
      fun v H' => v = .bool (!(l.wo D).holdsB) ∧ H' = (pf, CB [.slice ta tn tcap] 22) :: (pb, CB [.pointer (some ⟨bk, 0, none⟩)] 108) :: (bk, CB (bookCells g l a cap ae cape) 119) :: (g, CB (gaugeCells l.tk a cap) 98) :: L := by
  have hF := wide_wide
  refine Cs_start (args := [_, _, _]) Try.func80 (by rfl) Try.ntmps80 (by rfl) ?_
  refine W_seq ?_
  refine W_region_lit (fun ds => ?_)
  refine WS_det hF (by rfl) (y_assign (c := .bool _) (by rfl)) ?_
  refine WS_nil ?_
  refine Then_normal ?_
  refine W_seq ?_
  refine W_region_lit (fun ds => ?_)
  refine WS_det hF (by rfl) (y_move (c := .slice _ _ _) (by rfl)) ?_
  refine WS_store hF (i := 0) (by rfl) (by rfl) Try.sizeOf22 (by rfl) (by rfl) (by rfl) (by first | decide | exact Nat.le_of_ble_eq_true rfl | simp) ?_
  refine WS_nil ?_
  refine Then_normal ?_
  refine W_seq ?_
  refine W_region_lit (fun ds => ?_)
  refine WS_det hF (by rfl) (y_load1 (by rfl) Try.isAgg108 (Mem.own1 1 (by rfl) (by rfl))) ?_
  refine WS_det hF (by rfl) (y_move (c := .slice _ _ _) (by rfl)) ?_
  refine WS_gen hF (by rfl) (y_callL (by rfl) (by rfl) Try.call81 (fun w hw => without_any bk g l a cap ae cape ta tn tcap D w hok (At.block0 (by repeat (first | exact List.mem_cons_self | apply List.mem_cons_of_mem)) w hw) (he.st w hw) (Row.ints hrow hD (hsub.trans (by repeat (first | exact List.Sublist.refl _ | exact List.sublist_append_left _ _ | exact List.nil_sublist _ | apply List.Sublist.cons_cons | apply List.Sublist.cons | refine List.Sublist.trans ?_ (List.sublist_append_right _ _)))) w hw) (by omega))) ?_
  rintro _ _ ⟨cb, ae2, cape2, H2, rfl, rfl, hrow2⟩
  refine WS_det hF (by rfl) (y_callL (by rfl) (by rfl) Try.call82 (fun w hw => holds2_any cb (l.wo D) w ⟨hok.wo D, g, a, cap, ae2, cape2, At.block0 (by repeat (first | exact List.mem_cons_self | apply List.mem_cons_of_mem | apply List.mem_append_right)) w hw, Gg.own (by repeat (first | exact List.mem_cons_self | apply List.mem_cons_of_mem | apply List.mem_append_right)) (Tk.ok_iff.2 hok.tk) hx w hw, Row.rws en_len hrow2 rfl (by repeat (first | exact List.Sublist.refl _ | exact List.sublist_append_left _ _ | exact List.nil_sublist _ | apply List.Sublist.cons_cons | apply List.Sublist.cons | refine List.Sublist.trans ?_ (List.sublist_append_right _ _))) w hw⟩)) ?_
  refine WS_det hF (by rfl) (y_not (by rfl)) ?_
  refine WS_det hF (by rfl) (y_assign (c := .bool _) (by rfl)) ?_
  refine WS_nil ?_
  refine Then_normal ?_
  refine W_ret ?_
  refine Fin_ret [.bool _] ((pf, _) :: (pb, _) :: (bk, _) :: (g, _) :: L) Try.results80 ⟨by rfl, trivial⟩ ((SubP.hsub (by exact SubP.drop (SubP.dropL (X := H2) (SubP.refl))))) ?_
  exact ⟨rfl, rfl⟩
end Go.Proofs.Ythkimgfgpphgnaa.T

/- Scopes through which no jump goes; labels. No project text. -/
namespace Go.Eng
open Go.RowKit
section
variable {C : Ctx} {F : Fence} {n : Nat} {ds : List Deferred} {Q : Exit → Env → List Blk → Prop} {e : Env} {H : List Blk}
def NoG (Q : Exit → Env → List Blk → Prop) : Exit → Env → List Blk → Prop
  | .goto _, _, _ => False
  | x, e, H => Q x e H
theorem NoG_ret (h : Q .ret e H) : NoG Q .ret e H := h
theorem W_scope {c : Code} (h : W C Fence.wide n ds c (NoG Q) e H) : W C Fence.wide n ds (.scope c) Q e H := fun dd w hw a ha => by
  have h1 := h dd w hw a ha
  rw [wpIn_wide] at h1 ⊢
  refine wp_scope_straight ?_
  rw [← wpIn_wide (n := 0)] at h1 ⊢
  refine wpIn_mono h1 ?_
  rintro x a' w' ⟨d', e', H', g1, g2, g3⟩
  cases x with
  | goto l => exact g3.elim
  | _ => exact ⟨d', e', H', g1, g2, g3⟩
end
end Go.Eng

/- Dips that must be false: the walk of strike. -/
namespace Go.Proofs.Ythkimgfgpphgnaa.T
open Go.RowKit Go.Proofs Go.Eng
set_option maxRecDepth 100000
set_option linter.unusedVariables false
set_option linter.unusedSimpArgs false



theorem Row.ne_none {E : TypeId} {sz n cap : Nat} {a : Option Addr} {us : List Value} {Hn : List Blk} (h : Row E sz a n cap us Hn) (hn : 0 < n) : a ≠ none := by
  rcases h with ⟨_, h0, _⟩ | ⟨_, _, rfl, _⟩
  · omega
  · simp
theorem Row.mem {C : Ctx} {H Hn : List Blk} {T : TypeId} {b o n cap k : Nat} {xs : List Int} (h : Row T 1 (some ⟨b, o, none⟩) n cap (iv xs) Hn) (hl : xs.length = n) (hs : Hn.Sublist H) (hk : k < n) : Mem C H b (o + k * 1) [.int .i64 (xs.getD k 0)] :=
  fun w hw => (Row.ints h hl hs w hw).at hk
def firstSome {β : Type} (f : Nat → Option β) (a : Nat) : Nat → Option β
  | 0 => none
  | n + 1 => match f a with
    | some r => some r
    | none => firstSome f (a + 1) n
def frD (D : List Int) : Nat := (D.getD (D.length - 1) 0).toNat
/-- The first list of so many dips more without which there is a truth. -/
def Lg.stk (l : Lg) : Nat → List Int → Option (List Int)
  | 0, D => if (l.wo D).holdsB then some D else none
  | m + 1, D => firstSome (fun i => if (l.e i).kind = 3 then l.stk m (D ++ [(i : Int) + 1]) else none) (frD D) (l.es.length - frD D)
def Lg.stkF (l : Lg) (m : Nat) (D : List Int) (i : Nat) : Option (List Int) := if (l.e i).kind = 3 then l.stk m (D ++ [(i : Int) + 1]) else none
def stkBase (pf pb bk g ps : Nat) (l : Lg) (a : Option Addr) (cap : Nat) (ae : Option Addr) (cape : Nat) (s : Value) (L : List Blk) : List Blk :=
  (pf, CB [s] 22) :: (pb, CB [.pointer (some ⟨bk, 0, none⟩)] 108) :: (bk, CB (bookCells g l a cap ae cape) 119) :: (g, CB (gaugeCells l.tk a cap) 98) :: (ps, CB [.func (.func 78) #[] #[.pointer (some ⟨pb, 0, none⟩), .pointer (some ⟨ps, 0, none⟩)]] 111) :: L
def StkV (base : Value → List Blk → List Blk) (r : Option (List Int)) (L : List Blk) (v : Value) (H' : List Blk) : Prop :=
  ∃ bb s L', v = .bool bb ∧ H' = base s L' ∧ (bb = true → r = none ∧ L' = L) ∧ (bb = false → ∃ R fa fn fcap Hf, r = some R ∧ s = .slice fa fn fcap ∧ Row 3 1 fa fn fcap (iv R) Hf ∧ R.length = fn ∧ Hf.Sublist L')
theorem firstSome_hit {β : Type} {f : Nat → Option β} {a n : Nat} {r : β} (hn : 0 < n) (h : f a = some r) : firstSome f a n = some r := by
  obtain ⟨m, rfl⟩ : ∃ m, n = m + 1 := ⟨n - 1, by omega⟩
  unfold firstSome; rw [h]
theorem firstSome_miss {β : Type} {f : Nat → Option β} {a n : Nat} (hn : 0 < n) (h : f a = none) : firstSome f a n = firstSome f (a + 1) (n - 1) := by
  obtain ⟨m, rfl⟩ : ∃ m, n = m + 1 := ⟨n - 1, by omega⟩
  rw [firstSome, h]; rfl

theorem strike_cs (w0 : World) (pf pb bk g ps : Nat) (l : Lg) (a : Option Addr) (cap : Nat) (ae : Option Addr) (cape : Nat) (hok : l.Ok) (hx : Ints w0 a l.tk.n cap l.tk.pints) (he : Ens w0 ae l.es.length cape l.es) :
    ∀ (m : Nat) (ds0 out0 : List Deferred) (s0 : Value) (ta : Option Addr) (tn tcap : Nat) (D : List Int) (Ht L : List Blk), m + tn ≤ 12 → Row 3 1 ta tn tcap (iv D) Ht → D.length = tn → Ht.Sublist L → (ta = none ∧ tn = 0 ∨ ta ≠ none ∧ 0 < tn) → (0 < tn → 1 ≤ D.getD (tn - 1) 0 ∧ D.getD (tn - 1) 0 ≤ l.es.length) →
    Cs ⟨Try.prog, w0, ds0, out0⟩ 78 #[.slice ta tn tcap, .int .i64 (m : Int), .func (.func 80) #[] #[.pointer (some ⟨pf, 0, none⟩), .pointer (some ⟨pb, 0, none⟩)], .pointer (some ⟨pb, 0, none⟩), .pointer (some ⟨ps, 0, none⟩)]
      (stkBase pf pb bk g ps l a cap ae cape s0 L) (StkV (stkBase pf pb bk g ps l a cap ae cape) (l.stk m D) L) := by
  intro m
  induction m using Nat.strongRecOn with
  | _ m ih =>
  intro ds0 out0 s0 ta tn tcap D Ht L hmt hrow hD hsub hnil hlast
  have hn12 := hok.n12
  have hF := wide_wide
  refine Cs_start (args := [_, _, _, _, _]) Try.func78 (by rfl) Try.ntmps78 (by rfl) ?_
  refine W_seq ?_
  refine W_region_lit (fun ds => ?_)
  refine WS_det hF (by rfl) (y_assign (c := .bool _) (by rfl)) ?_
  refine WS_nil ?_
  refine Then_normal ?_
  refine W_scope ?_
  refine W_seq ?_
  refine W_seq ?_
  refine W_region_lit (fun ds => ?_)
  refine WS_det hF (by rfl) (y_move (c := .int .i64 _) (by rfl)) ?_
  refine WS_det hF (by rfl) (y_eql (by rfl) (by rfl)) ?_
  refine WS_nil ?_
  refine Then_normal ?_
  refine W_cond (by rfl) (fun c1 => ?_) (fun c1 => ?_)
  ·
    try simp only [Bool.not_eq_true', Bool.not_eq_false', decide_eq_true_eq, decide_eq_false_iff_not, ne_eq, Classical.not_not, Int.not_lt, Int.not_le] at c1
    obtain rfl : m = 0 := by omega
    refine W_seq ?_
    refine W_region_lit (fun ds => ?_)
    refine WS_det hF (by rfl) (y_move (c := _) (by rfl)) ?_
    refine WS_det hF (by rfl) (y_move (c := .slice _ _ _) (by rfl)) ?_
    refine WS_callS hF (by rfl) (by rfl) (by rfl) Try.call80 (w2_cs _ _ _ pf pb bk g l a cap ae cape s0 ta tn tcap D Ht _ hok hx he hrow hD (by omega) (hsub.cons _)) ?_
    rintro v0 _ ⟨rfl, rfl⟩
    refine WS_det hF (by rfl) (y_assign (c := .bool _) (by rfl)) ?_
    refine WS_nil ?_
    refine Then_normal ?_
    refine W_ret ?_
    refine Then_ret ?_
    refine NoG_ret ?_
    refine Fin_ret [.bool _] (stkBase pf pb bk g ps l a cap ae cape (.slice ta tn tcap) L) Try.results78 ⟨by rfl, trivial⟩ HSub.refl ?_
    refine ⟨!(l.wo D).holdsB, _, L, rfl, rfl, fun h => ⟨?_, rfl⟩, fun h => ⟨D, ta, tn, tcap, Ht, ?_, rfl, hrow, hD, hsub⟩⟩
    · unfold Lg.stk
      rw [if_neg (by simpa using h)]
    · unfold Lg.stk
      rw [if_pos (by simpa using h)]
  ·
    try simp only [Bool.not_eq_true', Bool.not_eq_false', decide_eq_true_eq, decide_eq_false_iff_not, ne_eq, Classical.not_not, Int.not_lt, Int.not_le] at c1
    obtain ⟨m, rfl⟩ : ∃ k, m = k + 1 := ⟨m - 1, by omega⟩
    refine W_skip ?_
    refine Then_normal ?_
    refine W_seq ?_
    refine W_region_lit (fun ds => ?_)
    refine WS_det hF (by rfl) (y_assign (c := .int .i64 _) (by rfl)) ?_
    refine WS_nil ?_
    refine Then_normal ?_
    refine W_seq ?_
    refine W_seq ?_
    refine W_region_lit (fun ds => ?_)
    refine WS_det hF (by rfl) (y_move (c := .slice _ _ _) (by rfl)) ?_
    refine WS_det hF (by rfl) (y_len (by rfl) Try.runUnderlying22) ?_
    refine WS_det hF (by rfl) (y_assign (c := .int .i64 _) (by rfl)) ?_
    refine WS_nil ?_
    refine Then_normal ?_
    refine W_seq ?_
    refine W_region_lit (fun ds => ?_)
    refine WS_det hF (by rfl) (y_move (c := .int .i64 _) (by rfl)) ?_
    refine WS_det hF (by rfl) (y_gtr (by rfl) (by rfl)) ?_
    refine WS_nil ?_
    refine Then_normal ?_
    refine W_cond (by rfl) (fun c5 => ?_) (fun c5 => ?_)
    ·
      try simp only [Bool.not_eq_true', Bool.not_eq_false', decide_eq_true_eq, decide_eq_false_iff_not, ne_eq, Classical.not_not, Int.not_lt, Int.not_le] at c5
      obtain ⟨tb, hta⟩ : ∃ tb, ta = some ⟨tb, 0, none⟩ := by
        rcases hrow with ⟨_, h0, _⟩ | ⟨b, _, rfl, _⟩
        · omega
        · exact ⟨b, rfl⟩
      have hrowt : Row 3 1 (some ⟨tb, 0, none⟩) tn tcap (iv D) Ht := by rw [← hta]; exact hrow
      have hfr : D.getD (tn - 1) 0 = (frD D : Int) := by
        have := hlast (by omega)
        unfold frD
        rw [hD]; omega
      have hfrn : frD D ≤ l.es.length := by
        have := hlast (by omega)
        omega
      refine W_region_lit (fun ds => ?_)
      refine WS_det hF (by rfl) (y_move (c := .slice _ _ _) (by rfl)) ?_
      refine WS_det hF (by rfl) (y_move (c := .int .i64 _) (by rfl)) ?_
      refine WS_det hF (by rfl) (y_sub (by rfl) (by rfl) (by unfold I64; omega)) ?_
      refine WS_det hF (by rfl) (y_index (k := tn - 1) (by show Value.slice ta _ _ = _; rw [hta]) (by rfl) (by first | rfl | omega) (by omega) Try.runUnderlying22 Try.sizeOf3) ?_
      refine WS_det hF (by rfl) (y_load1 (by rfl) Try.isAgg3 (Row.mem hrowt hD (hsub.trans (by repeat (first | exact List.Sublist.refl _ | exact List.sublist_append_left _ _ | exact List.nil_sublist _ | apply List.Sublist.cons_cons | apply List.Sublist.cons | refine List.Sublist.trans ?_ (List.sublist_append_right _ _)))) (k := tn - 1) (by omega))) ?_
      refine WS_det hF (by rfl) (y_assign (c := .int .i64 _) (by rfl)) ?_
      refine WS_nil ?_
      refine Then_normal ?_
      refine W_seq ?_
      refine W_label ?_
      refine Then_normal ?_
      refine W_seq ?_
      refine W_seq ?_
      refine W_region_lit (fun ds => ?_)
      refine WS_det hF (by rfl) (y_move (c := .int .i64 _) (by rfl)) ?_
      refine WS_det hF (by rfl) (y_assign (c := .int .i64 _) (by rfl)) ?_
      refine WS_nil ?_
      refine Then_normal ?_
      refine W_block ?_
      refine W_loop (γ := Nat × Value) (fun p => frD D ≤ p.1 ∧ p.1 ≤ l.es.length ∧ l.stk (m + 1) D = firstSome (l.stkF m D) p.1 (l.es.length - p.1)) (fun p => [(0, .slice ta tn tcap), (1, .int .i64 ((m + 1 : Nat) : Int)), (2, .func (.func 80) #[] #[.pointer (some ⟨pf, 0, none⟩), .pointer (some ⟨pb, 0, none⟩)]), (3, .pointer (some ⟨pb, 0, none⟩)), (4, .pointer (some ⟨ps, 0, none⟩)), (11, .int .i64 (p.1 : Int))]) (fun p => stkBase pf pb bk g ps l a cap ae cape p.2 L) (fun p => l.es.length - p.1) ((frD D, s0)) ⟨Nat.le_refl _, hfrn, rfl⟩ ((by repeat (first | exact trivial | refine ⟨by rfl, ?_⟩ | refine ⟨congrArg (Value.int _) (by first | omega | (simp only; omega) | (push_cast; omega)), ?_⟩))) (List.Sublist.refl _) ?_
      rintro ⟨i, s1⟩ e ⟨hi0, hi1, hinv⟩
      refine W_seq ?_
      refine W_seq ?_
      refine W_region_lit (fun ds => ?_)
      refine WS_det hF (by rfl) (y_move (c := .int .i64 _) (by rfl)) ?_
      refine WS_det hF (by rfl) (y_load1 (by rfl) Try.isAgg108 (Mem.own1 1 (by rfl) (by rfl))) ?_
      refine WS_det hF (by rfl) (by first | exact y_nilCheck (by rfl) | exact y_nilCheckF (by rfl)) ?_
      refine WS_det hF (by rfl) (y_fieldAddr (by rfl) fa119_1) ?_
      refine WS_det hF (by rfl) (y_fieldAddr (by rfl) fa46_2) ?_
      refine WS_det hF (by rfl) (y_load1 (by rfl) Try.isAgg44 (Mem.own1 2 (by rfl) (by rfl))) ?_
      refine WS_det hF (by rfl) (y_len (by rfl) Try.runUnderlying44) ?_
      refine WS_det hF (by rfl) (y_lss (by rfl) (by rfl)) ?_
      refine WS_nil ?_
      refine Then_normal ?_
      refine W_cond (by rfl) (fun c8 => ?_) (fun c8 => ?_)
      ·
        try simp only [Bool.not_eq_true', Bool.not_eq_false', decide_eq_true_eq, decide_eq_false_iff_not, ne_eq, Classical.not_not, Int.not_lt, Int.not_le] at c8
        have hin : i < l.es.length := by omega
        obtain ⟨b, o, rfl, hc⟩ := he.cell i hin
        change At w0 b _ (l.e i).cells at hc
        refine W_skip ?_
        refine Then_normal ?_
        refine W_seq ?_
        refine W_block ?_
        refine W_seq ?_
        refine W_seq ?_
        refine W_region_lit (fun ds => ?_)
        refine WS_det hF (by rfl) (y_load1 (by rfl) Try.isAgg108 (Mem.own1 1 (by rfl) (by rfl))) ?_
        refine WS_det hF (by rfl) (by first | exact y_nilCheck (by rfl) | exact y_nilCheckF (by rfl)) ?_
        refine WS_det hF (by rfl) (y_fieldAddr (by rfl) fa119_1) ?_
        refine WS_det hF (by rfl) (y_fieldAddr (by rfl) fa46_2) ?_
        refine WS_det hF (by rfl) (y_load1 (by rfl) Try.isAgg44 (Mem.own1 2 (by rfl) (by rfl))) ?_
        refine WS_det hF (by rfl) (y_move (c := .int .i64 _) (by rfl)) ?_
        refine WS_det hF (by rfl) (y_index (k := i) (by rfl) (by rfl) (by first | rfl | omega) (by first | decide | omega) Try.runUnderlying44 Try.sizeOf48) ?_
        refine WS_det hF (by rfl) (y_fieldAddr (by rfl) fa48_1) ?_
        refine WS_det hF (by rfl) (y_load1 (by rfl) Try.isAgg3 (by first | exact Mem.old1 (by assumption) | exact Mem.oldAt1 (by assumption) (by rfl) | exact Mem.old (by assumption) | exact Mem.oldAtL1 (by assumption) (by rfl) (by rfl))) ?_
        refine WS_det hF (by rfl) (y_neq (by rfl) (by rfl)) ?_
        refine WS_nil ?_
        refine Then_normal ?_
        refine W_cond (by rfl) (fun c10 => ?_) (fun c10 => ?_)
        ·
          try simp only [Bool.not_eq_true', Bool.not_eq_false', decide_eq_true_eq, decide_eq_false_iff_not, ne_eq, Classical.not_not, Int.not_lt, Int.not_le] at c10
          have hinv2 : l.stk (m + 1) D = firstSome (l.stkF m D) (i + 1) (l.es.length - (i + 1)) := by
            rw [hinv, firstSome_miss (by omega) (show l.stkF m D i = none from if_neg c10), Nat.sub_sub]
          refine W_exit ?_
          refine Then_exit ?_
          refine InB_same ?_
          refine Then_normal ?_
          refine W_region_lit (fun ds => ?_)
          refine WS_det hF (by rfl) (y_move (c := .int .i64 _) (by rfl)) ?_
          refine WS_det hF (by rfl) (y_add (by rfl) (by rfl) (by unfold I64; omega)) ?_
          refine WS_det hF (by rfl) (y_assign (c := .int .i64 _) (by rfl)) ?_
          refine WS_nil ?_
          exact Loop_next (i + 1, s1) ⟨by omega, by omega, hinv2⟩ (by repeat (first | exact trivial | refine ⟨by rfl, ?_⟩)) (by repeat (first | exact List.Sublist.refl _ | exact List.nil_sublist _ | apply List.Sublist.cons_cons | apply List.Sublist.cons)) (by simp only; omega)
        ·
          try simp only [Bool.not_eq_true', Bool.not_eq_false', decide_eq_true_eq, decide_eq_false_iff_not, ne_eq, Classical.not_not, Int.not_lt, Int.not_le] at c10
          refine W_skip ?_
          refine Then_normal ?_
          refine W_seq ?_
          refine W_tailA 10 Trymixed (fun e2 H2 => ∃ a2 cap2 Hr lt, Row 3 1 a2 (tn + 1) cap2 (iv (D ++ [(i : Int) + 1])) Hr ∧ a2 ≠ none ∧ Slots e2 [(0, .slice ta tn tcap), (1, .int .i64 ((m + 1 : Nat) : Int)), (2, .func (.func 80) #[] #[.pointer (some ⟨pf, 0, none⟩), .pointer (some ⟨pb, 0, none⟩)]), (3, .pointer (some ⟨pb, 0, none⟩)), (4, .pointer (some ⟨ps, 0, none⟩)), (11, .int .i64 (i : Int)), (47, .func (.func 78) #[] #[.pointer (some ⟨pb, 0, none⟩), .pointer (some ⟨ps, 0, none⟩)]), (53, .slice a2 (tn + 1) cap2), (55, .int .i64 (m : Int)), (56, .func (.func 80) #[] #[.pointer (some ⟨pf, 0, none⟩), .pointer (some ⟨pb, 0, none⟩)])] ∧ H2 = (lt, CB [.int .i64 ((i : Int) + 1)] 3) :: stkBase pf pb bk g ps l a cap (some ⟨b, o, none⟩) cape s1 (L ++ Hr)) (by decide +kernel) (fun ds e2 H2 hmid => ?_) (fun ds => ?_)
          ·
            obtain ⟨a2, cap2, Hr, lt, hrow2, hnn, hsl, rfl⟩ := hmid
            rw [← hsl.sets]
            refine WS_sub ((SubP.hsub (SubP.pick 1 (by rfl) (SubP.pick 1 (by rfl) (SubP.pick 1 (by rfl) (SubP.pick 1 (by rfl) (SubP.pick 1 (by rfl) (by exact SubP.drop (SubP.refl))))))))) ?_
            refine WS_callS hF (by rfl) (by rfl) (by rfl) Try.call78 (ih m (by omega) _ _ s1 a2 (tn + 1) cap2 (D ++ [(i : Int) + 1]) Hr (L ++ Hr) (by omega) hrow2 (by simp [hD]) (List.sublist_append_right _ _) (.inr ⟨hnn, by omega⟩) (fun _ => by rw [Nat.add_sub_cancel, List.getD_eq_getElem?_getD, ← hD]; simp; omega)) ?_
            rintro _ _ ⟨bb, s2, L2, rfl, rfl, hbt, hbf⟩
            refine WS_det hF (by rfl) (y_not (by rfl)) ?_
            refine WS_nil ?_
            refine Then_normal ?_
            refine W_cond (by rfl) (fun c11 => ?_) (fun c11 => ?_)
            ·
              try simp only [Bool.not_eq_true', Bool.not_eq_false', decide_eq_true_eq, decide_eq_false_iff_not, ne_eq, Classical.not_not, Int.not_lt, Int.not_le] at c11
              refine W_seq ?_
              refine W_region_lit (fun ds => ?_)
              refine WS_det hF (by rfl) (y_assign (c := .bool _) (by rfl)) ?_
              refine WS_nil ?_
              refine Then_normal ?_
              refine W_ret ?_
              refine InB_ret ?_
              refine Then_ret ?_
              refine Loop_ret ?_
              refine InB_ret ?_
              refine Then_ret ?_
              refine NoG_ret ?_
              refine Fin_ret [.bool _] (stkBase pf pb bk g ps l a cap _ cape s2 L2) Try.results78 ⟨by rfl, trivial⟩ HSub.refl ?_
              obtain ⟨R, fa, fn, fcap, Hf, hR, rfl, hrw, hln, hsb⟩ := hbf c11
              refine ⟨false, _, L2, rfl, rfl, fun h => (by cases h), fun _ => ⟨R, fa, fn, fcap, Hf, ?_, rfl, hrw, hln, hsb⟩⟩
              rw [hinv]
              exact firstSome_hit (by simp only; omega) (by unfold Lg.stkF; rw [if_pos c10]; exact hR)
            ·
              try simp only [Bool.not_eq_true', Bool.not_eq_false', decide_eq_true_eq, decide_eq_false_iff_not, ne_eq, Classical.not_not, Int.not_lt, Int.not_le] at c11
              obtain ⟨hR, rfl⟩ := hbt c11
              have hinv2 : l.stk (m + 1) D = firstSome (l.stkF m D) (i + 1) (l.es.length - (i + 1)) := by
                rw [hinv, firstSome_miss (by omega) (show l.stkF m D i = none by unfold Lg.stkF; rw [if_pos c10]; exact hR), Nat.sub_sub]
              refine W_skip ?_
              refine InB_normal ?_
              refine Then_normal ?_
              refine W_region_lit (fun ds => ?_)
              refine WS_det hF (by rfl) (y_move (c := .int .i64 _) (by rfl)) ?_
              refine WS_det hF (by rfl) (y_add (by rfl) (by rfl) (by unfold I64; omega)) ?_
              refine WS_det hF (by rfl) (y_assign (c := .int .i64 _) (by rfl)) ?_
              refine WS_nil ?_
              exact Loop_next (i + 1, s2) ⟨by omega, by omega, hinv2⟩ (by repeat (first | exact trivial | refine ⟨by rfl, ?_⟩)) (by repeat (first | exact List.Sublist.refl _ | exact List.sublist_append_left _ _ | exact List.nil_sublist _ | apply List.Sublist.cons_cons | apply List.Sublist.cons | refine List.Sublist.trans ?_ (List.sublist_append_right _ _))) (by simp only; omega)
          ·
            refine WA_take 1 (by rfl) (by rfl) (by decide +kernel) (by decide +kernel) (by rfl) (pure_move (by rfl)) ?_
            refine WA_take 3 (by rfl) (by rfl) (by decide +kernel) (by decide +kernel) (by rfl) (pure_move (by rfl)) ?_
            refine WA_take 4 (by rfl) (by rfl) (by decide +kernel) (by decide +kernel) (by rfl) (pure_add (by rfl) (by rfl) (by unfold I64; omega)) ?_
            refine WA_take 7 (by rfl) (by rfl) (by decide +kernel) (by decide +kernel) (by rfl) (pure_move (by rfl)) ?_
            refine WA_take 8 (by rfl) (by rfl) (by decide +kernel) (by decide +kernel) (by rfl) (pure_sub (by rfl) (by rfl) (by unfold I64; omega)) ?_
            refine WA_take 9 (by rfl) (by rfl) (by decide +kernel) (by decide +kernel) (by rfl) (pure_move (by rfl)) ?_
            refine WA_step3 0 2 5 (by decide +kernel) (by rfl) (by rfl) (by rfl) ?_ ?_ ?_
            ·
              refine WS_det hF (by rfl) (y_load1 (by rfl) Try.isAgg111 (Mem.own1 4 (by rfl) (by rfl))) ?_
              refine WS_nil ?_
              refine WA_step2 2 5 (by decide +kernel) (by rfl) (by rfl) ?_ ?_
              ·
                refine WS_gen hF (by rfl) (y_callL (by rfl) (by rfl) Try.call79 (fun w hw => clone_any ta tn tcap D w (Row.ints hrow hD (hsub.trans (by repeat (first | exact List.Sublist.refl _ | exact List.sublist_append_left _ _ | exact List.nil_sublist _ | apply List.Sublist.cons_cons | apply List.Sublist.cons | refine List.Sublist.trans ?_ (List.sublist_append_right _ _)))) w hw) (by omega) hnil)) ?_
                rintro _ Hc ⟨ca, ccap, rfl, hrowc, hnc⟩
                refine WS_back ?_
                refine WS_nil ?_
                refine WA_step1 5 (by decide +kernel) (by rfl) ?_
                ·
                  refine WS_newS hF (by rfl) (y_buildSliceL bs22_1_0 (by rfl)) (fun b1 => ?_)
                  refine WS_nil ?_
                  refine WA_step1 6 (by decide +kernel) (by rfl) ?_
                  ·
                    refine WS_appendE hF (n' := tn) (H1 := (_ :: _ :: _ :: _ :: _ :: _ :: L)) (by rfl) (by rfl) (by rfl) Try.underlying22 infInt (by rfl) (by rfl) hrowc (.inr ⟨_, _, rfl, Mem.own (us := [.int _ _]) 0 (by rfl) (by rfl)⟩) (by rfl) (by rfl) (by omega) (by omega) ?_
                    intro a2 cap2 Hr hrow2
                    have hrow3 : Row 3 1 a2 (tn + 1) cap2 (iv (D ++ [(i : Int) + 1])) Hr := by rw [iv, List.map_append]; exact hrow2
                    have hnn3 := Row.ne_none hrow3 (by omega)
                    refine WS_nil ?_
                    refine WA_done (by decide +kernel) ?_
                    exact ⟨_, _, _, _, hrow3, hnn3, (by repeat (first | exact trivial | refine ⟨by rfl, ?_⟩ | refine ⟨congrArg (Value.int _) (by first | omega | (simp only; omega) | (push_cast; omega)), ?_⟩)), rfl⟩
              ·
                refine WS_newS hF (by rfl) (y_buildSliceL bs22_1_0 (by rfl)) (fun b2 => ?_)
                refine WS_nil ?_
                refine WA_step1 2 (by decide +kernel) (by rfl) ?_
                ·
                  refine WS_gen hF (by rfl) (y_callL (by rfl) (by rfl) Try.call79 (fun w hw => clone_any ta tn tcap D w (Row.ints hrow hD (hsub.trans (by repeat (first | exact List.Sublist.refl _ | exact List.sublist_append_left _ _ | exact List.nil_sublist _ | apply List.Sublist.cons_cons | apply List.Sublist.cons | refine List.Sublist.trans ?_ (List.sublist_append_right _ _)))) w hw) (by omega) hnil)) ?_
                  rintro _ Hc ⟨ca, ccap, rfl, hrowc, hnc⟩
                  refine WS_back ?_
                  refine WS_nil ?_
                  refine WA_step1 6 (by decide +kernel) (by rfl) ?_
                  ·
                    refine WS_appendE hF (n' := tn) (H1 := (_ :: _ :: _ :: _ :: _ :: _ :: L)) (by rfl) (by rfl) (by rfl) Try.underlying22 infInt (by rfl) (by rfl) hrowc (.inr ⟨_, _, rfl, Mem.own (us := [.int _ _]) 0 (by rfl) (by rfl)⟩) (by rfl) (by rfl) (by omega) (by omega) ?_
                    intro a2 cap2 Hr hrow2
                    have hrow3 : Row 3 1 a2 (tn + 1) cap2 (iv (D ++ [(i : Int) + 1])) Hr := by rw [iv, List.map_append]; exact hrow2
                    have hnn3 := Row.ne_none hrow3 (by omega)
                    refine WS_nil ?_
                    refine WA_done (by decide +kernel) ?_
                    exact ⟨_, _, _, _, hrow3, hnn3, (by repeat (first | exact trivial | refine ⟨by rfl, ?_⟩ | refine ⟨congrArg (Value.int _) (by first | omega | (simp only; omega) | (push_cast; omega)), ?_⟩)), rfl⟩
            ·
              refine WS_gen hF (by rfl) (y_callL (by rfl) (by rfl) Try.call79 (fun w hw => clone_any ta tn tcap D w (Row.ints hrow hD (hsub.trans (by repeat (first | exact List.Sublist.refl _ | exact List.sublist_append_left _ _ | exact List.nil_sublist _ | apply List.Sublist.cons_cons | apply List.Sublist.cons | refine List.Sublist.trans ?_ (List.sublist_append_right _ _)))) w hw) (by omega) hnil)) ?_
              rintro _ Hc ⟨ca, ccap, rfl, hrowc, hnc⟩
              refine WS_back ?_
              refine WS_nil ?_
              refine WA_step2 0 5 (by decide +kernel) (by rfl) (by rfl) ?_ ?_
              ·
                refine WS_det hF (by rfl) (y_load1 (by rfl) Try.isAgg111 (Mem.own1 4 (by rfl) (by rfl))) ?_
                refine WS_nil ?_
                refine WA_step1 5 (by decide +kernel) (by rfl) ?_
                ·
                  refine WS_newS hF (by rfl) (y_buildSliceL bs22_1_0 (by rfl)) (fun b3 => ?_)
                  refine WS_nil ?_
                  refine WA_step1 6 (by decide +kernel) (by rfl) ?_
                  ·
                    refine WS_appendE hF (n' := tn) (H1 := (_ :: _ :: _ :: _ :: _ :: _ :: L)) (by rfl) (by rfl) (by rfl) Try.underlying22 infInt (by rfl) (by rfl) hrowc (.inr ⟨_, _, rfl, Mem.own (us := [.int _ _]) 0 (by rfl) (by rfl)⟩) (by rfl) (by rfl) (by omega) (by omega) ?_
                    intro a2 cap2 Hr hrow2
                    have hrow3 : Row 3 1 a2 (tn + 1) cap2 (iv (D ++ [(i : Int) + 1])) Hr := by rw [iv, List.map_append]; exact hrow2
                    have hnn3 := Row.ne_none hrow3 (by omega)
                    refine WS_nil ?_
                    refine WA_done (by decide +kernel) ?_
                    exact ⟨_, _, _, _, hrow3, hnn3, (by repeat (first | exact trivial | refine ⟨by rfl, ?_⟩ | refine ⟨congrArg (Value.int _) (by first | omega | (simp only; omega) | (push_cast; omega)), ?_⟩)), rfl⟩
              ·
                refine WS_newS hF (by rfl) (y_buildSliceL bs22_1_0 (by rfl)) (fun b4 => ?_)
                refine WS_nil ?_
                refine WA_step2 0 6 (by decide +kernel) (by rfl) (by rfl) ?_ ?_
                ·
                  refine WS_det hF (by rfl) (y_load1 (by rfl) Try.isAgg111 (Mem.own1 5 (by rfl) (by rfl))) ?_
                  refine WS_nil ?_
                  refine WA_step1 6 (by decide +kernel) (by rfl) ?_
                  ·
                    refine WS_appendE hF (n' := tn) (H1 := (_ :: _ :: _ :: _ :: _ :: _ :: L)) (by rfl) (by rfl) (by rfl) Try.underlying22 infInt (by rfl) (by rfl) hrowc (.inr ⟨_, _, rfl, Mem.own (us := [.int _ _]) 0 (by rfl) (by rfl)⟩) (by rfl) (by rfl) (by omega) (by omega) ?_
                    intro a2 cap2 Hr hrow2
                    have hrow3 : Row 3 1 a2 (tn + 1) cap2 (iv (D ++ [(i : Int) + 1])) Hr := by rw [iv, List.map_append]; exact hrow2
                    have hnn3 := Row.ne_none hrow3 (by omega)
                    refine WS_nil ?_
                    refine WA_done (by decide +kernel) ?_
                    exact ⟨_, _, _, _, hrow3, hnn3, (by repeat (first | exact trivial | refine ⟨by rfl, ?_⟩ | refine ⟨congrArg (Value.int _) (by first | omega | (simp only; omega) | (push_cast; omega)), ?_⟩)), rfl⟩
                ·
                  refine WS_appendE hF (n' := tn) (H1 := (_ :: _ :: _ :: _ :: _ :: _ :: L)) (by rfl) (by rfl) (by rfl) Try.underlying22 infInt (by rfl) (by rfl) hrowc (.inr ⟨_, _, rfl, Mem.own (us := [.int _ _]) 0 (by rfl) (by rfl)⟩) (by rfl) (by rfl) (by omega) (by omega) ?_
                  intro a2 cap2 Hr hrow2
                  have hrow3 : Row 3 1 a2 (tn + 1) cap2 (iv (D ++ [(i : Int) + 1])) Hr := by rw [iv, List.map_append]; exact hrow2
                  have hnn3 := Row.ne_none hrow3 (by omega)
                  refine WS_nil ?_
                  refine WA_step1 0 (by decide +kernel) (by rfl) ?_
                  ·
                    refine WS_det hF (by rfl) (y_load1 (by rfl) Try.isAgg111 (Mem.own1 5 (by rfl) (by rfl))) ?_
                    refine WS_nil ?_
                    refine WA_done (by decide +kernel) ?_
                    exact ⟨_, _, _, _, hrow3, hnn3, (by repeat (first | exact trivial | refine ⟨by rfl, ?_⟩ | refine ⟨congrArg (Value.int _) (by first | omega | (simp only; omega) | (push_cast; omega)), ?_⟩)), rfl⟩
            ·
              refine WS_newS hF (by rfl) (y_buildSliceL bs22_1_0 (by rfl)) (fun b5 => ?_)
              refine WS_nil ?_
              refine WA_step2 0 2 (by decide +kernel) (by rfl) (by rfl) ?_ ?_
              ·
                refine WS_det hF (by rfl) (y_load1 (by rfl) Try.isAgg111 (Mem.own1 5 (by rfl) (by rfl))) ?_
                refine WS_nil ?_
                refine WA_step1 2 (by decide +kernel) (by rfl) ?_
                ·
                  refine WS_gen hF (by rfl) (y_callL (by rfl) (by rfl) Try.call79 (fun w hw => clone_any ta tn tcap D w (Row.ints hrow hD (hsub.trans (by repeat (first | exact List.Sublist.refl _ | exact List.sublist_append_left _ _ | exact List.nil_sublist _ | apply List.Sublist.cons_cons | apply List.Sublist.cons | refine List.Sublist.trans ?_ (List.sublist_append_right _ _)))) w hw) (by omega) hnil)) ?_
                  rintro _ Hc ⟨ca, ccap, rfl, hrowc, hnc⟩
                  refine WS_back ?_
                  refine WS_nil ?_
                  refine WA_step1 6 (by decide +kernel) (by rfl) ?_
                  ·
                    refine WS_appendE hF (n' := tn) (H1 := (_ :: _ :: _ :: _ :: _ :: _ :: L)) (by rfl) (by rfl) (by rfl) Try.underlying22 infInt (by rfl) (by rfl) hrowc (.inr ⟨_, _, rfl, Mem.own (us := [.int _ _]) 0 (by rfl) (by rfl)⟩) (by rfl) (by rfl) (by omega) (by omega) ?_
                    intro a2 cap2 Hr hrow2
                    have hrow3 : Row 3 1 a2 (tn + 1) cap2 (iv (D ++ [(i : Int) + 1])) Hr := by rw [iv, List.map_append]; exact hrow2
                    have hnn3 := Row.ne_none hrow3 (by omega)
                    refine WS_nil ?_
                    refine WA_done (by decide +kernel) ?_
                    exact ⟨_, _, _, _, hrow3, hnn3, (by repeat (first | exact trivial | refine ⟨by rfl, ?_⟩ | refine ⟨congrArg (Value.int _) (by first | omega | (simp only; omega) | (push_cast; omega)), ?_⟩)), rfl⟩
              ·
                refine WS_gen hF (by rfl) (y_callL (by rfl) (by rfl) Try.call79 (fun w hw => clone_any ta tn tcap D w (Row.ints hrow hD (hsub.trans (by repeat (first | exact List.Sublist.refl _ | exact List.sublist_append_left _ _ | exact List.nil_sublist _ | apply List.Sublist.cons_cons | apply List.Sublist.cons | refine List.Sublist.trans ?_ (List.sublist_append_right _ _)))) w hw) (by omega) hnil)) ?_
                rintro _ Hc ⟨ca, ccap, rfl, hrowc, hnc⟩
                refine WS_back ?_
                refine WS_nil ?_
                refine WA_step2 0 6 (by decide +kernel) (by rfl) (by rfl) ?_ ?_
                ·
                  refine WS_det hF (by rfl) (y_load1 (by rfl) Try.isAgg111 (Mem.own1 5 (by rfl) (by rfl))) ?_
                  refine WS_nil ?_
                  refine WA_step1 6 (by decide +kernel) (by rfl) ?_
                  ·
                    refine WS_appendE hF (n' := tn) (H1 := (_ :: _ :: _ :: _ :: _ :: _ :: L)) (by rfl) (by rfl) (by rfl) Try.underlying22 infInt (by rfl) (by rfl) hrowc (.inr ⟨_, _, rfl, Mem.own (us := [.int _ _]) 0 (by rfl) (by rfl)⟩) (by rfl) (by rfl) (by omega) (by omega) ?_
                    intro a2 cap2 Hr hrow2
                    have hrow3 : Row 3 1 a2 (tn + 1) cap2 (iv (D ++ [(i : Int) + 1])) Hr := by rw [iv, List.map_append]; exact hrow2
                    have hnn3 := Row.ne_none hrow3 (by omega)
                    refine WS_nil ?_
                    refine WA_done (by decide +kernel) ?_
                    exact ⟨_, _, _, _, hrow3, hnn3, (by repeat (first | exact trivial | refine ⟨by rfl, ?_⟩ | refine ⟨congrArg (Value.int _) (by first | omega | (simp only; omega) | (push_cast; omega)), ?_⟩)), rfl⟩
                ·
                  refine WS_appendE hF (n' := tn) (H1 := (_ :: _ :: _ :: _ :: _ :: _ :: L)) (by rfl) (by rfl) (by rfl) Try.underlying22 infInt (by rfl) (by rfl) hrowc (.inr ⟨_, _, rfl, Mem.own (us := [.int _ _]) 0 (by rfl) (by rfl)⟩) (by rfl) (by rfl) (by omega) (by omega) ?_
                  intro a2 cap2 Hr hrow2
                  have hrow3 : Row 3 1 a2 (tn + 1) cap2 (iv (D ++ [(i : Int) + 1])) Hr := by rw [iv, List.map_append]; exact hrow2
                  have hnn3 := Row.ne_none hrow3 (by omega)
                  refine WS_nil ?_
                  refine WA_step1 0 (by decide +kernel) (by rfl) ?_
                  ·
                    refine WS_det hF (by rfl) (y_load1 (by rfl) Try.isAgg111 (Mem.own1 5 (by rfl) (by rfl))) ?_
                    refine WS_nil ?_
                    refine WA_done (by decide +kernel) ?_
                    exact ⟨_, _, _, _, hrow3, hnn3, (by repeat (first | exact trivial | refine ⟨by rfl, ?_⟩ | refine ⟨congrArg (Value.int _) (by first | omega | (simp only; omega) | (push_cast; omega)), ?_⟩)), rfl⟩
      ·
        try simp only [Bool.not_eq_true', Bool.not_eq_false', decide_eq_true_eq, decide_eq_false_iff_not, ne_eq, Classical.not_not, Int.not_lt, Int.not_le] at c8
        refine W_exit ?_
        refine Then_exit ?_
        refine Loop_exit ?_
        refine InB_same ?_
        refine Then_normal ?_
        refine W_seq ?_
        refine W_region_lit (fun ds => ?_)
        refine WS_det hF (by rfl) (y_assign (c := .bool _) (by rfl)) ?_
        refine WS_nil ?_
        refine Then_normal ?_
        refine W_ret ?_
        refine NoG_ret ?_
        refine Fin_ret [.bool _] (stkBase pf pb bk g ps l a cap ae cape s1 L) Try.results78 ⟨by rfl, trivial⟩ HSub.refl ?_
        simp only at hi1 hinv
        obtain rfl : i = l.es.length := by omega
        exact ⟨true, s1, L, rfl, rfl, fun _ => ⟨by rw [hinv, Nat.sub_self]; rfl, rfl⟩, fun h => (by cases h)⟩
    ·
      try simp only [Bool.not_eq_true', Bool.not_eq_false', decide_eq_true_eq, decide_eq_false_iff_not, ne_eq, Classical.not_not, Int.not_lt, Int.not_le] at c5
      have hfr : (0 : Int) = (frD D : Int) := by
        have h0 : D = [] := List.length_eq_zero_iff.1 (by omega)
        rw [h0]; rfl
      have hfrn : frD D ≤ l.es.length := by omega
      refine W_skip ?_
      refine Then_normal ?_
      refine W_seq ?_
      refine W_label ?_
      refine Then_normal ?_
      refine W_seq ?_
      refine W_seq ?_
      refine W_region_lit (fun ds => ?_)
      refine WS_det hF (by rfl) (y_move (c := .int .i64 _) (by rfl)) ?_
      refine WS_det hF (by rfl) (y_assign (c := .int .i64 _) (by rfl)) ?_
      refine WS_nil ?_
      refine Then_normal ?_
      refine W_block ?_
      refine W_loop (γ := Nat × Value) (fun p => frD D ≤ p.1 ∧ p.1 ≤ l.es.length ∧ l.stk (m + 1) D = firstSome (l.stkF m D) p.1 (l.es.length - p.1)) (fun p => [(0, .slice ta tn tcap), (1, .int .i64 ((m + 1 : Nat) : Int)), (2, .func (.func 80) #[] #[.pointer (some ⟨pf, 0, none⟩), .pointer (some ⟨pb, 0, none⟩)]), (3, .pointer (some ⟨pb, 0, none⟩)), (4, .pointer (some ⟨ps, 0, none⟩)), (11, .int .i64 (p.1 : Int))]) (fun p => stkBase pf pb bk g ps l a cap ae cape p.2 L) (fun p => l.es.length - p.1) ((frD D, s0)) ⟨Nat.le_refl _, hfrn, rfl⟩ ((by repeat (first | exact trivial | refine ⟨by rfl, ?_⟩ | refine ⟨congrArg (Value.int _) (by first | omega | (simp only; omega) | (push_cast; omega)), ?_⟩))) (List.Sublist.refl _) ?_
      rintro ⟨i, s1⟩ e ⟨hi0, hi1, hinv⟩
      refine W_seq ?_
      refine W_seq ?_
      refine W_region_lit (fun ds => ?_)
      refine WS_det hF (by rfl) (y_move (c := .int .i64 _) (by rfl)) ?_
      refine WS_det hF (by rfl) (y_load1 (by rfl) Try.isAgg108 (Mem.own1 1 (by rfl) (by rfl))) ?_
      refine WS_det hF (by rfl) (by first | exact y_nilCheck (by rfl) | exact y_nilCheckF (by rfl)) ?_
      refine WS_det hF (by rfl) (y_fieldAddr (by rfl) fa119_1) ?_
      refine WS_det hF (by rfl) (y_fieldAddr (by rfl) fa46_2) ?_
      refine WS_det hF (by rfl) (y_load1 (by rfl) Try.isAgg44 (Mem.own1 2 (by rfl) (by rfl))) ?_
      refine WS_det hF (by rfl) (y_len (by rfl) Try.runUnderlying44) ?_
      refine WS_det hF (by rfl) (y_lss (by rfl) (by rfl)) ?_
      refine WS_nil ?_
      refine Then_normal ?_
      refine W_cond (by rfl) (fun c8 => ?_) (fun c8 => ?_)
      ·
        try simp only [Bool.not_eq_true', Bool.not_eq_false', decide_eq_true_eq, decide_eq_false_iff_not, ne_eq, Classical.not_not, Int.not_lt, Int.not_le] at c8
        have hin : i < l.es.length := by omega
        obtain ⟨b, o, rfl, hc⟩ := he.cell i hin
        change At w0 b _ (l.e i).cells at hc
        refine W_skip ?_
        refine Then_normal ?_
        refine W_seq ?_
        refine W_block ?_
        refine W_seq ?_
        refine W_seq ?_
        refine W_region_lit (fun ds => ?_)
        refine WS_det hF (by rfl) (y_load1 (by rfl) Try.isAgg108 (Mem.own1 1 (by rfl) (by rfl))) ?_
        refine WS_det hF (by rfl) (by first | exact y_nilCheck (by rfl) | exact y_nilCheckF (by rfl)) ?_
        refine WS_det hF (by rfl) (y_fieldAddr (by rfl) fa119_1) ?_
        refine WS_det hF (by rfl) (y_fieldAddr (by rfl) fa46_2) ?_
        refine WS_det hF (by rfl) (y_load1 (by rfl) Try.isAgg44 (Mem.own1 2 (by rfl) (by rfl))) ?_
        refine WS_det hF (by rfl) (y_move (c := .int .i64 _) (by rfl)) ?_
        refine WS_det hF (by rfl) (y_index (k := i) (by rfl) (by rfl) (by first | rfl | omega) (by first | decide | omega) Try.runUnderlying44 Try.sizeOf48) ?_
        refine WS_det hF (by rfl) (y_fieldAddr (by rfl) fa48_1) ?_
        refine WS_det hF (by rfl) (y_load1 (by rfl) Try.isAgg3 (by first | exact Mem.old1 (by assumption) | exact Mem.oldAt1 (by assumption) (by rfl) | exact Mem.old (by assumption) | exact Mem.oldAtL1 (by assumption) (by rfl) (by rfl))) ?_
        refine WS_det hF (by rfl) (y_neq (by rfl) (by rfl)) ?_
        refine WS_nil ?_
        refine Then_normal ?_
        refine W_cond (by rfl) (fun c10 => ?_) (fun c10 => ?_)
        ·
          try simp only [Bool.not_eq_true', Bool.not_eq_false', decide_eq_true_eq, decide_eq_false_iff_not, ne_eq, Classical.not_not, Int.not_lt, Int.not_le] at c10
          have hinv2 : l.stk (m + 1) D = firstSome (l.stkF m D) (i + 1) (l.es.length - (i + 1)) := by
            rw [hinv, firstSome_miss (by omega) (show l.stkF m D i = none from if_neg c10), Nat.sub_sub]
          refine W_exit ?_
          refine Then_exit ?_
          refine InB_same ?_
          refine Then_normal ?_
          refine W_region_lit (fun ds => ?_)
          refine WS_det hF (by rfl) (y_move (c := .int .i64 _) (by rfl)) ?_
          refine WS_det hF (by rfl) (y_add (by rfl) (by rfl) (by unfold I64; omega)) ?_
          refine WS_det hF (by rfl) (y_assign (c := .int .i64 _) (by rfl)) ?_
          refine WS_nil ?_
          exact Loop_next (i + 1, s1) ⟨by omega, by omega, hinv2⟩ (by repeat (first | exact trivial | refine ⟨by rfl, ?_⟩)) (by repeat (first | exact List.Sublist.refl _ | exact List.nil_sublist _ | apply List.Sublist.cons_cons | apply List.Sublist.cons)) (by simp only; omega)
        ·
          try simp only [Bool.not_eq_true', Bool.not_eq_false', decide_eq_true_eq, decide_eq_false_iff_not, ne_eq, Classical.not_not, Int.not_lt, Int.not_le] at c10
          refine W_skip ?_
          refine Then_normal ?_
          refine W_seq ?_
          refine W_tailA 10 Trymixed (fun e2 H2 => ∃ a2 cap2 Hr lt, Row 3 1 a2 (tn + 1) cap2 (iv (D ++ [(i : Int) + 1])) Hr ∧ a2 ≠ none ∧ Slots e2 [(0, .slice ta tn tcap), (1, .int .i64 ((m + 1 : Nat) : Int)), (2, .func (.func 80) #[] #[.pointer (some ⟨pf, 0, none⟩), .pointer (some ⟨pb, 0, none⟩)]), (3, .pointer (some ⟨pb, 0, none⟩)), (4, .pointer (some ⟨ps, 0, none⟩)), (11, .int .i64 (i : Int)), (47, .func (.func 78) #[] #[.pointer (some ⟨pb, 0, none⟩), .pointer (some ⟨ps, 0, none⟩)]), (53, .slice a2 (tn + 1) cap2), (55, .int .i64 (m : Int)), (56, .func (.func 80) #[] #[.pointer (some ⟨pf, 0, none⟩), .pointer (some ⟨pb, 0, none⟩)])] ∧ H2 = (lt, CB [.int .i64 ((i : Int) + 1)] 3) :: stkBase pf pb bk g ps l a cap (some ⟨b, o, none⟩) cape s1 (L ++ Hr)) (by decide +kernel) (fun ds e2 H2 hmid => ?_) (fun ds => ?_)
          ·
            obtain ⟨a2, cap2, Hr, lt, hrow2, hnn, hsl, rfl⟩ := hmid
            rw [← hsl.sets]
            refine WS_sub ((SubP.hsub (SubP.pick 1 (by rfl) (SubP.pick 1 (by rfl) (SubP.pick 1 (by rfl) (SubP.pick 1 (by rfl) (SubP.pick 1 (by rfl) (by exact SubP.drop (SubP.refl))))))))) ?_
            refine WS_callS hF (by rfl) (by rfl) (by rfl) Try.call78 (ih m (by omega) _ _ s1 a2 (tn + 1) cap2 (D ++ [(i : Int) + 1]) Hr (L ++ Hr) (by omega) hrow2 (by simp [hD]) (List.sublist_append_right _ _) (.inr ⟨hnn, by omega⟩) (fun _ => by rw [Nat.add_sub_cancel, List.getD_eq_getElem?_getD, ← hD]; simp; omega)) ?_
            rintro _ _ ⟨bb, s2, L2, rfl, rfl, hbt, hbf⟩
            refine WS_det hF (by rfl) (y_not (by rfl)) ?_
            refine WS_nil ?_
            refine Then_normal ?_
            refine W_cond (by rfl) (fun c11 => ?_) (fun c11 => ?_)
            ·
              try simp only [Bool.not_eq_true', Bool.not_eq_false', decide_eq_true_eq, decide_eq_false_iff_not, ne_eq, Classical.not_not, Int.not_lt, Int.not_le] at c11
              refine W_seq ?_
              refine W_region_lit (fun ds => ?_)
              refine WS_det hF (by rfl) (y_assign (c := .bool _) (by rfl)) ?_
              refine WS_nil ?_
              refine Then_normal ?_
              refine W_ret ?_
              refine InB_ret ?_
              refine Then_ret ?_
              refine Loop_ret ?_
              refine InB_ret ?_
              refine Then_ret ?_
              refine NoG_ret ?_
              refine Fin_ret [.bool _] (stkBase pf pb bk g ps l a cap _ cape s2 L2) Try.results78 ⟨by rfl, trivial⟩ HSub.refl ?_
              obtain ⟨R, fa, fn, fcap, Hf, hR, rfl, hrw, hln, hsb⟩ := hbf c11
              refine ⟨false, _, L2, rfl, rfl, fun h => (by cases h), fun _ => ⟨R, fa, fn, fcap, Hf, ?_, rfl, hrw, hln, hsb⟩⟩
              rw [hinv]
              exact firstSome_hit (by simp only; omega) (by unfold Lg.stkF; rw [if_pos c10]; exact hR)
            ·
              try simp only [Bool.not_eq_true', Bool.not_eq_false', decide_eq_true_eq, decide_eq_false_iff_not, ne_eq, Classical.not_not, Int.not_lt, Int.not_le] at c11
              obtain ⟨hR, rfl⟩ := hbt c11
              have hinv2 : l.stk (m + 1) D = firstSome (l.stkF m D) (i + 1) (l.es.length - (i + 1)) := by
                rw [hinv, firstSome_miss (by omega) (show l.stkF m D i = none by unfold Lg.stkF; rw [if_pos c10]; exact hR), Nat.sub_sub]
              refine W_skip ?_
              refine InB_normal ?_
              refine Then_normal ?_
              refine W_region_lit (fun ds => ?_)
              refine WS_det hF (by rfl) (y_move (c := .int .i64 _) (by rfl)) ?_
              refine WS_det hF (by rfl) (y_add (by rfl) (by rfl) (by unfold I64; omega)) ?_
              refine WS_det hF (by rfl) (y_assign (c := .int .i64 _) (by rfl)) ?_
              refine WS_nil ?_
              exact Loop_next (i + 1, s2) ⟨by omega, by omega, hinv2⟩ (by repeat (first | exact trivial | refine ⟨by rfl, ?_⟩)) (by repeat (first | exact List.Sublist.refl _ | exact List.sublist_append_left _ _ | exact List.nil_sublist _ | apply List.Sublist.cons_cons | apply List.Sublist.cons | refine List.Sublist.trans ?_ (List.sublist_append_right _ _))) (by simp only; omega)
          ·
            refine WA_take 1 (by rfl) (by rfl) (by decide +kernel) (by decide +kernel) (by rfl) (pure_move (by rfl)) ?_
            refine WA_take 3 (by rfl) (by rfl) (by decide +kernel) (by decide +kernel) (by rfl) (pure_move (by rfl)) ?_
            refine WA_take 4 (by rfl) (by rfl) (by decide +kernel) (by decide +kernel) (by rfl) (pure_add (by rfl) (by rfl) (by unfold I64; omega)) ?_
            refine WA_take 7 (by rfl) (by rfl) (by decide +kernel) (by decide +kernel) (by rfl) (pure_move (by rfl)) ?_
            refine WA_take 8 (by rfl) (by rfl) (by decide +kernel) (by decide +kernel) (by rfl) (pure_sub (by rfl) (by rfl) (by unfold I64; omega)) ?_
            refine WA_take 9 (by rfl) (by rfl) (by decide +kernel) (by decide +kernel) (by rfl) (pure_move (by rfl)) ?_
            refine WA_step3 0 2 5 (by decide +kernel) (by rfl) (by rfl) (by rfl) ?_ ?_ ?_
            ·
              refine WS_det hF (by rfl) (y_load1 (by rfl) Try.isAgg111 (Mem.own1 4 (by rfl) (by rfl))) ?_
              refine WS_nil ?_
              refine WA_step2 2 5 (by decide +kernel) (by rfl) (by rfl) ?_ ?_
              ·
                refine WS_gen hF (by rfl) (y_callL (by rfl) (by rfl) Try.call79 (fun w hw => clone_any ta tn tcap D w (Row.ints hrow hD (hsub.trans (by repeat (first | exact List.Sublist.refl _ | exact List.sublist_append_left _ _ | exact List.nil_sublist _ | apply List.Sublist.cons_cons | apply List.Sublist.cons | refine List.Sublist.trans ?_ (List.sublist_append_right _ _)))) w hw) (by omega) hnil)) ?_
                rintro _ Hc ⟨ca, ccap, rfl, hrowc, hnc⟩
                refine WS_back ?_
                refine WS_nil ?_
                refine WA_step1 5 (by decide +kernel) (by rfl) ?_
                ·
                  refine WS_newS hF (by rfl) (y_buildSliceL bs22_1_0 (by rfl)) (fun b6 => ?_)
                  refine WS_nil ?_
                  refine WA_step1 6 (by decide +kernel) (by rfl) ?_
                  ·
                    refine WS_appendE hF (n' := tn) (H1 := (_ :: _ :: _ :: _ :: _ :: _ :: L)) (by rfl) (by rfl) (by rfl) Try.underlying22 infInt (by rfl) (by rfl) hrowc (.inr ⟨_, _, rfl, Mem.own (us := [.int _ _]) 0 (by rfl) (by rfl)⟩) (by rfl) (by rfl) (by omega) (by omega) ?_
                    intro a2 cap2 Hr hrow2
                    have hrow3 : Row 3 1 a2 (tn + 1) cap2 (iv (D ++ [(i : Int) + 1])) Hr := by rw [iv, List.map_append]; exact hrow2
                    have hnn3 := Row.ne_none hrow3 (by omega)
                    refine WS_nil ?_
                    refine WA_done (by decide +kernel) ?_
                    exact ⟨_, _, _, _, hrow3, hnn3, (by repeat (first | exact trivial | refine ⟨by rfl, ?_⟩ | refine ⟨congrArg (Value.int _) (by first | omega | (simp only; omega) | (push_cast; omega)), ?_⟩)), rfl⟩
              ·
                refine WS_newS hF (by rfl) (y_buildSliceL bs22_1_0 (by rfl)) (fun b7 => ?_)
                refine WS_nil ?_
                refine WA_step1 2 (by decide +kernel) (by rfl) ?_
                ·
                  refine WS_gen hF (by rfl) (y_callL (by rfl) (by rfl) Try.call79 (fun w hw => clone_any ta tn tcap D w (Row.ints hrow hD (hsub.trans (by repeat (first | exact List.Sublist.refl _ | exact List.sublist_append_left _ _ | exact List.nil_sublist _ | apply List.Sublist.cons_cons | apply List.Sublist.cons | refine List.Sublist.trans ?_ (List.sublist_append_right _ _)))) w hw) (by omega) hnil)) ?_
                  rintro _ Hc ⟨ca, ccap, rfl, hrowc, hnc⟩
                  refine WS_back ?_
                  refine WS_nil ?_
                  refine WA_step1 6 (by decide +kernel) (by rfl) ?_
                  ·
                    refine WS_appendE hF (n' := tn) (H1 := (_ :: _ :: _ :: _ :: _ :: _ :: L)) (by rfl) (by rfl) (by rfl) Try.underlying22 infInt (by rfl) (by rfl) hrowc (.inr ⟨_, _, rfl, Mem.own (us := [.int _ _]) 0 (by rfl) (by rfl)⟩) (by rfl) (by rfl) (by omega) (by omega) ?_
                    intro a2 cap2 Hr hrow2
                    have hrow3 : Row 3 1 a2 (tn + 1) cap2 (iv (D ++ [(i : Int) + 1])) Hr := by rw [iv, List.map_append]; exact hrow2
                    have hnn3 := Row.ne_none hrow3 (by omega)
                    refine WS_nil ?_
                    refine WA_done (by decide +kernel) ?_
                    exact ⟨_, _, _, _, hrow3, hnn3, (by repeat (first | exact trivial | refine ⟨by rfl, ?_⟩ | refine ⟨congrArg (Value.int _) (by first | omega | (simp only; omega) | (push_cast; omega)), ?_⟩)), rfl⟩
            ·
              refine WS_gen hF (by rfl) (y_callL (by rfl) (by rfl) Try.call79 (fun w hw => clone_any ta tn tcap D w (Row.ints hrow hD (hsub.trans (by repeat (first | exact List.Sublist.refl _ | exact List.sublist_append_left _ _ | exact List.nil_sublist _ | apply List.Sublist.cons_cons | apply List.Sublist.cons | refine List.Sublist.trans ?_ (List.sublist_append_right _ _)))) w hw) (by omega) hnil)) ?_
              rintro _ Hc ⟨ca, ccap, rfl, hrowc, hnc⟩
              refine WS_back ?_
              refine WS_nil ?_
              refine WA_step2 0 5 (by decide +kernel) (by rfl) (by rfl) ?_ ?_
              ·
                refine WS_det hF (by rfl) (y_load1 (by rfl) Try.isAgg111 (Mem.own1 4 (by rfl) (by rfl))) ?_
                refine WS_nil ?_
                refine WA_step1 5 (by decide +kernel) (by rfl) ?_
                ·
                  refine WS_newS hF (by rfl) (y_buildSliceL bs22_1_0 (by rfl)) (fun b8 => ?_)
                  refine WS_nil ?_
                  refine WA_step1 6 (by decide +kernel) (by rfl) ?_
                  ·
                    refine WS_appendE hF (n' := tn) (H1 := (_ :: _ :: _ :: _ :: _ :: _ :: L)) (by rfl) (by rfl) (by rfl) Try.underlying22 infInt (by rfl) (by rfl) hrowc (.inr ⟨_, _, rfl, Mem.own (us := [.int _ _]) 0 (by rfl) (by rfl)⟩) (by rfl) (by rfl) (by omega) (by omega) ?_
                    intro a2 cap2 Hr hrow2
                    have hrow3 : Row 3 1 a2 (tn + 1) cap2 (iv (D ++ [(i : Int) + 1])) Hr := by rw [iv, List.map_append]; exact hrow2
                    have hnn3 := Row.ne_none hrow3 (by omega)
                    refine WS_nil ?_
                    refine WA_done (by decide +kernel) ?_
                    exact ⟨_, _, _, _, hrow3, hnn3, (by repeat (first | exact trivial | refine ⟨by rfl, ?_⟩ | refine ⟨congrArg (Value.int _) (by first | omega | (simp only; omega) | (push_cast; omega)), ?_⟩)), rfl⟩
              ·
                refine WS_newS hF (by rfl) (y_buildSliceL bs22_1_0 (by rfl)) (fun b9 => ?_)
                refine WS_nil ?_
                refine WA_step2 0 6 (by decide +kernel) (by rfl) (by rfl) ?_ ?_
                ·
                  refine WS_det hF (by rfl) (y_load1 (by rfl) Try.isAgg111 (Mem.own1 5 (by rfl) (by rfl))) ?_
                  refine WS_nil ?_
                  refine WA_step1 6 (by decide +kernel) (by rfl) ?_
                  ·
                    refine WS_appendE hF (n' := tn) (H1 := (_ :: _ :: _ :: _ :: _ :: _ :: L)) (by rfl) (by rfl) (by rfl) Try.underlying22 infInt (by rfl) (by rfl) hrowc (.inr ⟨_, _, rfl, Mem.own (us := [.int _ _]) 0 (by rfl) (by rfl)⟩) (by rfl) (by rfl) (by omega) (by omega) ?_
                    intro a2 cap2 Hr hrow2
                    have hrow3 : Row 3 1 a2 (tn + 1) cap2 (iv (D ++ [(i : Int) + 1])) Hr := by rw [iv, List.map_append]; exact hrow2
                    have hnn3 := Row.ne_none hrow3 (by omega)
                    refine WS_nil ?_
                    refine WA_done (by decide +kernel) ?_
                    exact ⟨_, _, _, _, hrow3, hnn3, (by repeat (first | exact trivial | refine ⟨by rfl, ?_⟩ | refine ⟨congrArg (Value.int _) (by first | omega | (simp only; omega) | (push_cast; omega)), ?_⟩)), rfl⟩
                ·
                  refine WS_appendE hF (n' := tn) (H1 := (_ :: _ :: _ :: _ :: _ :: _ :: L)) (by rfl) (by rfl) (by rfl) Try.underlying22 infInt (by rfl) (by rfl) hrowc (.inr ⟨_, _, rfl, Mem.own (us := [.int _ _]) 0 (by rfl) (by rfl)⟩) (by rfl) (by rfl) (by omega) (by omega) ?_
                  intro a2 cap2 Hr hrow2
                  have hrow3 : Row 3 1 a2 (tn + 1) cap2 (iv (D ++ [(i : Int) + 1])) Hr := by rw [iv, List.map_append]; exact hrow2
                  have hnn3 := Row.ne_none hrow3 (by omega)
                  refine WS_nil ?_
                  refine WA_step1 0 (by decide +kernel) (by rfl) ?_
                  ·
                    refine WS_det hF (by rfl) (y_load1 (by rfl) Try.isAgg111 (Mem.own1 5 (by rfl) (by rfl))) ?_
                    refine WS_nil ?_
                    refine WA_done (by decide +kernel) ?_
                    exact ⟨_, _, _, _, hrow3, hnn3, (by repeat (first | exact trivial | refine ⟨by rfl, ?_⟩ | refine ⟨congrArg (Value.int _) (by first | omega | (simp only; omega) | (push_cast; omega)), ?_⟩)), rfl⟩
            ·
              refine WS_newS hF (by rfl) (y_buildSliceL bs22_1_0 (by rfl)) (fun b10 => ?_)
              refine WS_nil ?_
              refine WA_step2 0 2 (by decide +kernel) (by rfl) (by rfl) ?_ ?_
              ·
                refine WS_det hF (by rfl) (y_load1 (by rfl) Try.isAgg111 (Mem.own1 5 (by rfl) (by rfl))) ?_
                refine WS_nil ?_
                refine WA_step1 2 (by decide +kernel) (by rfl) ?_
                ·
                  refine WS_gen hF (by rfl) (y_callL (by rfl) (by rfl) Try.call79 (fun w hw => clone_any ta tn tcap D w (Row.ints hrow hD (hsub.trans (by repeat (first | exact List.Sublist.refl _ | exact List.sublist_append_left _ _ | exact List.nil_sublist _ | apply List.Sublist.cons_cons | apply List.Sublist.cons | refine List.Sublist.trans ?_ (List.sublist_append_right _ _)))) w hw) (by omega) hnil)) ?_
                  rintro _ Hc ⟨ca, ccap, rfl, hrowc, hnc⟩
                  refine WS_back ?_
                  refine WS_nil ?_
                  refine WA_step1 6 (by decide +kernel) (by rfl) ?_
                  ·
                    refine WS_appendE hF (n' := tn) (H1 := (_ :: _ :: _ :: _ :: _ :: _ :: L)) (by rfl) (by rfl) (by rfl) Try.underlying22 infInt (by rfl) (by rfl) hrowc (.inr ⟨_, _, rfl, Mem.own (us := [.int _ _]) 0 (by rfl) (by rfl)⟩) (by rfl) (by rfl) (by omega) (by omega) ?_
                    intro a2 cap2 Hr hrow2
                    have hrow3 : Row 3 1 a2 (tn + 1) cap2 (iv (D ++ [(i : Int) + 1])) Hr := by rw [iv, List.map_append]; exact hrow2
                    have hnn3 := Row.ne_none hrow3 (by omega)
                    refine WS_nil ?_
                    refine WA_done (by decide +kernel) ?_
                    exact ⟨_, _, _, _, hrow3, hnn3, (by repeat (first | exact trivial | refine ⟨by rfl, ?_⟩ | refine ⟨congrArg (Value.int _) (by first | omega | (simp only; omega) | (push_cast; omega)), ?_⟩)), rfl⟩
              ·
                refine WS_gen hF (by rfl) (y_callL (by rfl) (by rfl) Try.call79 (fun w hw => clone_any ta tn tcap D w (Row.ints hrow hD (hsub.trans (by repeat (first | exact List.Sublist.refl _ | exact List.sublist_append_left _ _ | exact List.nil_sublist _ | apply List.Sublist.cons_cons | apply List.Sublist.cons | refine List.Sublist.trans ?_ (List.sublist_append_right _ _)))) w hw) (by omega) hnil)) ?_
                rintro _ Hc ⟨ca, ccap, rfl, hrowc, hnc⟩
                refine WS_back ?_
                refine WS_nil ?_
                refine WA_step2 0 6 (by decide +kernel) (by rfl) (by rfl) ?_ ?_
                ·
                  refine WS_det hF (by rfl) (y_load1 (by rfl) Try.isAgg111 (Mem.own1 5 (by rfl) (by rfl))) ?_
                  refine WS_nil ?_
                  refine WA_step1 6 (by decide +kernel) (by rfl) ?_
                  ·
                    refine WS_appendE hF (n' := tn) (H1 := (_ :: _ :: _ :: _ :: _ :: _ :: L)) (by rfl) (by rfl) (by rfl) Try.underlying22 infInt (by rfl) (by rfl) hrowc (.inr ⟨_, _, rfl, Mem.own (us := [.int _ _]) 0 (by rfl) (by rfl)⟩) (by rfl) (by rfl) (by omega) (by omega) ?_
                    intro a2 cap2 Hr hrow2
                    have hrow3 : Row 3 1 a2 (tn + 1) cap2 (iv (D ++ [(i : Int) + 1])) Hr := by rw [iv, List.map_append]; exact hrow2
                    have hnn3 := Row.ne_none hrow3 (by omega)
                    refine WS_nil ?_
                    refine WA_done (by decide +kernel) ?_
                    exact ⟨_, _, _, _, hrow3, hnn3, (by repeat (first | exact trivial | refine ⟨by rfl, ?_⟩ | refine ⟨congrArg (Value.int _) (by first | omega | (simp only; omega) | (push_cast; omega)), ?_⟩)), rfl⟩
                ·
                  refine WS_appendE hF (n' := tn) (H1 := (_ :: _ :: _ :: _ :: _ :: _ :: L)) (by rfl) (by rfl) (by rfl) Try.underlying22 infInt (by rfl) (by rfl) hrowc (.inr ⟨_, _, rfl, Mem.own (us := [.int _ _]) 0 (by rfl) (by rfl)⟩) (by rfl) (by rfl) (by omega) (by omega) ?_
                  intro a2 cap2 Hr hrow2
                  have hrow3 : Row 3 1 a2 (tn + 1) cap2 (iv (D ++ [(i : Int) + 1])) Hr := by rw [iv, List.map_append]; exact hrow2
                  have hnn3 := Row.ne_none hrow3 (by omega)
                  refine WS_nil ?_
                  refine WA_step1 0 (by decide +kernel) (by rfl) ?_
                  ·
                    refine WS_det hF (by rfl) (y_load1 (by rfl) Try.isAgg111 (Mem.own1 5 (by rfl) (by rfl))) ?_
                    refine WS_nil ?_
                    refine WA_done (by decide +kernel) ?_
                    exact ⟨_, _, _, _, hrow3, hnn3, (by repeat (first | exact trivial | refine ⟨by rfl, ?_⟩ | refine ⟨congrArg (Value.int _) (by first | omega | (simp only; omega) | (push_cast; omega)), ?_⟩)), rfl⟩
      ·
        try simp only [Bool.not_eq_true', Bool.not_eq_false', decide_eq_true_eq, decide_eq_false_iff_not, ne_eq, Classical.not_not, Int.not_lt, Int.not_le] at c8
        refine W_exit ?_
        refine Then_exit ?_
        refine Loop_exit ?_
        refine InB_same ?_
        refine Then_normal ?_
        refine W_seq ?_
        refine W_region_lit (fun ds => ?_)
        refine WS_det hF (by rfl) (y_assign (c := .bool _) (by rfl)) ?_
        refine WS_nil ?_
        refine Then_normal ?_
        refine W_ret ?_
        refine NoG_ret ?_
        refine Fin_ret [.bool _] (stkBase pf pb bk g ps l a cap ae cape s1 L) Try.results78 ⟨by rfl, trivial⟩ HSub.refl ?_
        simp only at hi1 hinv
        obtain rfl : i = l.es.length := by omega
        exact ⟨true, s1, L, rfl, rfl, fun _ => ⟨by rw [hinv, Nat.sub_self]; rfl, rfl⟩, fun h => (by cases h)⟩
end Go.Proofs.Ythkimgfgpphgnaa.T

/- Dips that must be false; whether a log is valid: the walks. -/
namespace Go.Proofs.Ythkimgfgpphgnaa.T
open Go.RowKit Go.Proofs Go.Eng
set_option maxRecDepth 100000
set_option linter.unusedVariables false
set_option linter.unusedSimpArgs false



def Lg.wr (l : Lg) : Option (List Int) := firstSome (fun n => l.stk n []) 0 (l.es.length + 1)
def WrongV (l : Lg) (v : Value) (Hn : List Blk) : Prop :=
  (l.err ≠ 0 → v = .tuple #[.slice none 0 0, .int .i64 l.err] ∧ Hn = []) ∧
  (l.err = 0 → (∀ R, l.wr = some R → ∃ fa fn fcap, v = .tuple #[.slice fa fn fcap, .int .i64 0] ∧ Row 3 1 fa fn fcap (iv R) Hn ∧ R.length = fn) ∧ (l.wr = none → v = .tuple #[.slice none 0 0, .int .i64 6] ∧ Hn = []))
theorem wrong_any (l : Lg) (a : Option Addr) (cap : Nat) (ae : Option Addr) (cape : Nat) (w : World) (hn : l.tk.n ≤ 1000000) (hx : Ints w a l.tk.n cap l.tk.pints) (he : Ens w ae l.es.length cape l.es) : Ct Try.prog 24 #[.agg #[.slice a l.tk.n cap, .int .i64 l.tk.leak, .int .i64 l.tk.foot, .int .i64 l.start.lo, .int .i64 l.start.hi, .slice ae l.es.length cape]] w (WrongV l) := by
  have hF := wide_wide
  refine Ct_start (args := [_]) Try.func24 (by rfl) Try.ntmps24 (by rfl) ?_
  refine W_seq ?_
  refine W_region_lit (fun ds => ?_)
  refine WS_new hF (by rfl) (y_box (by rfl)) (fun b1 => ?_)
  refine WS_det hF (by rfl) (y_assign (c := .slice _ _ _) (by rfl)) ?_
  refine WS_det hF (by rfl) (y_assign (c := .int .i64 _) (by rfl)) ?_
  refine WS_nil ?_
  refine Then_normal ?_
  refine W_seq ?_
  refine W_region_lit (fun ds => ?_)
  refine WS_det hF (by rfl) (y_loadN (by rfl) Try.isAgg46 Try.sizeOf46 (Mem.own (us := [.slice _ _ _, .int .i64 _, .int .i64 _, .int .i64 _, .int .i64 _, .slice _ _ _]) 0 (by rfl) (by rfl)) (by rfl)) ?_
  refine WS_gen hF (by rfl) (y_callL (by rfl) (by rfl) Try.call77 (fun w hw => opened_any l a cap ae cape w hn (hx.st w hw) (he.st w hw))) ?_
  rintro _ Hg ⟨p, rfl, hg1, hg2⟩
  refine WS_det hF (by rfl) (y_move (c := .tuple _) (by rfl)) ?_
  refine WS_det hF (by rfl) (y_extract (c := .pointer _) (by rfl) (by rfl)) ?_
  refine WS_det hF (by rfl) (y_extract (c := .int .i64 _) (by rfl) (by rfl)) ?_
  refine WS_new hF (by rfl) (y_alloc Try.zeroValue108 (by rfl)) (fun pb => ?_)
  refine WS_store hF (i := 0) (by rfl) (by rfl) Try.sizeOf108 (by rfl) (by rfl) (by rfl) (by first | decide | exact Nat.le_of_ble_eq_true rfl | simp) ?_
  refine WS_det hF (by rfl) (y_assign (c := .int .i64 _) (by rfl)) ?_
  refine WS_nil ?_
  refine Then_normal ?_
  refine W_seq ?_
  refine W_seq ?_
  refine W_region_lit (fun ds => ?_)
  refine WS_det hF (by rfl) (y_move (c := .int .i64 _) (by rfl)) ?_
  refine WS_det hF (by rfl) (y_neq (by rfl) (by rfl)) ?_
  refine WS_nil ?_
  refine Then_normal ?_
  refine W_cond (by rfl) (fun c2 => ?_) (fun c2 => ?_)
  ·
    try simp only [Bool.not_eq_true', Bool.not_eq_false', decide_eq_true_eq, decide_eq_false_iff_not, ne_eq, Classical.not_not, Int.not_lt, Int.not_le] at c2
    obtain rfl := hg2 c2
    refine W_seq ?_
    refine W_region_lit (fun ds => ?_)
    refine WS_det hF (by rfl) (y_move (c := .int .i64 _) (by rfl)) ?_
    refine WS_det hF (by rfl) (y_assign (c := .slice _ _ _) (by rfl)) ?_
    refine WS_det hF (by rfl) (y_assign (c := .int .i64 _) (by rfl)) ?_
    refine WS_nil ?_
    refine Then_normal ?_
    refine W_ret ?_
    refine Then_ret ?_
    refine Fin_ret [.slice _ _ _, .int .i64 _] [] Try.results24 ⟨by rfl, by rfl, trivial⟩ HSub.nil ?_
    exact ⟨fun _ => ⟨rfl, rfl⟩, fun h => absurd h c2⟩
  ·
    try simp only [Bool.not_eq_true', Bool.not_eq_false', decide_eq_true_eq, decide_eq_false_iff_not, ne_eq, Classical.not_not, Int.not_lt, Int.not_le] at c2
    obtain ⟨g, bk, rfl, rfl⟩ := hg1 c2
    have hok := l.ok_of c2
    have hn12 := hok.n12
    refine W_skip ?_
    refine Then_normal ?_
    refine W_seq ?_
    refine W_region_lit (fun ds => ?_)
    refine WS_new hF (by rfl) (y_alloc Try.zeroValue111 (by rfl)) (fun ps => ?_)
    refine WS_nil ?_
    refine Then_normal ?_
    refine W_seq ?_
    refine W_region_lit (fun ds => ?_)
    refine WS_det hF (by rfl) (y_makeFuncL (by rfl) (by rfl)) ?_
    refine WS_store hF (i := 0) (by rfl) (by rfl) Try.sizeOf111 (by rfl) (by rfl) (by rfl) (by first | decide | exact Nat.le_of_ble_eq_true rfl | simp) ?_
    refine WS_nil ?_
    refine Then_normal ?_
    refine W_seq ?_
    refine W_seq ?_
    refine W_region_lit (fun ds => ?_)
    refine WS_det hF (by rfl) (y_load1 (by rfl) Try.isAgg108 (Mem.own1 1 (by rfl) (by rfl))) ?_
    refine WS_det hF (by rfl) (by first | exact y_nilCheck (by rfl) | exact y_nilCheckF (by rfl)) ?_
    refine WS_det hF (by rfl) (y_fieldAddr (by rfl) fa119_1) ?_
    refine WS_det hF (by rfl) (y_fieldAddr (by rfl) fa46_2) ?_
    refine WS_det hF (by rfl) (y_load1 (by rfl) Try.isAgg44 (Mem.own1 2 (by rfl) (by rfl))) ?_
    refine WS_det hF (by rfl) (y_len (by rfl) Try.runUnderlying44) ?_
    refine WS_det hF (by rfl) (y_add (by rfl) (by rfl) (by unfold I64; omega)) ?_
    refine WS_det hF (by rfl) (y_move (c := .int .i64 _) (by rfl)) ?_
    refine WS_nil ?_
    refine Then_normal ?_
    refine W_block ?_
    refine W_loop (γ := Nat) (fun k => k ≤ l.es.length + 1 ∧ l.wr = firstSome (fun n => l.stk n []) k (l.es.length + 1 - k)) (fun k => [(4, .pointer (some ⟨pb, 0, none⟩)), (6, .pointer (some ⟨ps, 0, none⟩)), (24, .int .i64 ((l.es.length : Int) + 1)), (25, .int .i64 (k : Int))]) (fun k => [(ps, CB [.func (.func 78) #[] #[.pointer (some ⟨pb, 0, none⟩), .pointer (some ⟨ps, 0, none⟩)]] 111), (pb, CB [.pointer (some ⟨bk, 0, none⟩)] 108), (bk, CB (bookCells g l a cap ae cape) 119), (g, CB (gaugeCells l.tk a cap) 98)]) (fun k => l.es.length + 1 - k) (0) ⟨Nat.zero_le _, rfl⟩ (by repeat (first | exact trivial | refine ⟨by rfl, ?_⟩)) ((by repeat (first | exact List.Sublist.refl _ | exact List.nil_sublist _ | apply List.Sublist.cons_cons | apply List.Sublist.cons))) ?_
    rintro k e ⟨hk, hinv⟩
    refine W_seq ?_
    refine W_region_lit (fun ds => ?_)
    refine WS_det hF (by rfl) (y_lss (by rfl) (by rfl)) ?_
    refine WS_nil ?_
    refine Then_normal ?_
    refine W_seq ?_
    refine W_cond (by rfl) (fun c7 => ?_) (fun c7 => ?_)
    ·
      try simp only [Bool.not_eq_true', Bool.not_eq_false', decide_eq_true_eq, decide_eq_false_iff_not, ne_eq, Classical.not_not, Int.not_lt, Int.not_le] at c7
      refine W_skip ?_
      refine Then_normal ?_
      refine W_seq ?_
      refine W_block ?_
      refine W_seq ?_
      refine W_region_lit (fun ds => ?_)
      refine WS_det hF (by rfl) (y_move (c := .int .i64 _) (by rfl)) ?_
      refine WS_det hF (by rfl) (y_assign (c := .int .i64 _) (by rfl)) ?_
      refine WS_nil ?_
      refine Then_normal ?_
      refine W_seq ?_
      refine W_region_lit (fun ds => ?_)
      refine WS_new hF (by rfl) (y_alloc Try.zeroValue22 (by rfl)) (fun pf => ?_)
      refine WS_nil ?_
      refine Then_normal ?_
      refine W_seq ?_
      refine W_region_lit (fun ds => ?_)
      refine WS_det hF (by rfl) (y_load1 (by rfl) Try.isAgg111 (Mem.own1 1 (by rfl) (by rfl))) ?_
      refine WS_det hF (by rfl) (y_move (c := .int .i64 _) (by rfl)) ?_
      refine WS_det hF (by rfl) (y_makeFuncL (by rfl) (by rfl)) ?_
      refine WS_sub ((SubP.hsub (SubP.pick 0 (by rfl) (SubP.pick 1 (by rfl) (SubP.pick 1 (by rfl) (SubP.pick 1 (by rfl) (SubP.pick 0 (by rfl) (SubP.nil)))))))) ?_
      refine WS_callS hF (by rfl) (by rfl) (by rfl) Try.call78 (strike_cs _ pf pb bk g ps l a cap ae cape hok hx he k _ _ _ none 0 0 [] [] [] (by omega) (Row.nil 3 1) rfl (List.Sublist.refl _) (.inl ⟨rfl, rfl⟩) (fun h => by omega)) ?_
      rintro _ _ ⟨bb, s2, L2, rfl, rfl, hbt, hbf⟩
      refine WS_det hF (by rfl) (y_not (by rfl)) ?_
      refine WS_nil ?_
      refine Then_normal ?_
      refine W_cond (by rfl) (fun c10 => ?_) (fun c10 => ?_)
      ·
        try simp only [Bool.not_eq_true', Bool.not_eq_false', decide_eq_true_eq, decide_eq_false_iff_not, ne_eq, Classical.not_not, Int.not_lt, Int.not_le] at c10
        obtain ⟨R, fa, fn, fcap, Hf, hR, rfl, hrw, hln, hsb⟩ := hbf c10
        refine W_seq ?_
        refine W_region_lit (fun ds => ?_)
        refine WS_det hF (by rfl) (y_load1 (by rfl) Try.isAgg22 (Mem.own1 0 (by rfl) (by rfl))) ?_
        refine WS_det hF (by rfl) (y_assign (c := .slice _ _ _) (by rfl)) ?_
        refine WS_det hF (by rfl) (y_assign (c := .int .i64 _) (by rfl)) ?_
        refine WS_nil ?_
        refine Then_normal ?_
        refine W_ret ?_
        refine InB_ret ?_
        refine Then_ret ?_
        refine Loop_ret ?_
        refine InB_ret ?_
        refine Then_ret ?_
        refine Fin_ret [.slice _ _ _, .int .i64 _] Hf Try.results24 ⟨by rfl, by rfl, trivial⟩ (HSub.sub (hsb.trans (by repeat (first | exact List.Sublist.refl _ | exact List.sublist_append_left _ _ | exact List.nil_sublist _ | apply List.Sublist.cons_cons | apply List.Sublist.cons | refine List.Sublist.trans ?_ (List.sublist_append_right _ _))))) ?_
        refine ⟨fun h => absurd c2 h, fun _ => ⟨fun R2 h2 => ?_, fun h2 => ?_⟩⟩
        · rw [hinv, firstSome_hit (by omega) hR] at h2
          cases h2
          exact ⟨fa, fn, fcap, rfl, hrw, hln⟩
        · rw [hinv, firstSome_hit (by omega) hR] at h2; cases h2
      ·
        try simp only [Bool.not_eq_true', Bool.not_eq_false', decide_eq_true_eq, decide_eq_false_iff_not, ne_eq, Classical.not_not, Int.not_lt, Int.not_le] at c10
        obtain ⟨hR, rfl⟩ := hbt c10
        have hinv2 : l.wr = firstSome (fun n => l.stk n []) (k + 1) (l.es.length + 1 - (k + 1)) := by rw [hinv, firstSome_miss (by omega) hR, Nat.sub_sub]
        refine W_skip ?_
        refine InB_normal ?_
        refine Then_normal ?_
        refine W_region_lit (fun ds => ?_)
        refine WS_sub ((SubP.hsub (SubP.pick 4 (by rfl) (SubP.pick 1 (by rfl) (SubP.pick 1 (by rfl) (SubP.pick 1 (by rfl) (SubP.nil))))))) ?_
        refine WS_det hF (by rfl) (y_add (by rfl) (by rfl) (by unfold I64; omega)) ?_
        refine WS_det hF (by rfl) (y_move (c := .int .i64 _) (by rfl)) ?_
        refine WS_nil ?_
        exact Loop_next (k + 1) ⟨by omega, hinv2⟩ (by repeat (first | exact trivial | refine ⟨by rfl, ?_⟩)) (by repeat (first | exact List.Sublist.refl _ | exact List.nil_sublist _ | apply List.Sublist.cons_cons | apply List.Sublist.cons)) (by omega)
    ·
      try simp only [Bool.not_eq_true', Bool.not_eq_false', decide_eq_true_eq, decide_eq_false_iff_not, ne_eq, Classical.not_not, Int.not_lt, Int.not_le] at c7
      refine W_exit ?_
      refine Then_exit ?_
      refine Loop_exit ?_
      refine InB_same ?_
      refine Then_normal ?_
      refine W_seq ?_
      refine W_region_lit (fun ds => ?_)
      refine WS_det hF (by rfl) (y_assign (c := .slice _ _ _) (by rfl)) ?_
      refine WS_det hF (by rfl) (y_assign (c := .int .i64 _) (by rfl)) ?_
      refine WS_nil ?_
      refine Then_normal ?_
      refine W_ret ?_
      refine Fin_ret [.slice _ _ _, .int .i64 _] [] Try.results24 ⟨by rfl, by rfl, trivial⟩ HSub.nil ?_
      refine ⟨fun h => absurd c2 h, fun _ => ⟨fun R2 h2 => ?_, fun h2 => ⟨rfl, rfl⟩⟩⟩
      rw [hinv, show l.es.length + 1 - k = 0 by omega] at h2
      cases h2
theorem valid_any (l : Lg) (a : Option Addr) (cap : Nat) (ae : Option Addr) (cape : Nat) (w : World) (hn : l.tk.n ≤ 1000000) (hx : Ints w a l.tk.n cap l.tk.pints) (he : Ens w ae l.es.length cape l.es) : Ct Try.prog 45 #[.agg #[.slice a l.tk.n cap, .int .i64 l.tk.leak, .int .i64 l.tk.foot, .int .i64 l.start.lo, .int .i64 l.start.hi, .slice ae l.es.length cape]] w fun v _ => v = .int .i64 l.err := by
  have hF := wide_wide
  refine Ct_start (args := [_]) Try.func45 (by rfl) Try.ntmps45 (by rfl) ?_
  refine W_seq ?_
  refine W_region_lit (fun ds => ?_)
  refine WS_new hF (by rfl) (y_box (by rfl)) (fun b1 => ?_)
  refine WS_det hF (by rfl) (y_assign (c := .int .i64 _) (by rfl)) ?_
  refine WS_nil ?_
  refine Then_normal ?_
  refine W_seq ?_
  refine W_region_lit (fun ds => ?_)
  refine WS_det hF (by rfl) (y_loadN (by rfl) Try.isAgg46 Try.sizeOf46 (Mem.own (us := [.slice _ _ _, .int .i64 _, .int .i64 _, .int .i64 _, .int .i64 _, .slice _ _ _]) 0 (by rfl) (by rfl)) (by rfl)) ?_
  refine WS_gen hF (by rfl) (y_callL (by rfl) (by rfl) Try.call77 (fun w hw => opened_any l a cap ae cape w hn (hx.st w hw) (he.st w hw))) ?_
  rintro _ Hg ⟨p, rfl, hg1, hg2⟩
  refine WS_det hF (by rfl) (y_move (c := .tuple _) (by rfl)) ?_
  refine WS_det hF (by rfl) (y_extract (c := .pointer _) (by rfl) (by rfl)) ?_
  refine WS_det hF (by rfl) (y_extract (c := .int .i64 _) (by rfl) (by rfl)) ?_
  refine WS_det hF (by rfl) (y_assign (c := .pointer _) (by rfl)) ?_
  refine WS_det hF (by rfl) (y_assign (c := .int .i64 _) (by rfl)) ?_
  refine WS_nil ?_
  refine Then_normal ?_
  refine W_seq ?_
  refine W_region_lit (fun ds => ?_)
  refine WS_det hF (by rfl) (y_move (c := .int .i64 _) (by rfl)) ?_
  refine WS_det hF (by rfl) (y_assign (c := .int .i64 _) (by rfl)) ?_
  refine WS_nil ?_
  refine Then_normal ?_
  refine W_ret ?_
  refine Fin_ret [.int .i64 _] [] Try.results45 ⟨by rfl, trivial⟩ HSub.nil ?_
  rfl
end Go.Proofs.Ythkimgfgpphgnaa.T

/- The law of what a tank holds, walked. -/
namespace Go.Proofs.Ythkimgfgpphgnaa.T
open Go.RowKit Go.Proofs Go.Eng
set_option maxRecDepth 100000
set_option maxHeartbeats 800000
set_option linter.unusedVariables false
set_option linter.unusedSimpArgs false



def Lg.trs (l : Lg) : List Int := if l.aerr = 0 then (List.range (l.es.length + 1)).map l.tr else []
theorem truth_ints {l : Lg} {v : Value} {Hn : List Blk} (h : TruthV l v Hn) : ∃ a cap, v = .tuple #[.slice a l.trs.length cap, .int .i64 l.aerr] ∧ ∀ (C : Ctx) (H : List Blk) (w : World), Hn.Sublist H → St C H w → Ints w a l.trs.length cap l.trs := by
  by_cases h0 : l.aerr = 0
  · obtain ⟨tb, cap, junk, rfl, hc, rfl⟩ := h.2 h0
    have hl : l.trs = (List.range (l.es.length + 1)).map l.tr := if_pos h0
    have hn : l.trs.length = l.es.length + 1 := by rw [hl, List.length_map, List.length_range]
    rw [hn, h0]
    refine ⟨_, _, rfl, fun C H w hs hw => ⟨hn, hc, fun k hk => ⟨tb, 0, rfl, ?_⟩⟩⟩
    have hm : Mem C H tb (0 + k * 1) [.int .i64 (l.trs.getD k 0)] := fun w hw => by
      have e := Mem.iRowJ (C := C) (H := [(tb, CB (iRow l.tr (l.es.length + 1) ++ junk) 3)]) (f := l.tr) 0 (by rfl) hk (o := 0 + k * 1) (by omega)
      have g : l.trs.getD k 0 = l.tr k := by rw [hl]; simp [List.getD, hk]
      rw [g]
      exact e w (hw.sub hs)
    exact hm w hw
  · obtain ⟨rfl, rfl⟩ := h.1 h0
    have hl : l.trs = [] := if_neg h0
    rw [hl]
    exact ⟨_, _, rfl, fun C H w hs hw => ⟨rfl, Nat.le_refl _, fun k hk => absurd hk (by simp)⟩⟩
end Go.Proofs.Ythkimgfgpphgnaa.T

/- Changes: copies of logs: the walks of Clone, copied and Add. -/
namespace Go.Eng
open Go.RowKit
section
variable {C : Ctx} {F : Fence} {n : Nat} {ds : List Deferred} {all : Array Oper} {Q : Exit → Env → List Blk → Prop} {rest : List Oper} {e : Env} {H : List Blk} {d : Option Tmp} {ty : TypeId} {pos : String} {af : Array Edge} {g : Option (Nat × Bool)}
theorem WS_appendN (hF : Wide F) {x y : Operand} {T E : TypeId} {a a' : Option Addr} {n' m cap cap' sz by_ : Nat} {us news : List Value} {z : Value} {H1 Hn : List Blk} (hc : chk n all e ⟨d, .call ⟨.builtin .append, #[x, y], #[T, T]⟩, ty, pos, af, g⟩ = true)
    (hx : ev e x = .slice a n' cap) (hy : ev e y = .slice a' m cap') (hT : C.P.underlying T = some (.slice E)) (hinf : (C.P.info? E).map (fun i => (i.zero, i.size, i.bytes)) = some (some z, sz, by_))
    (hzs : z.cells.size = sz) (hH : H = H1 ++ Hn) (hrow : NewRow E sz n' us (.slice a n' cap) Hn) (hul : us.length = n' * sz) (hs : Src C H a' m news) (hl : news.length = m * sz) (hone : news.all Value.oneCell' = true) (hb : (n' + m) * by_ ≤ 140737488355328) (hm : n' + m ≤ 140737488355328) (h0 : 0 < m)
    (hk : ∀ a' cap' Hn', NewRow E sz (n' + m) (us ++ news) (.slice a' (n' + m) cap') Hn' → WS C F n ds all Q rest (updo e d (.slice a' (n' + m) cap')) (H1 ++ Hn')) :
    WS C F n ds all Q (⟨d, .call ⟨.builtin .append, #[x, y], #[T, T]⟩, ty, pos, af, g⟩ :: rest) e H := by
  by_cases hn : n' = 0
  · subst hn
    have hu : us = [] := by simpa using hul
    subst hu
    obtain ⟨a1, cap1, he, hle, ⟨h, _⟩ | ⟨_, rfl, rfl⟩⟩ := hrow
    · omega
    cases he
    rw [Nat.zero_add] at hb hm hk
    refine WS_gen hF hc (y_append0 hx hy hT hinf hzs hs hl hb hm) fun v Hv hv => ?_
    have hv2 := hv
    obtain ⟨a2, cap2, rfl, _⟩ := hv
    subst hH
    intro w hw act ha
    exact hk a2 cap2 Hv (by rw [List.nil_append]; exact hv2) w ⟨hw.1, hw.2.perm (by rw [List.append_nil]; exact List.perm_append_comm), hw.3⟩ act ha
  · obtain ⟨a1, cap1, he, hr⟩ := hrow.row hul (by omega)
    cases he
    refine WS_appendE hF hc hx hy hT hinf hzs hH hr hs hl hone hb hm fun a2 cap2 Hn' hr2 => hk a2 cap2 Hn' ?_
    obtain ⟨_, h, _⟩ | ⟨b, junk, rfl, rfl, h1, h2, h3⟩ := hr2
    · omega
    · exact ⟨_, _, rfl, h3, .inl ⟨by omega, b, junk, rfl, rfl, h2⟩⟩
end
end Go.Eng
namespace Go.Proofs.Ythkimgfgpphgnaa.T
open Go.RowKit Go.Proofs Go.Eng
set_option maxRecDepth 100000
set_option linter.unusedVariables false
set_option linter.unusedSimpArgs false



theorem Row.newRow {T : TypeId} {sz n cap : Nat} {us : List Value} {a : Option Addr} {Hn : List Blk} (h : Row T sz a n cap us Hn) (hn : 0 < n) : NewRow T sz n us (.slice a n cap) Hn := by
  obtain ⟨_, h, _⟩ | ⟨b, junk, rfl, rfl, h1, h2, h3⟩ := h
  · omega
  · exact ⟨_, _, rfl, h3, .inl ⟨hn, b, junk, rfl, rfl, h2⟩⟩
theorem hsub_front {A B : List Blk} {x y : Blk} : HSub (A ++ (B ++ [x, y])) (x :: y :: (A ++ B)) := fun _ _ h => h.perm (by rw [← List.append_assoc]; exact List.perm_append_comm (l₁ := [x, y]))
theorem cloneE_any (l : Lg) (ae : Option Addr) (cape : Nat) (w : World) (hnes : l.es.length ≤ 1000000) (he : Ens w ae l.es.length cape l.es) :
    Ct Try.prog 126 #[.slice ae l.es.length cape] w (NewRow 48 4 l.es.length (rowOf En.cells l.e l.es.length)) := by
  have hlen : (rowOf En.cells l.e l.es.length).length = l.es.length * 4 := rowOf_len en_len _ _
  have hF := wide_wide
  refine Ct_start (args := [_]) Try.func126 (by rfl) Try.ntmps126 (by rfl) ?_
  refine W_seq ?_
  refine W_region_lit (fun ds => ?_)
  refine WS_det hF (by rfl) (y_assign (c := .slice _ _ _) (by rfl)) ?_
  refine WS_nil ?_
  refine Then_normal ?_
  refine W_seq ?_
  refine W_seq ?_
  refine W_region_lit (fun ds => ?_)
  refine WS_det hF (by rfl) (y_move (c := .slice _ _ _) (by rfl)) ?_
  refine WS_det hF (by rfl) (y_eqlNil (by rfl) (by rfl) Try.runUnderlying44) ?_
  refine WS_nil ?_
  refine Then_normal ?_
  refine W_cond (by rfl) (fun c1 => ?_) (fun c1 => ?_)
  ·
    try simp only [Bool.not_eq_true', Bool.not_eq_false', decide_eq_true_eq, decide_eq_false_iff_not, ne_eq, Classical.not_not, Int.not_lt, Int.not_le] at c1
    refine W_seq ?_
    refine W_region_lit (fun ds => ?_)
    refine WS_det hF (by rfl) (y_assign (c := .slice _ _ _) (by rfl)) ?_
    refine WS_nil ?_
    refine Then_normal ?_
    refine W_ret ?_
    refine Then_ret ?_
    refine Fin_ret [.slice _ _ _] [] Try.results126 ⟨by rfl, trivial⟩ HSub.nil ?_
    have h0 : l.es.length = 0 := by
      rcases Nat.eq_zero_or_pos l.es.length with h | h
      · exact h
      · obtain ⟨b, o, rfl, _⟩ := he.cell 0 h
        cases c1
    rw [h0]
    exact ⟨none, 0, rfl, Nat.le_refl _, .inr ⟨rfl, rfl, rfl⟩⟩
  ·
    try simp only [Bool.not_eq_true', Bool.not_eq_false', decide_eq_true_eq, decide_eq_false_iff_not, ne_eq, Classical.not_not, Int.not_lt, Int.not_le] at c1
    refine W_skip ?_
    refine Then_normal ?_
    refine W_seq ?_
    refine W_region_lit (fun ds => ?_)
    refine WS_newS hF (by rfl) (y_buildSliceL bs44_0 (by rfl)) (fun b1 => ?_)
    refine WS_det hF (by rfl) (y_move (c := .slice _ _ _) (by rfl)) ?_
    refine WS_gen hF (by rfl) (y_append0 (by rfl) (by rfl) Try.underlying44 infEntry (by rfl) (Rws.src en_len he) hlen (by omega) (by omega)) ?_
    rintro _ Hc ⟨a', cap', rfl, hle, hd⟩
    refine WS_det hF (by rfl) (y_assign (c := .slice _ _ _) (by rfl)) ?_
    refine WS_nil ?_
    refine Then_normal ?_
    refine W_ret ?_
    refine Fin_ret [.slice _ _ _] Hc Try.results126 ⟨by rfl, trivial⟩ (HSub.sub (by repeat (first | exact List.Sublist.refl _ | exact List.sublist_append_left _ _ | exact List.nil_sublist _ | apply List.Sublist.cons_cons | apply List.Sublist.cons | refine List.Sublist.trans ?_ (List.sublist_append_right _ _)))) ?_
    exact ⟨a', cap', rfl, hle, hd⟩
theorem copied_any (l : Lg) (a : Option Addr) (cap : Nat) (ae : Option Addr) (cape : Nat) (w : World) (hnes : l.es.length ≤ 1000000) (h0 : 0 < l.tk.n) (hn : l.tk.n ≤ 1000000) (hx : Ints w a l.tk.n cap l.tk.pints) (he : Ens w ae l.es.length cape l.es) : Ct Try.prog 86 #[.agg #[.slice a l.tk.n cap, .int .i64 l.tk.leak, .int .i64 l.tk.foot, .int .i64 l.start.lo, .int .i64 l.start.hi, .slice ae l.es.length cape]] w (TwinL l) := by
  have hnn : a = none ∧ l.tk.n = 0 ∨ a ≠ none ∧ 0 < l.tk.n := .inr ⟨by obtain ⟨b, o, rfl, _⟩ := hx.cell 0 h0; simp, h0⟩
  have hF := wide_wide
  refine Ct_start (args := [_]) Try.func86 (by rfl) Try.ntmps86 (by rfl) ?_
  refine W_seq ?_
  refine W_region_lit (fun ds => ?_)
  refine WS_new hF (by rfl) (y_box (by rfl)) (fun b1 => ?_)
  refine WS_new hF (by rfl) (y_alloc Try.zeroValue46 (by rfl)) (fun b2 => ?_)
  refine WS_nil ?_
  refine Then_normal ?_
  refine W_seq ?_
  apply W_drawMT 9 hF Trymixed [] [] [] (by rfl) (by decide +kernel) (by decide) HSub.refl
  intro ds
  refine P_det (by rfl) (Over_nil (y_fieldAddr (by rfl) fa46_0)) ?_
  refine P_det (by rfl) (Over_nil (y_fieldAddr (by rfl) fa24_0)) ?_
  refine P_det (by rfl) (Over_nil (y_load1 (by rfl) Try.isAgg22 (Mem.own1 1 (by rfl) (by rfl)))) ?_
  refine P_new (by rfl) (by rfl) (Over_nil (y_callL (by rfl) (by rfl) Try.call79 (fun w hw => clone_any a l.tk.n cap l.tk.pints w (hx.st w hw) hn hnn))) ?_
  refine P_det (by rfl) (Over_out (by rfl) (Over_nil (y_fieldAddr (by rfl) fa46_2))) ?_
  refine P_det (by rfl) (Over_out (by rfl) (Over_nil (y_load1 (by rfl) Try.isAgg44 (Mem.own1 1 (by rfl) (by rfl))))) ?_
  refine P_new (by rfl) (by rfl) (Over_out (by rfl) (Over_nil (y_callL (by rfl) (by rfl) Try.call126 (fun w hw => cloneE_any l ae cape w hnes (he.st w hw))))) ?_
  refine P_det (by rfl) (Over_out (by rfl) (Over_out (by rfl) (Over_nil (y_fieldAddr (by rfl) fa46_0)))) ?_
  refine P_det (by rfl) (Over_out (by rfl) (Over_out (by rfl) (Over_nil (y_fieldAddr (by rfl) fa24_0)))) ?_
  refine PW_end (by rfl) ?_
  refine OverAll_cons (fun w9 l9 => ?_)
  refine OverAll_cons (fun w6 l6 => ?_)
  refine OverAll_nil ?_
  rintro ⟨⟨-, h9⟩, h6⟩
  obtain ⟨a1, cap1, rfl, hr1, _⟩ := h6
  obtain ⟨a2, cap2, rfl, hle2, hd2⟩ := h9
  refine WS_sub hsub_front ?_
  refine WS_store hF (i := 1) (by rfl) (by rfl) Try.sizeOf22 (by rfl) (by rfl) (by rfl) (by first | decide | exact Nat.le_of_ble_eq_true rfl | simp) ?_
  refine WS_det hF (by rfl) (y_fieldAddr (by rfl) fa46_2) ?_
  refine WS_store hF (i := 1) (by rfl) (by rfl) Try.sizeOf44 (by rfl) (by rfl) (by rfl) (by first | decide | exact Nat.le_of_ble_eq_true rfl | simp) ?_
  refine WS_nil ?_
  refine Then_normal ?_
  refine W_seq ?_
  refine W_region_lit (fun ds => ?_)
  refine WS_det hF (by rfl) (y_loadN (by rfl) Try.isAgg46 Try.sizeOf46 (Mem.own (us := [.slice _ _ _, .int .i64 _, .int .i64 _, .int .i64 _, .int .i64 _, .slice _ _ _]) 1 (by rfl) (by rfl)) (by rfl)) ?_
  refine WS_store hF (i := 0) (by rfl) (by rfl) Try.sizeOf46 (by rfl) (by rfl) (by rfl) (by first | decide | exact Nat.le_of_ble_eq_true rfl | simp) ?_
  refine WS_nil ?_
  refine Then_normal ?_
  refine W_ret ?_
  refine Fin_ret [_] (l6 ++ l9) Try.results86 ⟨lvN (by rfl) Try.isAgg46 Try.sizeOf46 (Mem.own (us := [.slice _ _ _, .int .i64 _, .int .i64 _, .int .i64 _, .int .i64 _, .slice _ _ _]) 0 (by rfl) (by rfl)) (by rfl), trivial⟩ (HSub.sub (by repeat (first | exact List.Sublist.refl _ | exact List.sublist_append_left _ _ | exact List.nil_sublist _ | apply List.Sublist.cons_cons | apply List.Sublist.cons | refine List.Sublist.trans ?_ (List.sublist_append_right _ _)))) ?_
  exact ⟨a1, cap1, a2, cap2, _, _, rfl, Row.newRow hr1 h0, ⟨_, _, rfl, hle2, hd2⟩, rfl⟩
/-- A log with an entry more. -/
def Lg.put (l : Lg) (x : En) : Lg := ⟨l.tk, l.start, l.es ++ [x]⟩
theorem Lg.put_len (l : Lg) (x : En) : (l.put x).es.length = l.es.length + 1 := by unfold Lg.put; simp
theorem Lg.put_row (l : Lg) (x : En) : rowOf En.cells (l.put x).e (l.es.length + 1) = rowOf En.cells l.e l.es.length ++ x.cells := by
  rw [rowOf_succ]
  congr 1
  · refine rowOf_congr _ fun k hk => ?_
    unfold Lg.e Lg.put
    simp only [List.getD_eq_getElem?_getD, List.getElem?_append_left hk]
  · unfold Lg.e Lg.put
    simp
/-- Add's error. -/
def Lg.addE (l : Lg) (x : En) : Int := if l.err = 0 then if l.es.length = 12 then 9 else if (l.put x).err = 0 then 0 else 32 else l.err
def zeroLg : Value := .agg #[.slice none 0 0, .int .i64 0, .int .i64 0, .int .i64 0, .int .i64 0, .slice none 0 0]
def AddV (l : Lg) (x : En) (v : Value) (Hn : List Blk) : Prop :=
  ∃ v0, v = .tuple #[v0, .int .i64 (l.addE x)] ∧ (l.addE x ≠ 0 → v0 = zeroLg ∧ Hn = []) ∧ (l.addE x = 0 → TwinL (l.put x) v0 Hn)
end Go.Proofs.Ythkimgfgpphgnaa.T

/- Changes: logs with an entry more, and without some: the walks of Add and Strike. -/
namespace Go.Proofs.Ythkimgfgpphgnaa.T
open Go.RowKit Go.Proofs Go.Eng
set_option maxRecDepth 100000
set_option linter.unusedVariables false
set_option linter.unusedSimpArgs false

theorem bd46  : ∀ w, (Instr.build 46 #[]).run Try.prog w = .ok (.agg #[.slice none 0 0, .int .i64 0, .int .i64 0, .int .i64 0, .int .i64 0, .slice none 0 0]) w := fun w => by kernel_rfl

theorem add_any (l : Lg) (a : Option Addr) (cap : Nat) (ae : Option Addr) (cape : Nat) (x : En) (w : World) (hn : l.tk.n ≤ 1000000) (hx : Ints w a l.tk.n cap l.tk.pints) (he : Ens w ae l.es.length cape l.es) : Ct Try.prog 26 #[.agg #[.slice a l.tk.n cap, .int .i64 l.tk.leak, .int .i64 l.tk.foot, .int .i64 l.start.lo, .int .i64 l.start.hi, .slice ae l.es.length cape], .agg x.cells.toArray] w (AddV l x) := by
  have hF := wide_wide
  refine Ct_start (args := [_, _]) Try.func26 (by rfl) Try.ntmps26 (by rfl) ?_
  refine W_seq ?_
  refine W_region_lit (fun ds => ?_)
  refine WS_new hF (by rfl) (y_box (by rfl)) (fun b1 => ?_)
  refine WS_new hF (by rfl) (y_box (by rfl)) (fun b2 => ?_)
  refine WS_new hF (by rfl) (y_alloc Try.zeroValue46 (by rfl)) (fun b3 => ?_)
  refine WS_det hF (by rfl) (y_assign (c := .int .i64 _) (by rfl)) ?_
  refine WS_nil ?_
  refine Then_normal ?_
  refine W_seq ?_
  refine W_seq ?_
  refine W_region_lit (fun ds => ?_)
  refine WS_det hF (by rfl) (y_loadN (by rfl) Try.isAgg46 Try.sizeOf46 (Mem.own (us := [.slice _ _ _, .int .i64 _, .int .i64 _, .int .i64 _, .int .i64 _, .slice _ _ _]) 2 (by rfl) (by rfl)) (by rfl)) ?_
  refine WS_det hF (by rfl) (y_callL (by rfl) (by rfl) Try.call45 (fun w hw => valid_any l a cap ae cape w hn (hx.st w hw) (he.st w hw))) ?_
  refine WS_det hF (by rfl) (y_assign (c := .int .i64 _) (by rfl)) ?_
  refine WS_nil ?_
  refine Then_normal ?_
  refine W_seq ?_
  refine W_region_lit (fun ds => ?_)
  refine WS_det hF (by rfl) (y_move (c := .int .i64 _) (by rfl)) ?_
  refine WS_det hF (by rfl) (y_neq (by rfl) (by rfl)) ?_
  refine WS_nil ?_
  refine Then_normal ?_
  refine W_cond (by rfl) (fun c2 => ?_) (fun c2 => ?_)
  ·
    try simp only [Bool.not_eq_true', Bool.not_eq_false', decide_eq_true_eq, decide_eq_false_iff_not, ne_eq, Classical.not_not, Int.not_lt, Int.not_le] at c2
    refine W_seq ?_
    refine W_region_lit (fun ds => ?_)
    refine WS_det hF (by rfl) (y_buildL bd46 (by rfl)) ?_
    refine WS_det hF (by rfl) (y_move (c := .int .i64 _) (by rfl)) ?_
    refine WS_store hF (i := 0) (by rfl) (by rfl) Try.sizeOf46 (by rfl) (by rfl) (by rfl) (by first | decide | exact Nat.le_of_ble_eq_true rfl | simp) ?_
    refine WS_det hF (by rfl) (y_assign (c := .int .i64 _) (by rfl)) ?_
    refine WS_nil ?_
    refine Then_normal ?_
    refine W_ret ?_
    refine Then_ret ?_
    refine Fin_ret [_, .int .i64 _] [] Try.results26 ⟨lvN (by rfl) Try.isAgg46 Try.sizeOf46 (Mem.own (us := [.slice _ _ _, .int .i64 _, .int .i64 _, .int .i64 _, .int .i64 _, .slice _ _ _]) 0 (by rfl) (by rfl)) (by rfl), by rfl, trivial⟩ HSub.nil ?_
    have hE : l.addE x = l.err := if_neg c2
    exact ⟨zeroLg, by rw [hE]; rfl, fun _ => ⟨rfl, rfl⟩, fun h => absurd (hE ▸ h) c2⟩
  ·
    try simp only [Bool.not_eq_true', Bool.not_eq_false', decide_eq_true_eq, decide_eq_false_iff_not, ne_eq, Classical.not_not, Int.not_lt, Int.not_le] at c2
    have hok := l.ok_of c2
    have hn12 := hok.n12
    have hn2 := hok.tk.n2
    refine W_skip ?_
    refine Then_normal ?_
    refine W_seq ?_
    refine W_seq ?_
    refine W_region_lit (fun ds => ?_)
    refine WS_det hF (by rfl) (y_fieldAddr (by rfl) fa46_2) ?_
    refine WS_det hF (by rfl) (y_load1 (by rfl) Try.isAgg44 (Mem.own1 2 (by rfl) (by rfl))) ?_
    refine WS_det hF (by rfl) (y_len (by rfl) Try.runUnderlying44) ?_
    refine WS_det hF (by rfl) (y_eql (by rfl) (by rfl)) ?_
    refine WS_nil ?_
    refine Then_normal ?_
    refine W_cond (by rfl) (fun c4 => ?_) (fun c4 => ?_)
    ·
      try simp only [Bool.not_eq_true', Bool.not_eq_false', decide_eq_true_eq, decide_eq_false_iff_not, ne_eq, Classical.not_not, Int.not_lt, Int.not_le] at c4
      refine W_seq ?_
      refine W_region_lit (fun ds => ?_)
      refine WS_det hF (by rfl) (y_buildL bd46 (by rfl)) ?_
      refine WS_store hF (i := 0) (by rfl) (by rfl) Try.sizeOf46 (by rfl) (by rfl) (by rfl) (by first | decide | exact Nat.le_of_ble_eq_true rfl | simp) ?_
      refine WS_det hF (by rfl) (y_assign (c := .int .i64 _) (by rfl)) ?_
      refine WS_nil ?_
      refine Then_normal ?_
      refine W_ret ?_
      refine Then_ret ?_
      refine Fin_ret [_, .int .i64 _] [] Try.results26 ⟨lvN (by rfl) Try.isAgg46 Try.sizeOf46 (Mem.own (us := [.slice _ _ _, .int .i64 _, .int .i64 _, .int .i64 _, .int .i64 _, .slice _ _ _]) 0 (by rfl) (by rfl)) (by rfl), by rfl, trivial⟩ HSub.nil ?_
      have hE : l.addE x = 9 := by unfold Lg.addE; rw [if_pos c2, if_pos (by omega)]
      exact ⟨zeroLg, by rw [hE]; rfl, fun _ => ⟨rfl, rfl⟩, fun h => absurd (hE ▸ h) (by decide)⟩
    ·
      try simp only [Bool.not_eq_true', Bool.not_eq_false', decide_eq_true_eq, decide_eq_false_iff_not, ne_eq, Classical.not_not, Int.not_lt, Int.not_le] at c4
      refine W_skip ?_
      refine Then_normal ?_
      refine W_seq ?_
      refine W_region_lit (fun ds => ?_)
      refine WS_det hF (by rfl) (y_loadN (by rfl) Try.isAgg46 Try.sizeOf46 (Mem.own (us := [.slice _ _ _, .int .i64 _, .int .i64 _, .int .i64 _, .int .i64 _, .slice _ _ _]) 2 (by rfl) (by rfl)) (by rfl)) ?_
      refine WS_gen hF (by rfl) (y_callL (by rfl) (by rfl) Try.call86 (fun w hw => copied_any l a cap ae cape w (by omega) (by omega) hn (hx.st w hw) (he.st w hw))) ?_
      rintro _ _ ⟨a1, cap1, a2, cap2, H1, H2, rfl, hr1, hr2, rfl⟩
      refine WS_back ?_
      refine WS_store hF (i := 2) (by rfl) (by rfl) Try.sizeOf46 (by rfl) (by rfl) (by rfl) (by first | decide | exact Nat.le_of_ble_eq_true rfl | simp) ?_
      refine WS_nil ?_
      refine Then_normal ?_
      refine W_seq ?_
      refine W_region_lit (fun ds => ?_)
      refine WS_det hF (by rfl) (y_fieldAddr (by rfl) fa46_2) ?_
      refine WS_det hF (by rfl) (y_load1 (by rfl) Try.isAgg44 (Mem.own1 2 (by rfl) (by rfl))) ?_
      refine WS_det hF (by rfl) (y_loadN (by rfl) Try.isAgg48 Try.sizeOf48 (Mem.own (us := [.int .i64 _, .int .i64 _, .int .i64 _, .int .i64 _]) 1 (by rfl) (by rfl)) (by rfl)) ?_
      refine WS_newS hF (by rfl) (y_buildSliceL bs44_1_0 (by rfl)) (fun b4 => ?_)
      refine WS_appendN hF (H1 := (_ :: _ :: _ :: _ :: H1)) (Hn := H2) (by rfl) (by rfl) (by rfl) Try.underlying44 infEntry (by rfl) (by rfl) hr2 (rowOf_len en_len _ _) (.inr ⟨_, _, rfl, Mem.own (us := [.int _ _, .int _ _, .int _ _, .int _ _]) 0 (by rfl) (by rfl)⟩) (by rfl) (by rfl) (by omega) (by omega) (by omega) ?_
      intro a3 cap3 H3 hr3
      have hr4 : NewRow 48 4 (l.put x).es.length (rowOf En.cells (l.put x).e (l.put x).es.length) (.slice a3 (l.put x).es.length cap3) H3 := by
        rw [l.put_len, l.put_row]; exact hr3
      rw [show l.es.length + 1 = (l.put x).es.length from (l.put_len x).symm]
      refine WS_det hF (by rfl) (y_fieldAddr (by rfl) fa46_2) ?_
      refine WS_store hF (i := 3) (by rfl) (by rfl) Try.sizeOf44 (by rfl) (by rfl) (by rfl) (by first | decide | exact Nat.le_of_ble_eq_true rfl | simp) ?_
      refine WS_nil ?_
      refine Then_normal ?_
      refine W_seq ?_
      refine W_seq ?_
      refine W_region_lit (fun ds => ?_)
      refine WS_det hF (by rfl) (y_loadN (by rfl) Try.isAgg46 Try.sizeOf46 (Mem.own (us := [.slice _ _ _, .int .i64 _, .int .i64 _, .int .i64 _, .int .i64 _, .slice _ _ _]) 3 (by rfl) (by rfl)) (by rfl)) ?_
      refine WS_det hF (by rfl) (y_callL (by rfl) (by rfl) Try.call45 (fun w hw => valid_any (l.put x) a1 cap1 a3 cap3 w hn (NewRow.ints hr1 hx.len (by repeat (first | exact List.Sublist.refl _ | exact List.sublist_append_left _ _ | exact List.nil_sublist _ | apply List.Sublist.cons_cons | apply List.Sublist.cons | refine List.Sublist.trans ?_ (List.sublist_append_right _ _))) w hw) (NewRow.rws en_len hr4 rfl (by repeat (first | exact List.Sublist.refl _ | exact List.sublist_append_left _ _ | exact List.nil_sublist _ | apply List.Sublist.cons_cons | apply List.Sublist.cons | refine List.Sublist.trans ?_ (List.sublist_append_right _ _))) w hw))) ?_
      refine WS_det hF (by rfl) (y_neq (by rfl) (by rfl)) ?_
      refine WS_nil ?_
      refine Then_normal ?_
      refine W_cond (by rfl) (fun c8 => ?_) (fun c8 => ?_)
      ·
        try simp only [Bool.not_eq_true', Bool.not_eq_false', decide_eq_true_eq, decide_eq_false_iff_not, ne_eq, Classical.not_not, Int.not_lt, Int.not_le] at c8
        refine W_seq ?_
        refine W_region_lit (fun ds => ?_)
        refine WS_det hF (by rfl) (y_buildL bd46 (by rfl)) ?_
        refine WS_store hF (i := 1) (by rfl) (by rfl) Try.sizeOf46 (by rfl) (by rfl) (by rfl) (by first | decide | exact Nat.le_of_ble_eq_true rfl | simp) ?_
        refine WS_det hF (by rfl) (y_assign (c := .int .i64 _) (by rfl)) ?_
        refine WS_nil ?_
        refine Then_normal ?_
        refine W_ret ?_
        refine Then_ret ?_
        refine Fin_ret [_, .int .i64 _] [] Try.results26 ⟨lvN (by rfl) Try.isAgg46 Try.sizeOf46 (Mem.own (us := [.slice _ _ _, .int .i64 _, .int .i64 _, .int .i64 _, .int .i64 _, .slice _ _ _]) 1 (by rfl) (by rfl)) (by rfl), by rfl, trivial⟩ HSub.nil ?_
        have hE : l.addE x = 32 := by unfold Lg.addE; rw [if_pos c2, if_neg (by omega), if_neg c8]
        exact ⟨zeroLg, by rw [hE]; rfl, fun _ => ⟨rfl, rfl⟩, fun h => absurd (hE ▸ h) (by decide)⟩
      ·
        try simp only [Bool.not_eq_true', Bool.not_eq_false', decide_eq_true_eq, decide_eq_false_iff_not, ne_eq, Classical.not_not, Int.not_lt, Int.not_le] at c8
        refine W_skip ?_
        refine Then_normal ?_
        refine W_seq ?_
        refine W_region_lit (fun ds => ?_)
        refine WS_det hF (by rfl) (y_loadN (by rfl) Try.isAgg46 Try.sizeOf46 (Mem.own (us := [.slice _ _ _, .int .i64 _, .int .i64 _, .int .i64 _, .int .i64 _, .slice _ _ _]) 3 (by rfl) (by rfl)) (by rfl)) ?_
        refine WS_store hF (i := 1) (by rfl) (by rfl) Try.sizeOf46 (by rfl) (by rfl) (by rfl) (by first | decide | exact Nat.le_of_ble_eq_true rfl | simp) ?_
        refine WS_det hF (by rfl) (y_assign (c := .int .i64 _) (by rfl)) ?_
        refine WS_nil ?_
        refine Then_normal ?_
        refine W_ret ?_
        refine Fin_ret [_, .int .i64 _] (H1 ++ H3) Try.results26 ⟨lvN (by rfl) Try.isAgg46 Try.sizeOf46 (Mem.own (us := [.slice _ _ _, .int .i64 _, .int .i64 _, .int .i64 _, .int .i64 _, .slice _ _ _]) 1 (by rfl) (by rfl)) (by rfl), by rfl, trivial⟩ (HSub.sub (by repeat (first | exact List.Sublist.refl _ | exact List.sublist_append_left _ _ | exact List.nil_sublist _ | apply List.Sublist.cons_cons | apply List.Sublist.cons | refine List.Sublist.trans ?_ (List.sublist_append_right _ _)))) ?_
        have hE : l.addE x = 0 := by unfold Lg.addE; rw [if_pos c2, if_neg (by omega), if_pos c8]
        exact ⟨_, by rw [hE]; rfl, fun h => absurd hE h, fun _ => ⟨a1, cap1, a3, cap3, H1, H3, rfl, hr1, hr4, rfl⟩⟩
def prevD (D : List Int) : Nat → Int
  | 0 => 0
  | j + 1 => D.getD j 0
def okT (n : Int) (D : List Int) (j : Nat) : Bool := inB (prevD D j + 1) n [D.getD j 0]
theorem prev_bd {n : Int} {D : List Int} (hn : 0 ≤ n) : ∀ k, (∀ j, j < k → okT n D j = true) → 0 ≤ prevD D k ∧ prevD D k ≤ n
  | 0, _ => ⟨Int.le_refl _, hn⟩
  | k + 1, h => by
    have h1 := prev_bd hn k fun j hj => h j (by omega)
    have h2 := inB1.1 (h k (by omega))
    show 0 ≤ D.getD k 0 ∧ D.getD k 0 ≤ n
    omega
def Lg.strE (l : Lg) (D : List Int) : Int := if l.err = 0 then if (List.range D.length).all (okT l.es.length D) = true then 0 else 32 else l.err
theorem Lg.strE_ok {l : Lg} {D : List Int} (h : l.err = 0) (hk : ∀ j, j < D.length → okT l.es.length D j = true) : l.strE D = 0 := by
  unfold Lg.strE
  rw [if_pos h, if_pos (List.all_eq_true.2 fun j hj => hk j (List.mem_range.1 hj))]
theorem Lg.strE_no {l : Lg} {D : List Int} {k : Nat} (h : l.err = 0) (hk : k < D.length) (hb : okT l.es.length D k = false) : l.strE D = 32 := by
  unfold Lg.strE
  rw [if_pos h, if_neg fun hall => ?_]
  rw [List.all_eq_true.1 hall k (List.mem_range.2 hk)] at hb
  cases hb
def StrikeV (l : Lg) (D : List Int) (v : Value) (Hn : List Blk) : Prop :=
  ∃ v0, v = .tuple #[v0, .int .i64 (l.strE D)] ∧ (l.strE D ≠ 0 → v0 = zeroLg ∧ Hn = []) ∧ (l.strE D = 0 → TwinL (l.wo D) v0 Hn)
theorem strike_any (l : Lg) (a : Option Addr) (cap : Nat) (ae : Option Addr) (cape : Nat) (ta : Option Addr) (tn tcap : Nat) (D : List Int) (w : World) (htn : tn ≤ 1000000) (hD : Ints w ta tn tcap D) (hn : l.tk.n ≤ 1000000) (hx : Ints w a l.tk.n cap l.tk.pints) (he : Ens w ae l.es.length cape l.es) : Ct Try.prog 28 #[.agg #[.slice a l.tk.n cap, .int .i64 l.tk.leak, .int .i64 l.tk.foot, .int .i64 l.start.lo, .int .i64 l.start.hi, .slice ae l.es.length cape], .slice ta tn tcap] w (StrikeV l D) := by
  have hDl := hD.len
  have hF := wide_wide
  refine Ct_start (args := [_, _]) Try.func28 (by rfl) Try.ntmps28 (by rfl) ?_
  refine W_seq ?_
  refine W_region_lit (fun ds => ?_)
  refine WS_new hF (by rfl) (y_box (by rfl)) (fun b1 => ?_)
  refine WS_new hF (by rfl) (y_alloc Try.zeroValue46 (by rfl)) (fun b2 => ?_)
  refine WS_det hF (by rfl) (y_assign (c := .int .i64 _) (by rfl)) ?_
  refine WS_nil ?_
  refine Then_normal ?_
  refine W_seq ?_
  refine W_region_lit (fun ds => ?_)
  refine WS_det hF (by rfl) (y_loadN (by rfl) Try.isAgg46 Try.sizeOf46 (Mem.own (us := [.slice _ _ _, .int .i64 _, .int .i64 _, .int .i64 _, .int .i64 _, .slice _ _ _]) 1 (by rfl) (by rfl)) (by rfl)) ?_
  refine WS_gen hF (by rfl) (y_callL (by rfl) (by rfl) Try.call77 (fun w hw => opened_any l a cap ae cape w hn (hx.st w hw) (he.st w hw))) ?_
  rintro _ Hg ⟨p, rfl, hg1, hg2⟩
  refine WS_det hF (by rfl) (y_move (c := .tuple _) (by rfl)) ?_
  refine WS_det hF (by rfl) (y_extract (c := .pointer _) (by rfl) (by rfl)) ?_
  refine WS_det hF (by rfl) (y_extract (c := .int .i64 _) (by rfl) (by rfl)) ?_
  refine WS_det hF (by rfl) (y_assign (c := .pointer _) (by rfl)) ?_
  refine WS_det hF (by rfl) (y_assign (c := .int .i64 _) (by rfl)) ?_
  refine WS_nil ?_
  refine Then_normal ?_
  refine W_seq ?_
  refine W_seq ?_
  refine W_region_lit (fun ds => ?_)
  refine WS_det hF (by rfl) (y_move (c := .int .i64 _) (by rfl)) ?_
  refine WS_det hF (by rfl) (y_neq (by rfl) (by rfl)) ?_
  refine WS_nil ?_
  refine Then_normal ?_
  refine W_cond (by rfl) (fun c2 => ?_) (fun c2 => ?_)
  ·
    try simp only [Bool.not_eq_true', Bool.not_eq_false', decide_eq_true_eq, decide_eq_false_iff_not, ne_eq, Classical.not_not, Int.not_lt, Int.not_le] at c2
    obtain rfl := hg2 c2
    refine W_seq ?_
    refine W_region_lit (fun ds => ?_)
    refine WS_det hF (by rfl) (y_buildL bd46 (by rfl)) ?_
    refine WS_det hF (by rfl) (y_move (c := .int .i64 _) (by rfl)) ?_
    refine WS_store hF (i := 0) (by rfl) (by rfl) Try.sizeOf46 (by rfl) (by rfl) (by rfl) (by first | decide | exact Nat.le_of_ble_eq_true rfl | simp) ?_
    refine WS_det hF (by rfl) (y_assign (c := .int .i64 _) (by rfl)) ?_
    refine WS_nil ?_
    refine Then_normal ?_
    refine W_ret ?_
    refine Then_ret ?_
    refine Fin_ret [_, .int .i64 _] [] Try.results28 ⟨lvN (by rfl) Try.isAgg46 Try.sizeOf46 (Mem.own (us := [.slice _ _ _, .int .i64 _, .int .i64 _, .int .i64 _, .int .i64 _, .slice _ _ _]) 0 (by rfl) (by rfl)) (by rfl), by rfl, trivial⟩ HSub.nil ?_
    have hE : l.strE D = l.err := if_neg c2
    exact ⟨zeroLg, by rw [hE]; rfl, fun _ => ⟨rfl, rfl⟩, fun h => absurd (hE ▸ h) c2⟩
  ·
    try simp only [Bool.not_eq_true', Bool.not_eq_false', decide_eq_true_eq, decide_eq_false_iff_not, ne_eq, Classical.not_not, Int.not_lt, Int.not_le] at c2
    obtain ⟨g, bk, rfl, rfl⟩ := hg1 c2
    have hok := l.ok_of c2
    have hn12 := hok.n12
    have hn2 := hok.tk.n2
    refine W_skip ?_
    refine Then_normal ?_
    refine W_seq ?_
    refine W_region_lit (fun ds => ?_)
    refine WS_det hF (by rfl) (y_assign (c := .int .i64 _) (by rfl)) ?_
    refine WS_nil ?_
    refine Then_normal ?_
    refine W_seq ?_
    refine W_seq ?_
    refine W_region_lit (fun ds => ?_)
    refine WS_det hF (by rfl) (y_move (c := .slice _ _ _) (by rfl)) ?_
    refine WS_det hF (by rfl) (y_len (by rfl) Try.runUnderlying22) ?_
    refine WS_det hF (by rfl) (y_move (c := .int .i64 _) (by rfl)) ?_
    refine WS_nil ?_
    refine Then_normal ?_
    refine W_block ?_
    refine W_loop (γ := Nat) (fun k => k ≤ tn ∧ ∀ j, j < k → okT l.es.length D j = true) (fun k => [(1, .slice ta tn tcap), (2, .pointer (some ⟨b1, 0, none⟩)), (4, .pointer (some ⟨b2, 0, none⟩)), (6, .pointer (some ⟨bk, 0, none⟩)), (8, .int .i64 (prevD D k)), (20, .slice ta tn tcap), (21, .int .i64 (tn : Int)), (22, .int .i64 (k : Int))]) (fun _ => _) (fun k => tn - k) (0) ⟨Nat.zero_le _, fun j hj => absurd hj (by omega)⟩ (by repeat (first | exact trivial | refine ⟨by rfl, ?_⟩)) (List.Sublist.refl _) ?_
    rintro k e ⟨hk, hp⟩
    refine W_seq ?_
    refine W_region_lit (fun ds => ?_)
    refine WS_det hF (by rfl) (y_lss (by rfl) (by rfl)) ?_
    refine WS_nil ?_
    refine Then_normal ?_
    refine W_seq ?_
    refine W_cond (by rfl) (fun c6 => ?_) (fun c6 => ?_)
    ·
      try simp only [Bool.not_eq_true', Bool.not_eq_false', decide_eq_true_eq, decide_eq_false_iff_not, ne_eq, Classical.not_not, Int.not_lt, Int.not_le] at c6
      obtain ⟨tb, to, rfl, htc⟩ := hD.cell k (by omega)
      have hpb := prev_bd (n := l.es.length) (D := D) (by omega) k hp
      refine W_skip ?_
      refine Then_normal ?_
      refine W_seq ?_
      refine W_block ?_
      refine W_seq ?_
      refine W_region_lit (fun ds => ?_)
      refine WS_det hF (by rfl) (y_index (k := k) (by rfl) (by rfl) (by first | rfl | omega) (by first | decide | omega) Try.runUnderlying22 Try.sizeOf3) ?_
      refine WS_det hF (by rfl) (y_load1 (by rfl) Try.isAgg3 (by first | exact Mem.old1 (by assumption) | exact Mem.oldAt1 (by assumption) (by rfl) | exact Mem.old (by assumption) | exact Mem.oldAtL1 (by assumption) (by rfl) (by rfl))) ?_
      refine WS_det hF (by rfl) (y_assign (c := .int .i64 _) (by rfl)) ?_
      refine WS_nil ?_
      refine Then_normal ?_
      refine W_seq ?_
      refine W_seq ?_
      refine W_region_lit (fun ds => ?_)
      refine WS_det hF (by rfl) (y_move (c := .int .i64 _) (by rfl)) ?_
      refine WS_det hF (by rfl) (y_add (by rfl) (by rfl) (by unfold I64; omega)) ?_
      refine WS_det hF (by rfl) (y_fieldAddr (by rfl) fa46_2) ?_
      refine WS_det hF (by rfl) (y_load1 (by rfl) Try.isAgg44 (Mem.own1 3 (by rfl) (by rfl))) ?_
      refine WS_det hF (by rfl) (y_len (by rfl) Try.runUnderlying44) ?_
      refine WS_det hF (by rfl) (y_move (c := .int .i64 _) (by rfl)) ?_
      refine WS_newS hF (by rfl) (y_buildSliceL bs22_1_0 (by rfl)) (fun b3 => ?_)
      refine WS_det hF (by rfl) (y_callL (by rfl) (by rfl) Try.call65 (fun w hw => in_any _ _ _ _ _ _ w (by decide) (by first | exact Ints.one 0 rfl w hw | exact Ints.two 0 rfl w hw))) ?_
      refine WS_det hF (by rfl) (y_not (by rfl)) ?_
      refine WS_nil ?_
      refine Then_normal ?_
      refine W_cond (by rfl) (fun c8 => ?_) (fun c8 => ?_)
      ·
        try simp only [Bool.not_eq_true', Bool.not_eq_false', decide_eq_true_eq, decide_eq_false_iff_not, ne_eq, Classical.not_not, Int.not_lt, Int.not_le] at c8
        refine W_seq ?_
        refine W_region_lit (fun ds => ?_)
        refine WS_det hF (by rfl) (y_buildL bd46 (by rfl)) ?_
        refine WS_store hF (i := 3) (by rfl) (by rfl) Try.sizeOf46 (by rfl) (by rfl) (by rfl) (by first | decide | exact Nat.le_of_ble_eq_true rfl | simp) ?_
        refine WS_det hF (by rfl) (y_assign (c := .int .i64 _) (by rfl)) ?_
        refine WS_nil ?_
        refine Then_normal ?_
        refine W_ret ?_
        refine Then_ret ?_
        refine InB_ret ?_
        refine Then_ret ?_
        refine Loop_ret ?_
        refine InB_ret ?_
        refine Then_ret ?_
        refine Fin_ret [_, .int .i64 _] [] Try.results28 ⟨lvN (by rfl) Try.isAgg46 Try.sizeOf46 (Mem.own (us := [.slice _ _ _, .int .i64 _, .int .i64 _, .int .i64 _, .int .i64 _, .slice _ _ _]) 3 (by rfl) (by rfl)) (by rfl), by rfl, trivial⟩ HSub.nil ?_
        have hE : l.strE D = 32 := Lg.strE_no c2 (k := k) (by omega) c8
        exact ⟨zeroLg, by rw [hE]; rfl, fun _ => ⟨rfl, rfl⟩, fun h => absurd (hE ▸ h) (by decide)⟩
      ·
        try simp only [Bool.not_eq_true', Bool.not_eq_false', decide_eq_true_eq, decide_eq_false_iff_not, ne_eq, Classical.not_not, Int.not_lt, Int.not_le] at c8
        have hp2 : ∀ j, j < k + 1 → okT l.es.length D j = true := fun j hj => by
          obtain hj | rfl : j < k ∨ j = k := by omega
          · exact hp j hj
          · exact c8
        refine W_skip ?_
        refine Then_normal ?_
        refine W_region_lit (fun ds => ?_)
        refine WS_det hF (by rfl) (y_move (c := .int .i64 _) (by rfl)) ?_
        refine WS_det hF (by rfl) (y_assign (c := .int .i64 _) (by rfl)) ?_
        refine WS_nil ?_
        refine InB_normal ?_
        refine Then_normal ?_
        refine W_region_lit (fun ds => ?_)
        refine WS_det hF (by rfl) (y_add (by rfl) (by rfl) (by unfold I64; omega)) ?_
        refine WS_det hF (by rfl) (y_move (c := .int .i64 _) (by rfl)) ?_
        refine WS_nil ?_
        exact Loop_next (k + 1) ⟨by omega, hp2⟩ (by repeat (first | exact trivial | refine ⟨by rfl, ?_⟩)) (by repeat (first | exact List.Sublist.refl _ | exact List.nil_sublist _ | apply List.Sublist.cons_cons | apply List.Sublist.cons)) (by omega)
    ·
      try simp only [Bool.not_eq_true', Bool.not_eq_false', decide_eq_true_eq, decide_eq_false_iff_not, ne_eq, Classical.not_not, Int.not_lt, Int.not_le] at c6
      refine W_exit ?_
      refine Then_exit ?_
      refine Loop_exit ?_
      refine InB_same ?_
      refine Then_normal ?_
      refine W_seq ?_
      refine W_region_lit (fun ds => ?_)
      refine WS_det hF (by rfl) (y_move (c := .pointer _) (by rfl)) ?_
      refine WS_det hF (by rfl) (y_move (c := .slice _ _ _) (by rfl)) ?_
      refine WS_gen hF (by rfl) (y_callL (by rfl) (by rfl) Try.call81 (fun w hw => without_any bk g l a cap ae cape ta tn tcap D w hok (At.block0 (by repeat (first | exact List.mem_cons_self | apply List.mem_cons_of_mem | apply List.mem_append_right)) w hw) (he.st w hw) (hD.st w hw) htn)) ?_
      rintro _ _ ⟨cb, ae2, cape2, H2, rfl, rfl, hrow2⟩
      refine WS_back ?_
      have hwn : (l.wo D).es.length ≤ 12 := (hok.wo D).n12
      refine WS_det hF (by rfl) (by first | exact y_nilCheck (by rfl) | exact y_nilCheckF (by rfl)) ?_
      refine WS_det hF (by rfl) (y_fieldAddr (by rfl) fa119_1) ?_
      refine WS_det hF (by rfl) (y_loadN (by rfl) Try.isAgg46 Try.sizeOf46 (Mem.own (us := [.slice _ _ _, .int .i64 _, .int .i64 _, .int .i64 _, .int .i64 _, .slice _ _ _]) 4 (by rfl) (by rfl)) (by rfl)) ?_
      refine WS_gen hF (by rfl) (y_callL (by rfl) (by rfl) Try.call86 (fun w hw => copied_any (l.wo D) a cap ae2 cape2 w (by omega) (show 0 < l.tk.n by omega) hn (hx.st w hw) (Row.rws en_len hrow2 rfl (by repeat (first | exact List.Sublist.refl _ | exact List.sublist_append_left _ _ | exact List.nil_sublist _ | apply List.Sublist.cons_cons | apply List.Sublist.cons | refine List.Sublist.trans ?_ (List.sublist_append_right _ _))) w hw))) ?_
      rintro _ Ht hT
      have hT2 := hT
      obtain ⟨a1, cap1, a2, cap2, H3, H4, rfl, hr1, hr2, rfl⟩ := hT
      refine WS_back ?_
      refine WS_store hF (i := 2) (by rfl) (by rfl) Try.sizeOf46 (by rfl) (by rfl) (by rfl) (by first | decide | exact Nat.le_of_ble_eq_true rfl | simp) ?_
      refine WS_det hF (by rfl) (y_assign (c := .int .i64 _) (by rfl)) ?_
      refine WS_nil ?_
      refine Then_normal ?_
      refine W_ret ?_
      refine Fin_ret [_, .int .i64 _] (H3 ++ H4) Try.results28 ⟨lvN (by rfl) Try.isAgg46 Try.sizeOf46 (Mem.own (us := [.slice _ _ _, .int .i64 _, .int .i64 _, .int .i64 _, .int .i64 _, .slice _ _ _]) 2 (by rfl) (by rfl)) (by rfl), by rfl, trivial⟩ (HSub.sub (by repeat (first | exact List.Sublist.refl _ | exact List.sublist_append_left _ _ | exact List.nil_sublist _ | apply List.Sublist.cons_cons | apply List.Sublist.cons | refine List.Sublist.trans ?_ (List.sublist_append_right _ _)))) ?_
      have hE : l.strE D = 0 := Lg.strE_ok c2 fun j hj => hp j (by omega)
      exact ⟨_, by rw [hE]; rfl, fun h => absurd hE h, fun _ => hT2⟩
end Go.Proofs.Ythkimgfgpphgnaa.T

/- The reference's changes: the walks of Add, without, Strike and Before. -/
namespace Go.Proofs.Ythkimgfgpphgnaa.T
open Go.RowKit Go.Proofs Go.Eng
set_option maxRecDepth 100000
set_option linter.unusedVariables false
set_option linter.unusedSimpArgs false



end Go.Proofs.Ythkimgfgpphgnaa.T

/- The reference's changes: the walks of Strike and Before. -/
namespace Go.Proofs.Ythkimgfgpphgnaa.T
open Go.RowKit Go.Proofs Go.Eng
set_option maxRecDepth 100000
set_option linter.unusedVariables false
set_option linter.unusedSimpArgs false



def lexB : List Int → List Int → Bool
  | x :: xs, y :: ys => if x = y then lexB xs ys else decide (x < y)
  | _, _ => false
/-- Shorter ones first, then the first number that differs. -/
def befB (xs ys : List Int) : Bool := if xs.length = ys.length then lexB xs ys else decide (xs.length < ys.length)
end Go.Proofs.Ythkimgfgpphgnaa.T

/- The reference's dips that must be false: the walk of Wrong. -/
namespace Go.Eng
section
variable {C : Ctx} {e : Env} {H : List Blk} {d : Option Tmp} {ty : TypeId} {pos : String} {af : Array Edge} {g : Option (Nat × Bool)} {x y : Operand} {t t' : TypeId} {m i : Nat}
end
end Go.Eng
namespace Go.Proofs.Ythkimgfgpphgnaa.T
open Go.RowKit Go.Proofs Go.Eng
set_option maxRecDepth 100000
set_option linter.unusedVariables false
set_option linter.unusedSimpArgs false



def setL (s n : Nat) : List Int := ((List.range n).filter fun i => s.testBit i).map fun i : Nat => (i : Int) + 1
theorem setL_succ (s n : Nat) : setL s (n + 1) = if s.testBit n then setL s n ++ [(n : Int) + 1] else setL s n := by
  unfold setL
  rw [List.range_succ, List.filter_append]
  cases h : s.testBit n <;> simp [h]
def Lg.dipsB (l : Lg) (s n : Nat) : Bool := (List.range n).all fun i => !s.testBit i || decide ((l.e i).kind = 3)
def betB (T : List Int) : Option (List Int) → Bool
  | none => true
  | some R => befB T R
def Lg.bestW (l : Lg) : Nat → Option (List Int)
  | 0 => none
  | s + 1 => if l.dipsB s l.es.length && betB (setL s l.es.length) (l.bestW s) && (l.wo (setL s l.es.length)).holdsB then some (setL s l.es.length) else l.bestW s
def RWrongV (l : Lg) (v : Value) (Hn : List Blk) : Prop :=
  (l.err ≠ 0 → v = .tuple #[.slice none 0 0, .int .i64 l.err] ∧ Hn = []) ∧
  (l.err = 0 → (∀ R, l.bestW (2 ^ l.es.length) = some R → ∃ fa fn fcap, v = .tuple #[.slice fa fn fcap, .int .i64 0] ∧ Row 3 1 fa fn fcap (iv R) Hn ∧ R.length = fn) ∧ (l.bestW (2 ^ l.es.length) = none → v = .tuple #[.slice none 0 0, .int .i64 6] ∧ Hn = []))
end Go.Proofs.Ythkimgfgpphgnaa.T

/- The first of the fewest dips that must be false: both ways of looking for it find the same; plain facts. -/
namespace Go.Proofs.Ythkimgfgpphgnaa.T
open Go.RowKit Go.Proofs Go.Eng
set_option maxRecDepth 100000
set_option linter.unusedVariables false
set_option linter.unusedSimpArgs false

def Lg.Fits (l : Lg) (lo : Int) (E : List Int) : Prop := E.Pairwise (· < ·) ∧ ∀ x ∈ E, lo < x ∧ x ≤ (l.es.length : Int) ∧ (l.e (x - 1).toNat).kind = 3
def Lg.Val (l : Lg) (T : List Int) : Prop := l.Fits 0 T ∧ (l.wo T).holdsB = true
theorem Lg.Fits.tail {l : Lg} {lo x : Int} {E : List Int} (h : l.Fits lo (x :: E)) : l.Fits x E :=
  ⟨(List.pairwise_cons.1 h.1).2, fun y hy => ⟨(List.pairwise_cons.1 h.1).1 y hy, (h.2 y (List.mem_cons_of_mem _ hy)).2⟩⟩
/-! ### Sets as numbers -/
theorem setL_of (n : Nat) : ∀ T : List Int, T.Pairwise (· < ·) → (∀ x ∈ T, 0 < x ∧ x ≤ (n : Int)) → ∃ s, s < 2 ^ n ∧ setL s n = T := by
  induction n with
  | zero =>
    intro T _ h
    refine ⟨0, by decide, ?_⟩
    cases T with
    | nil => rfl
    | cons x T => have := h x List.mem_cons_self; omega
  | succ n ih =>
    intro T hp h
    have small : (∀ x ∈ T, x ≤ (n : Int)) → ∃ s, s < 2 ^ (n + 1) ∧ setL s (n + 1) = T := fun hs => by
      obtain ⟨s, h1, h2⟩ := ih T hp fun x hx => ⟨(h x hx).1, hs x hx⟩
      refine ⟨s, by rw [Nat.pow_succ]; omega, ?_⟩
      rw [setL_succ, Nat.testBit_lt_two_pow h1]
      exact h2
    rcases List.eq_nil_or_concat T with rfl | ⟨L, x, rfl⟩
    · exact small fun x hx => by cases hx
    · rw [List.concat_eq_append] at hp h small ⊢
      have hlt : ∀ y ∈ L, y < x := fun y hy => (List.pairwise_append.1 hp).2.2 y hy x List.mem_cons_self
      have hx := h x (List.mem_append_right _ List.mem_cons_self)
      by_cases hxn : x = (n : Int) + 1
      · obtain ⟨s, h1, h2⟩ := ih L (List.pairwise_append.1 hp).1 fun y hy => ⟨(h y (List.mem_append_left _ hy)).1, by have := hlt y hy; omega⟩
        refine ⟨2 ^ n + s, by rw [Nat.pow_succ]; omega, ?_⟩
        rw [setL_succ, Nat.testBit_two_pow_add_eq, Nat.testBit_lt_two_pow h1]
        have : setL (2 ^ n + s) n = setL s n := by
          unfold setL
          congr 1
          exact List.filter_congr fun i hi => Nat.testBit_two_pow_add_gt (List.mem_range.1 hi) s
        rw [this, h2, hxn]; rfl
      · refine small fun y hy => ?_
        rcases List.mem_append.1 hy with hy | hy
        · have := hlt y hy; omega
        · rw [List.mem_singleton.1 hy]; omega
theorem Lg.Val.set {l : Lg} {T : List Int} (h : l.Val T) : ∃ s, s < 2 ^ l.es.length ∧ setL s l.es.length = T :=
  setL_of _ T h.1.1 fun x hx => ⟨(h.1.2 x hx).1, (h.1.2 x hx).2.1⟩
/-! ### The order of lists -/
end Go.Proofs.Ythkimgfgpphgnaa.T

/- Blocks whose contents nobody asks for any more: stores into them, one by one. No project text. -/
namespace Go.Eng
open Go.RowKit

theorem W_sub {C : Ctx} {F : Fence} {n : Nat} {ds : List Deferred} {c : Code} {Q : Exit → Env → List Blk → Prop} {e : Env} {H H' : List Blk} (hs : HSub H H') (h : W C F n ds c Q e H') : W C F n ds c Q e H :=
  fun dd w hw a ha => h dd w ⟨hw.1, hs _ _ hw.2, hw.3⟩ a ha
theorem W_perm {C : Ctx} {F : Fence} {n : Nat} {ds : List Deferred} {c : Code} {Q : Exit → Env → List Blk → Prop} {e : Env} {H H' : List Blk} (hs : H.Perm H') (h : W C F n ds c Q e H') : W C F n ds c Q e H :=
  W_sub (fun _ _ h => h.perm hs.symm) h
section
variable {S1 S2 M M' L : List Blk} {x y : Blk}
theorem Pul.base : (S1 ++ x :: S2).Perm (x :: (S1 ++ S2)) := List.perm_middle
theorem Pul.base0 : (x :: S2).Perm (x :: S2) := List.Perm.refl _
theorem Pul.cons (h : M.Perm (x :: M')) : (y :: M).Perm (x :: y :: M') := (h.cons y).trans (List.Perm.swap ..)
theorem Pul.app (h : M.Perm (x :: M')) : (L ++ M).Perm (x :: (L ++ M')) := (h.append_left L).trans List.perm_middle
theorem Pul.end (h : M.Perm (x :: M')) : M.Perm (x :: M') := h
end

/-- Two blocks of one shape: the place, the length and the kind. -/
def Sh1 (x y : Blk) : Prop := x.1 = y.1 ∧ ∃ vs us T, x.2 = CB vs T ∧ y.2 = CB us T ∧ us.length = vs.length
inductive Shp : List Blk → List Blk → Prop
  | nil : Shp [] []
  | cons {x y : Blk} {l m : List Blk} : Sh1 x y → Shp l m → Shp (x :: l) (y :: m)
theorem Sh1.refl {b : Nat} {vs : List Value} {T : TypeId} : Sh1 (b, CB vs T) (b, CB vs T) := ⟨rfl, vs, vs, T, rfl, rfl, rfl⟩
theorem Shp.app {a b c d : List Blk} (h : Shp a b) (h' : Shp c d) : Shp (a ++ c) (b ++ d) := by
  induction h with
  | nil => exact h'
  | cons h1 _ ih => exact .cons h1 ih
theorem CB_inj {vs us : List Value} {T T' : TypeId} (h : CB vs T = CB us T') : vs = us ∧ T = T' := by
  unfold CB at h
  simp only [Obj.cells.injEq] at h
  exact ⟨by simpa using h.1, by simpa using h.2⟩
/-- A block of such a list stands somewhere in it, and a store leaves the shape. -/
theorem Shp.get {S0 S : List Blk} {b : Nat} {vs : List Value} {T : TypeId} (h : Shp S0 S) (hm : (b, CB vs T) ∈ S0) :
    ∃ S1 us S2, S = S1 ++ (b, CB us T) :: S2 ∧ us.length = vs.length ∧ ∀ us', us'.length = us.length → Shp S0 (S1 ++ (b, CB us' T) :: S2) := by
  induction h with
  | nil => cases hm
  | @cons x y l m h1 h2 ih =>
    rcases List.mem_cons.1 hm with rfl | hm
    · obtain ⟨rfl, vs', us, T', e1, e2, hl⟩ := h1
      obtain ⟨rfl, rfl⟩ := CB_inj e1
      obtain ⟨yb, yo⟩ := y
      simp only at e2
      subst e2
      exact ⟨[], us, m, rfl, hl, fun us' hl' => .cons ⟨rfl, _, _, _, rfl, rfl, hl'.trans hl⟩ h2⟩
    · obtain ⟨S1, us, S2, rfl, hl, hp⟩ := ih hm
      exact ⟨y :: S1, us, S2, rfl, hl, fun us' hl' => .cons h1 (hp us' hl')⟩
/-- A slice whose cells lie in such a block. -/
def OwnR (S0 : List Blk) (T : TypeId) (sz : Nat) (a : Option Addr) (n : Nat) : Prop := n = 0 ∨ ∃ b vs, a = some ⟨b, 0, none⟩ ∧ (b, CB vs T) ∈ S0 ∧ n * sz ≤ vs.length
theorem NewRow.own {S0 : List Blk} {T : TypeId} {sz n cap : Nat} {us : List Value} {a : Option Addr} {Hn : List Blk} (h : NewRow T sz n us (.slice a n cap) Hn) (hs : ∀ x ∈ Hn, x ∈ S0) : OwnR S0 T sz a n := by
  obtain ⟨a', cap', he, hle, ⟨hn, b, junk, rfl, rfl, hl⟩ | ⟨h0, _⟩⟩ := h
  · cases he
    exact .inr ⟨b, _, rfl, hs _ (List.mem_singleton.2 rfl), by rw [hl]; exact Nat.mul_le_mul_right _ hle⟩
  · exact .inl h0
theorem OwnR.get {S0 S : List Blk} {T : TypeId} {sz n k : Nat} {a : Option Addr} (h : OwnR S0 T sz a n) (hk : k < n) (hS : Shp S0 S) :
    ∃ b S1 us S2, a = some ⟨b, 0, none⟩ ∧ S = S1 ++ (b, CB us T) :: S2 ∧ k * sz + sz ≤ us.length ∧ ∀ us', us'.length = us.length → Shp S0 (S1 ++ (b, CB us' T) :: S2) := by
  rcases h with h | ⟨b, vs, rfl, hm, hl⟩
  · omega
  · obtain ⟨S1, us, S2, rfl, hu, hp⟩ := hS.get hm
    refine ⟨b, S1, us, S2, rfl, rfl, ?_, hp⟩
    rw [hu]
    refine Nat.le_trans ?_ hl
    rw [← Nat.succ_mul]
    exact Nat.mul_le_mul_right _ hk
end Go.Eng
namespace Go.Eng
section
variable {C : Ctx} {F : Fence} {n : Nat} {ds : List Deferred} {c : Code} {Q : Exit → Env → List Blk → Prop} {e : Env} {H M M' : List Blk}
theorem W_pull (x : Blk) (hp : H.Perm (x :: M')) (h : W C F n ds c Q e (x :: M')) : W C F n ds c Q e H := W_perm hp h
end
end Go.Eng

/- Comparisons whose answer is known; equality of Bools. No project text. -/
namespace Go.Eng
open Go.RowKit
section
variable {C : Ctx} {e : Env} {H : List Blk} {o : Oper} {d : Option Tmp} {x y : Operand} {t t' ty : TypeId} {pos : String} {af : Array Edge} {g : Option (Nat × Bool)} {b c : Bool}
theorem YD_eq {u v : Value} (h : YD C o e H u) (hb : u = v) : YD C o e H v := by subst hb; exact h
end
end Go.Eng
namespace Go.Eng
/-- Slots that nobody reads any more are forgotten. -/
theorem W_keep {C : Ctx} {F : Fence} {n : Nat} {ds : List Deferred} {c : Code} {Q : Exit → Env → List Blk → Prop} {e : Env} {H : List Blk} (L : List (Nat × Value)) (hL : Slots e L) (h : ∀ e, W C F n ds c Q (sets e L) H) : W C F n ds c Q e H := by
  have := h e
  rwa [hL.sets] at this
end Go.Eng

/- Short words for what is asked often; a rest that is walked once. No project text. -/
namespace Go.Eng
open Go.RowKit
theorem sbA {A B : List Blk} (h : A.Sublist B := by (try simp only [List.append_assoc, List.cons_append, List.nil_append, List.set_cons_zero, List.set_cons_succ]); repeat (first | exact List.Sublist.refl _ | exact List.nil_sublist _ | exact List.sublist_append_left _ _ | apply List.Sublist.append_left | apply List.Sublist.cons_cons | apply List.Sublist.cons | refine List.Sublist.trans ?_ (List.sublist_append_right _ _))) : A.Sublist B := h
section
variable {C : Ctx} {F : Fence} {n : Nat} {ds : List Deferred} {x1 x2 x3 x4 x5 x6 y : Code} {Q : Exit → Env → List Blk → Prop} {e : Env} {H : List Blk} {γ : Type}
/-- The rest, whatever way led to it: some slots as they were, some as a ghost says. -/
def Rest (C : Ctx) (F : Fence) (n : Nat) (ds : List Deferred) (y : Code) (Q : Exit → Env → List Blk → Prop) {γ : Type} (I : γ → Prop) (L : List (Nat × Value)) (M : γ → List (Nat × Value)) (B : γ → List Blk) : Prop :=
  ∀ g e H, I g → Slots e L → Slots e (M g) → HSub H (B g) → W C F n ds y Q e H
theorem Slots.app {e : Env} : ∀ {L M : List (Nat × Value)}, Slots e L → Slots e M → Slots e (L ++ M)
  | [], _, _, h => h
  | _ :: _, _, h, h' => ⟨h.1, Slots.app h.2 h'⟩
end
end Go.Eng

/- The law of changes, walked. -/
namespace Go.Proofs.Ythkimgfgpphgnaa.T
open Go.RowKit Go.Proofs Go.Eng
set_option maxRecDepth 100000
set_option maxHeartbeats 1000000
set_option linter.unusedVariables false
set_option linter.unusedSimpArgs false

def Lg.wrL (l : Lg) : List Int := if l.err = 0 then l.wr.getD [] else []
def Lg.wrE (l : Lg) : Int := if l.err = 0 then (if l.wr.isSome then 0 else 6) else l.err
def WrI (l : Lg) (v : Value) (Hn : List Blk) : Prop :=
  ∃ fa fcap, v = .tuple #[.slice fa l.wrL.length fcap, .int .i64 l.wrE] ∧ ∀ (C : Ctx) (H : List Blk) (w : World), Hn.Sublist H → St C H w → Ints w fa l.wrL.length fcap l.wrL
theorem WrongV.ints {l : Lg} {v : Value} {Hn : List Blk} (h : WrongV l v Hn) : WrI l v Hn := by
  unfold WrI Lg.wrL Lg.wrE
  by_cases h0 : l.err = 0
  · rw [if_pos h0, if_pos h0]
    cases hw : l.wr with
    | none =>
      obtain ⟨rfl, rfl⟩ := (h.2 h0).2 hw
      exact ⟨none, 0, rfl, fun C H w _ _ => Ints.nil _ _ _⟩
    | some R =>
      obtain ⟨fa, fn, fcap, rfl, hr, rfl⟩ := (h.2 h0).1 R hw
      exact ⟨fa, fcap, rfl, fun C H w hs hw => Row.ints hr rfl hs w hw⟩
  · rw [if_neg h0, if_neg h0]
    obtain ⟨rfl, rfl⟩ := h.1 h0
    exact ⟨none, 0, rfl, fun C H w _ _ => Ints.nil _ _ _⟩
def Lg.zero : Lg := ⟨⟨[], 0, 0⟩, ⟨0, 0⟩, []⟩
def Lg.addL (l : Lg) (x : En) : Lg := if l.addE x = 0 then l.put x else Lg.zero
def Lg.strL (l : Lg) (D : List Int) : Lg := if l.strE D = 0 then l.wo D else Lg.zero
end Go.Proofs.Ythkimgfgpphgnaa.T

/- The examples that every outright law calls: alive, walked. -/
namespace Go.Proofs.Ythkimgfgpphgnaa.T
open Go.RowKit Go.Proofs Go.Eng
set_option maxRecDepth 100000
set_option maxHeartbeats 1000000
set_option linter.unusedVariables false
set_option linter.unusedSimpArgs false

theorem bd48_0_1_2 {x0 : Int} {x1 : Int} {x2_0 : Int} {x2_1 : Int} : ∀ w, (Instr.build 48 #[(0, .int .i64 x0), (1, .int .i64 x1), (2, .agg #[.int .i64 x2_0, .int .i64 x2_1])]).run Try.prog w = .ok (.agg #[.int .i64 x0, .int .i64 x1, .int .i64 x2_0, .int .i64 x2_1]) w := fun w => by kernel_rfl
theorem bs22_5_0_1_2_3_4 {x0 : Int} {x1 : Int} {x2 : Int} {x3 : Int} {x4 : Int} : ∀ w, (Instr.buildSlice 22 5 #[(0, .int .i64 x0), (1, .int .i64 x1), (2, .int .i64 x2), (3, .int .i64 x3), (4, .int .i64 x4)]).run Try.prog w = .ok (.slice (some ⟨w.heap.size, 0, none⟩) 5 5) (w.alloc (CB [.int .i64 x0, .int .i64 x1, .int .i64 x2, .int .i64 x3, .int .i64 x4] 3)) := fun w => by kernel_rfl
theorem bs44_4_0_1_2_3 {x0_0 : Int} {x0_1 : Int} {x0_2 : Int} {x0_3 : Int} {x1_0 : Int} {x1_1 : Int} {x1_2 : Int} {x1_3 : Int} {x2_0 : Int} {x2_1 : Int} {x2_2 : Int} {x2_3 : Int} {x3_0 : Int} {x3_1 : Int} {x3_2 : Int} {x3_3 : Int} : ∀ w, (Instr.buildSlice 44 4 #[(0, .agg #[.int .i64 x0_0, .int .i64 x0_1, .int .i64 x0_2, .int .i64 x0_3]), (1, .agg #[.int .i64 x1_0, .int .i64 x1_1, .int .i64 x1_2, .int .i64 x1_3]), (2, .agg #[.int .i64 x2_0, .int .i64 x2_1, .int .i64 x2_2, .int .i64 x2_3]), (3, .agg #[.int .i64 x3_0, .int .i64 x3_1, .int .i64 x3_2, .int .i64 x3_3])]).run Try.prog w = .ok (.slice (some ⟨w.heap.size, 0, none⟩) 4 4) (w.alloc (CB [.int .i64 x0_0, .int .i64 x0_1, .int .i64 x0_2, .int .i64 x0_3, .int .i64 x1_0, .int .i64 x1_1, .int .i64 x1_2, .int .i64 x1_3, .int .i64 x2_0, .int .i64 x2_1, .int .i64 x2_2, .int .i64 x2_3, .int .i64 x3_0, .int .i64 x3_1, .int .i64 x3_2, .int .i64 x3_3] 48)) := fun w => by kernel_rfl

theorem lpart_any (x y : Int) (w : World) : Ct Try.prog 57 #[.int .i64 x, .int .i64 y] w fun v _ => v = .agg #[.int .i64 x, .int .i64 y] := by
  have hF := wide_wide
  refine Ct_start (args := [_, _]) Try.func57 (by rfl) Try.ntmps57 (by rfl) ?_
  refine W_seq ?_
  refine W_region_lit (fun ds => ?_)
  refine WS_new hF (by rfl) (y_alloc Try.zeroValue30 (by rfl)) (fun b1 => ?_)
  refine WS_nil ?_
  refine Then_normal ?_
  refine W_seq ?_
  refine W_region_lit (fun ds => ?_)
  refine WS_det hF (by rfl) (y_move (c := .int .i64 _) (by rfl)) ?_
  refine WS_det hF (by rfl) (y_move (c := .int .i64 _) (by rfl)) ?_
  refine WS_det hF (by rfl) (y_buildL bd30_0_1 (by rfl)) ?_
  refine WS_store hF (i := 0) (by rfl) (by rfl) Try.sizeOf30 (by rfl) (by rfl) (by rfl) (by first | decide | exact Nat.le_of_ble_eq_true rfl | simp) ?_
  refine WS_nil ?_
  refine Then_normal ?_
  refine W_ret ?_
  refine Fin_ret [_] [] Try.results57 ⟨lvN (by rfl) Try.isAgg30 Try.sizeOf30 (Mem.own (us := [.int .i64 _, .int .i64 _]) 0 (by rfl) (by rfl)) (by rfl), trivial⟩ HSub.nil ?_
  rfl
theorem lspan_any (x y : Int) (w : World) : Ct Try.prog 58 #[.int .i64 x, .int .i64 y] w fun v _ => v = .agg #[.int .i64 x, .int .i64 y] := by
  have hF := wide_wide
  refine Ct_start (args := [_, _]) Try.func58 (by rfl) Try.ntmps58 (by rfl) ?_
  refine W_seq ?_
  refine W_region_lit (fun ds => ?_)
  refine WS_new hF (by rfl) (y_alloc Try.zeroValue26 (by rfl)) (fun b1 => ?_)
  refine WS_nil ?_
  refine Then_normal ?_
  refine W_seq ?_
  refine W_region_lit (fun ds => ?_)
  refine WS_det hF (by rfl) (y_move (c := .int .i64 _) (by rfl)) ?_
  refine WS_det hF (by rfl) (y_move (c := .int .i64 _) (by rfl)) ?_
  refine WS_det hF (by rfl) (y_buildL bd26_0_1 (by rfl)) ?_
  refine WS_store hF (i := 0) (by rfl) (by rfl) Try.sizeOf26 (by rfl) (by rfl) (by rfl) (by first | decide | exact Nat.le_of_ble_eq_true rfl | simp) ?_
  refine WS_nil ?_
  refine Then_normal ?_
  refine W_ret ?_
  refine Fin_ret [_] [] Try.results58 ⟨lvN (by rfl) Try.isAgg26 Try.sizeOf26 (Mem.own (us := [.int .i64 _, .int .i64 _]) 0 (by rfl) (by rfl)) (by rfl), trivial⟩ HSub.nil ?_
  rfl
theorem lentry_any (d k x y : Int) (w : World) : Ct Try.prog 60 #[.int .i64 d, .int .i64 k, .int .i64 x, .int .i64 y] w fun v _ => v = .agg #[.int .i64 d, .int .i64 k, .int .i64 x, .int .i64 y] := by
  have hF := wide_wide
  refine Ct_start (args := [_, _, _, _]) Try.func60 (by rfl) Try.ntmps60 (by rfl) ?_
  refine W_seq ?_
  refine W_region_lit (fun ds => ?_)
  refine WS_new hF (by rfl) (y_alloc Try.zeroValue48 (by rfl)) (fun b1 => ?_)
  refine WS_nil ?_
  refine Then_normal ?_
  refine W_seq ?_
  refine W_region_lit (fun ds => ?_)
  refine WS_det hF (by rfl) (y_move (c := .int .i64 _) (by rfl)) ?_
  refine WS_det hF (by rfl) (y_move (c := .int .i64 _) (by rfl)) ?_
  refine WS_det hF (by rfl) (y_move (c := .int .i64 _) (by rfl)) ?_
  refine WS_det hF (by rfl) (y_move (c := .int .i64 _) (by rfl)) ?_
  refine WS_det hF (by rfl) (y_callL (by rfl) (by rfl) Try.call58 (fun w hw => lspan_any _ _ w)) ?_
  refine WS_det hF (by rfl) (y_buildL bd48_0_1_2 (by rfl)) ?_
  refine WS_store hF (i := 0) (by rfl) (by rfl) Try.sizeOf48 (by rfl) (by rfl) (by rfl) (by first | decide | exact Nat.le_of_ble_eq_true rfl | simp) ?_
  refine WS_nil ?_
  refine Then_normal ?_
  refine W_ret ?_
  refine Fin_ret [_] [] Try.results60 ⟨lvN (by rfl) Try.isAgg48 Try.sizeOf48 (Mem.own (us := [.int .i64 _, .int .i64 _, .int .i64 _, .int .i64 _]) 0 (by rfl) (by rfl)) (by rfl), trivial⟩ HSub.nil ?_
  rfl
def tunT : Tk := ⟨[0, 10, 30, 60, 100], 2, 8⟩
def logL : Lg := ⟨tunT, ⟨20, 40⟩, [⟨0, 1, ⟨10, 15⟩⟩, ⟨3, 3, ⟨18, 20⟩⟩, ⟨5, 2, ⟨10, 20⟩⟩, ⟨5, 3, ⟨12, 16⟩⟩]⟩
def TwinT (t : Tk) (v : Value) (Hn : List Blk) : Prop := ∃ a cap, v = .agg #[.slice a t.n cap, .int .i64 t.leak, .int .i64 t.foot] ∧ NewRow 3 1 t.n (iv t.pints) (.slice a t.n cap) Hn
theorem tun_any (w : World) : Ct Try.prog 63 #[] w (TwinT tunT) := by
  have hF := wide_wide
  refine Ct_start (args := []) Try.func63 (by rfl) Try.ntmps63 (by rfl) ?_
  refine W_seq ?_
  refine W_region_lit (fun ds => ?_)
  refine WS_new hF (by rfl) (y_alloc Try.zeroValue24 (by rfl)) (fun b1 => ?_)
  refine WS_nil ?_
  refine Then_normal ?_
  refine W_seq ?_
  refine W_region_lit (fun ds => ?_)
  refine WS_newS hF (by rfl) (y_buildSliceL bs22_5_0_1_2_3_4 (by rfl)) (fun b2 => ?_)
  refine WS_det hF (by rfl) (y_buildL bd24_0_1_2 (by rfl)) ?_
  refine WS_store hF (i := 1) (by rfl) (by rfl) Try.sizeOf24 (by rfl) (by rfl) (by rfl) (by first | decide | exact Nat.le_of_ble_eq_true rfl | simp) ?_
  refine WS_nil ?_
  refine Then_normal ?_
  refine W_ret ?_
  refine Fin_ret [_] [(b2, _)] Try.results63 ⟨lvN (by rfl) Try.isAgg24 Try.sizeOf24 (Mem.own (us := [.slice _ _ _, .int .i64 _, .int .i64 _]) 1 (by rfl) (by rfl)) (by rfl), trivial⟩ (HSub.sub (by repeat (first | exact List.nil_sublist _ | apply List.Sublist.cons_cons | apply List.Sublist.cons))) ?_
  exact ⟨_, _, rfl, ⟨_, _, rfl, Nat.le_refl _, .inl ⟨by decide, b2, [], rfl, rfl, rfl⟩⟩⟩
theorem log_any (w : World) : Ct Try.prog 62 #[] w (TwinL logL) := by
  have hF := wide_wide
  refine Ct_start (args := []) Try.func62 (by rfl) Try.ntmps62 (by rfl) ?_
  refine W_seq ?_
  refine W_region_lit (fun ds => ?_)
  refine WS_new hF (by rfl) (y_alloc Try.zeroValue46 (by rfl)) (fun b1 => ?_)
  refine WS_nil ?_
  refine Then_normal ?_
  refine W_seq ?_
  refine W_region_lit (fun ds => ?_)
  refine WS_gen hF (by rfl) (y_callL (by rfl) (by rfl) Try.call63 (fun w hw => tun_any w)) ?_
  rintro _ Hn ⟨a, cap, rfl, hr⟩
  refine WS_back ?_
  refine WS_det hF (by rfl) (y_callL (by rfl) (by rfl) Try.call58 (fun w hw => lspan_any _ _ w)) ?_
  refine WS_det hF (by rfl) (y_callL (by rfl) (by rfl) Try.call60 (fun w hw => lentry_any _ _ _ _ w)) ?_
  refine WS_det hF (by rfl) (y_callL (by rfl) (by rfl) Try.call60 (fun w hw => lentry_any _ _ _ _ w)) ?_
  refine WS_det hF (by rfl) (y_callL (by rfl) (by rfl) Try.call60 (fun w hw => lentry_any _ _ _ _ w)) ?_
  refine WS_det hF (by rfl) (y_callL (by rfl) (by rfl) Try.call60 (fun w hw => lentry_any _ _ _ _ w)) ?_
  refine WS_newS hF (by rfl) (y_buildSliceL bs44_4_0_1_2_3 (by rfl)) (fun b2 => ?_)
  refine WS_det hF (by rfl) (y_buildL bd46_0_1_2 (by rfl)) ?_
  refine WS_store hF (i := 1) (by rfl) (by rfl) Try.sizeOf46 (by rfl) (by rfl) (by rfl) (by first | decide | exact Nat.le_of_ble_eq_true rfl | simp) ?_
  refine WS_nil ?_
  refine Then_normal ?_
  refine W_ret ?_
  refine Fin_ret [_] (Hn ++ [(b2, CB (rowOf En.cells logL.e logL.es.length) 48)]) Try.results62 ⟨lvN (by rfl) Try.isAgg46 Try.sizeOf46 (Mem.own (us := [.slice _ _ _, .int .i64 _, .int .i64 _, .int .i64 _, .int .i64 _, .slice _ _ _]) 1 (by rfl) (by rfl)) (by rfl), trivial⟩ (fun _ _ h => (h.sub (H' := [(b2, CB (rowOf En.cells logL.e logL.es.length) 48)] ++ Hn) (List.Sublist.cons_cons _ (List.Sublist.cons _ (List.Sublist.refl _)))).perm List.perm_append_comm) ?_
  exact ⟨_, _, _, _, _, [(b2, _)], rfl, hr, ⟨_, _, rfl, Nat.le_refl _, .inl ⟨by decide, b2, [], by rfl, by rw [List.append_nil], by rfl⟩⟩, rfl⟩
end Go.Proofs.Ythkimgfgpphgnaa.T

namespace Go.Proofs.Ythkimgfgpphgnaa.T
open Go.RowKit Go.Proofs Go.Eng
set_option maxRecDepth 100000

theorem k_vol : tunT.volume 9 = .tuple #[.agg #[.int .i64 25, .int .i64 2], .int .i64 0] := by kernel_rfl
theorem k_eig : tunT.eighthV 35 3 = .tuple #[.agg #[.int .i64 52, .int .i64 3], .int .i64 0] := by kernel_rfl
theorem k_lb : tunT.Lb 35 3 := ⟨by decide, fun k hk => by
  obtain rfl | rfl | rfl : k = 0 ∨ k = 1 ∨ k = 2 := by omega
  all_goals decide, fun k h1 h2 => by
  have : k < 5 := h2
  obtain rfl | rfl : k = 3 ∨ k = 4 := by omega
  all_goals decide⟩
theorem k_rng : tunT.range 9 12 = .tuple #[.agg #[.int .i64 13, .int .i64 20], .int .i64 0] := by kernel_rfl
theorem k_hol : logL.holdsV 1 = .tuple #[.agg #[.int .i64 38, .int .i64 51], .int .i64 0] := by kernel_rfl
theorem k_trs : logL.trs = [23, 38, 38, 20, 20] := by kernel_rfl
theorem k_aerr : logL.aerr = 0 := by kernel_rfl
theorem k_mov : logL.movedV 3 = .tuple #[.agg #[.int .i64 10, .int .i64 20], .int .i64 0] := by kernel_rfl
theorem k_los : logL.lostV 1 = .tuple #[.agg #[.int .i64 0, .int .i64 6], .int .i64 0] := by kernel_rfl
theorem k_lea : logL.leakedV = .tuple #[.agg #[.int .i64 0, .int .i64 10], .int .i64 0] := by kernel_rfl
theorem k_sur : logL.sureV 21 = .tuple #[.int .u8 1, .int .i64 0] := by kernel_rfl
theorem k_whe : logL.whenV 38 = .tuple #[.int .i64 1, .int .i64 0] := by kernel_rfl
theorem k_rea : logL.readyV = .tuple #[.agg #[.int .i64 10, .int .i64 20], .int .i64 0] := by kernel_rfl
theorem k_roo : logL.roomV = .tuple #[.agg #[.int .i64 70, .int .i64 80], .int .i64 0] := by kernel_rfl
theorem k_ask : logL.askV = .tuple #[.int .i64 14, .int .i64 6, .int .i64 0] := by kernel_rfl
def oddX : En := ⟨5, 3, ⟨20, 24⟩⟩
def oddL : Lg := logL.put oddX
theorem k_add : logL.addE oddX = 0 := by kernel_rfl
theorem k_wrL : oddL.wrL = [5] := by kernel_rfl
theorem k_wrE : oddL.wrE = 0 := by kernel_rfl
theorem k_odd : oddL.aerr = 8 := by kernel_rfl
end Go.Proofs.Ythkimgfgpphgnaa.T
