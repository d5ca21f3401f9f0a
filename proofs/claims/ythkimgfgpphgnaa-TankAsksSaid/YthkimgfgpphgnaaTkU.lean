/- What the tank can hold by the entries behind: the walk. -/
import Derived.Test.YthkimgfgpphgnaaTkT
import Derived.Test.YthkimgfgpphgnaaEng14
namespace Go.Proofs.Ythkimgfgpphgnaa.T
open Go.RowKit Go.Proofs Go.Eng
set_option maxRecDepth 100000
set_option linter.unusedVariables false
set_option linter.unusedSimpArgs false

theorem fa116_2 : ∀ b o w, (Instr.fieldAt 116 (.pointer (some ⟨b, o, none⟩)) 2).run Try.prog w = .ok (.pointer (some ⟨b, o + 2, none⟩)) w := fun b o w => by kernel_rfl

theorem sn_len (x : Sn) : x.cells.length = 2 := rfl
def Lg.af (l : Lg) (k j : Nat) : Sn := if l.es.length - k ≤ j then l.aft j else Sn.z
def Lg.bf (l : Lg) (k j : Nat) : Sn := if l.es.length - k ≤ j then l.ahd j else Sn.z
abbrev snRow (f : Nat → Sn) (n : Nat) : List Value := rowOf Sn.cells f n
theorem Lg.af_zero (l : Lg) : splice (snRow (fun _ => Sn.z) (l.es.length + 1)) (l.es.length * 2) [.int .i64 0, .int .i64 l.tk.full] = snRow (l.af 0) (l.es.length + 1) :=
  rowOf_splice sn_len (by omega) (by unfold Lg.af; rw [if_pos (by omega), l.aft_n]; rfl) fun j hj hne => by unfold Lg.af; rw [if_neg (by omega)]
theorem Lg.af_succ (l : Lg) {k : Nat} (hk : k < l.es.length) : splice (snRow (l.af k) (l.es.length + 1)) ((l.es.length - 1 - k) * 2) [.int .i64 (l.ahd (l.es.length - 1 - k)).lo, .int .i64 (min l.tk.full ((l.ahd (l.es.length - 1 - k)).hi + l.drip (l.es.length - 1 - k)))] = snRow (l.af (k + 1)) (l.es.length + 1) :=
  rowOf_splice sn_len (by omega) (by unfold Lg.af; rw [if_pos (by omega), l.aft_lt (by omega)]; rfl) fun j hj hne => by
    unfold Lg.af
    by_cases h : l.es.length - k ≤ j
    · rw [if_pos h, if_pos (by omega)]
    · rw [if_neg h, if_neg (by omega)]
theorem Lg.bf_zero (l : Lg) : snRow (fun _ => Sn.z) l.es.length = snRow (l.bf 0) l.es.length :=
  rowOf_congr _ fun j hj => by unfold Lg.bf; rw [if_neg (by omega)]
theorem Lg.bf_succ (l : Lg) {k : Nat} (hk : k < l.es.length) : splice (snRow (l.bf k) l.es.length) ((l.es.length - 1 - k) * 2) (l.ahd (l.es.length - 1 - k)).cells = snRow (l.bf (k + 1)) l.es.length :=
  rowOf_splice sn_len (by omega) (by unfold Lg.bf; rw [if_pos (by omega)]) fun j hj hne => by
    unfold Lg.bf
    by_cases h : l.es.length - k ≤ j
    · rw [if_pos h, if_pos (by omega)]
    · rw [if_neg h, if_neg (by omega)]
theorem Lg.af_end (l : Lg) : snRow (l.af l.es.length) (l.es.length + 1) = snRow l.aft (l.es.length + 1) := rowOf_congr _ fun j hj => by unfold Lg.af; rw [if_pos (by omega)]
theorem Lg.bf_end (l : Lg) : snRow (l.bf l.es.length) l.es.length = snRow l.ahd l.es.length := rowOf_congr _ fun j hj => by unfold Lg.bf; rw [if_pos (by omega)]
def BackV (l : Lg) (v : Value) (Hn : List Blk) : Prop :=
  ∃ ab bb, v = .tuple #[.slice (some ⟨ab, 0, none⟩) (l.es.length + 1) (l.es.length + 1), .slice (some ⟨bb, 0, none⟩) l.es.length l.es.length] ∧ Hn = [(ab, CB (snRow l.aft (l.es.length + 1)) 26), (bb, CB (snRow l.ahd l.es.length) 26)]
def backF (kind : Int) : FuncId := if kind = 1 then 137 else if kind = 2 then 136 else 139
theorem back_call (kind : Int) : ∀ args w, (callFunc (backF kind) args).run Try.prog w = .ok (.enter (backF kind) args) w := by
  unfold backF
  split
  · exact Try.call137
  · split
    · exact Try.call136
    · exact Try.call139
theorem back_cell (g : Nat) (l : Lg) (a : Option Addr) (cap : Nat) (ae : Option Addr) (cape : Nat) (k : Nat) (h : 1 ≤ k ∧ k ≤ 3) : (bookCells g l a cap ae cape)[7 + k * 3 + 2]? = some (.func (.func (backF (k : Int))) #[] #[]) := by
  obtain rfl | rfl | rfl : k = 1 ∨ k = 2 ∨ k = 3 := by omega
  · rfl
  · rfl
  · rfl
theorem backF_any (l : Lg) (i : Nat) (g og : Nat) (s : Sn) (w : World) (hok : l.Ok) (hi : i < l.es.length) (hG : Gg w g og l.tk) (hs : s.Sm) :
    Ct Try.prog (backF (l.e i).kind) #[.pointer (some ⟨g, og, none⟩), .agg (l.e i).size.cells.toArray, .agg s.cells.toArray] w fun v _ => v = .agg (l.tk.back (l.e i) s).cells.toArray := by
  have hz := hok.sm hi
  have hq := hok.size i hi
  have hkd := hok.kind i hi
  unfold backF Tk.back
  split
  · exact tless_any g og l.tk (l.e i).size s w hG hz hs
  · split
    · exact more_any g og l.tk (l.e i).size s w hG hz hs
    · unfold Tk.most at hq
      rw [if_pos (by omega)] at hq
      exact seen_any g og l.tk (l.e i).size s w hG hq
theorem infSpan : (Try.prog.info? 26).map (fun i => (i.zero, i.size, i.bytes)) = some (some (.agg #[.int .i64 0, .int .i64 0]), 2, 16) := by kernel_rfl

theorem back_any (bk : Nat) (l : Lg) (w : World) (hB : Bk w bk l) : Ct Try.prog 128 #[.pointer (some ⟨bk, 0, none⟩)] w (BackV l) := by
  have hok := hB.ok
  have hB0 := hB
  obtain ⟨_, g, a, cap, ae, cape, h1, hG, h3⟩ := hB
  have hn := hok.n12
  have ⟨_, a2, cap2, hg, _⟩ := hG
  have hF := wide_wide
  refine Ct_start (args := [_]) Try.func128 (by rfl) Try.ntmps128 (by rfl) ?_
  refine W_seq ?_
  refine W_region_lit (fun ds => ?_)
  refine WS_new hF (by rfl) (y_box (by rfl)) (fun b1 => ?_)
  refine WS_new hF (by rfl) (y_alloc Try.zeroValue90 (by rfl)) (fun b2 => ?_)
  refine WS_new hF (by rfl) (y_alloc Try.zeroValue90 (by rfl)) (fun b3 => ?_)
  refine WS_nil ?_
  refine Then_normal ?_
  refine W_seq ?_
  refine W_region_lit (fun ds => ?_)
  refine WS_det hF (by rfl) (y_load1 (by rfl) Try.isAgg108 (Mem.own1 2 (by rfl) (by rfl))) ?_
  refine WS_det hF (by rfl) (by first | exact y_nilCheck (by rfl) | exact y_nilCheckF (by rfl)) ?_
  refine WS_det hF (by rfl) (y_fieldAddr (by rfl) fa119_1) ?_
  refine WS_det hF (by rfl) (y_fieldAddr (by rfl) fa46_2) ?_
  refine WS_det hF (by rfl) (y_load1 (by rfl) Try.isAgg44 (by first | exact Mem.old1 (by assumption) | exact Mem.oldAt1 (by assumption) (by rfl) | exact Mem.old (by assumption) | exact Mem.oldAtL1 (by assumption) (by rfl) (by rfl))) ?_
  refine WS_det hF (by rfl) (y_len (by rfl) Try.runUnderlying44) ?_
  refine WS_det hF (by rfl) (y_assign (c := .int .i64 _) (by rfl)) ?_
  refine WS_nil ?_
  refine Then_normal ?_
  refine W_seq ?_
  apply W_drawMT 6 hF Trymixed [Pre.dep 1000000 b2 _ 15 _ _] [1000000] [1000000] (by rfl) (by decide +kernel) (by decide) (fun _ _ h => h.perm (perm_erase (i := 1) (by rfl)).symm)
  intro ds
  refine P_det (by rfl) (Over_out (by rfl) (Over_nil (y_move (c := .int .i64 _) (by rfl)))) ?_
  refine P_det (by rfl) (Over_out (by rfl) (Over_nil (y_add (by rfl) (by rfl) (by unfold I64; omega)))) ?_
  refine P_new (by rfl) (by rfl) (Over_out (by rfl) (Over_nil (y_makeSlice (n := l.es.length + 1) (by rfl) (by rfl) (by omega) (by omega) Try.underlying90 infSpan (by rfl) (by rfl) (by omega) (by omega)))) ?_
  refine P_det (by rfl) (Over_out (by rfl) (Over_out (by rfl) (Over_nil (y_move (c := .int .i64 _) (by rfl))))) ?_
  refine P_new (by rfl) (by rfl) (Over_out (by rfl) (Over_out (by rfl) (Over_nil (y_makeSlice (n := l.es.length) (by rfl) (by rfl) (by omega) (by omega) Try.underlying90 infSpan (by rfl) (by rfl) (by omega) (by omega))))) ?_
  refine P_st 1000000 2 (by rfl) (by rfl) (by rfl) (by rfl) (by rfl) (Over_out (by rfl) (Over_in (by rfl) (Over_nil (by rintro _ _ ⟨b6, rfl, rfl⟩; exact (st_preD (fun _ => by rfl) (by rfl) (by rfl) Try.sizeOf90 (by rfl) (by rfl) (by first | decide | exact Nat.le_of_ble_eq_true rfl | simp)))))) ?_
  refine PW_end (by rfl) ?_
  refine OverAll_cons (fun w17 l17 => ?_)
  refine OverAll_cons (fun w15 l15 => ?_)
  refine OverAll_cons (fun w1000000 l1000000 => ?_)
  refine OverAll_nil ?_
  rintro ⟨⟨⟨-, h17⟩, h15⟩, h1000000⟩
  obtain ⟨b4, rfl, rfl⟩ := h15
  obtain ⟨b5, rfl, rfl⟩ := h17
  obtain rfl := h1000000
  refine WS_store hF (i := 3) (by rfl) (by rfl) Try.sizeOf90 (by rfl) (by rfl) (by rfl) (by first | decide | exact Nat.le_of_ble_eq_true rfl | simp) ?_
  refine WS_nil ?_
  refine Then_normal ?_
  refine W_seq ?_
  apply W_draw1 hF Trymixed [1000000] (i := 1) (by rfl) (by decide +kernel)
  intro ds
  refine P_det (by rfl) (Over_out (by rfl) (Over_nil (y_load1 (by rfl) Try.isAgg90 (Mem.own1 0 (by rfl) (by rfl))))) ?_
  refine P_det (by rfl) (Over_out (by rfl) (Over_nil (y_move (c := .int .i64 _) (by rfl)))) ?_
  refine P_det (by rfl) (Over_out (by rfl) (Over_nil (y_load1 (by rfl) Try.isAgg108 (Mem.own1 3 (by rfl) (by rfl))))) ?_
  refine P_det (by rfl) (Over_out (by rfl) (Over_nil (by first | exact y_nilCheck (by rfl) | exact y_nilCheckF (by rfl)))) ?_
  refine P_det (by rfl) (Over_out (by rfl) (Over_nil (y_fieldAddr (by rfl) fa119_0))) ?_
  refine P_det (by rfl) (Over_out (by rfl) (Over_nil (y_load1 (by rfl) Try.isAgg93 (by first | exact Mem.old1 (by assumption) | exact Mem.oldAt1 (by assumption) (by rfl) | exact Mem.old (by assumption) | exact Mem.oldAtL1 (by assumption) (by rfl) (by rfl))))) ?_
  refine P_det (by rfl) (Over_out (by rfl) (Over_nil (by first | exact y_nilCheck (by rfl) | exact y_nilCheckF (by rfl)))) ?_
  refine P_det (by rfl) (Over_out (by rfl) (Over_nil (y_fieldAddr (by rfl) fa98_1))) ?_
  refine P_det (by rfl) (Over_out (by rfl) (Over_nil (y_load1 (by rfl) Try.isAgg3 (by first | exact Mem.old1 (by assumption) | exact Mem.oldAt1 (by assumption) (by rfl) | exact Mem.old (by assumption) | exact Mem.oldAtL1 (by assumption) (by rfl) (by rfl))))) ?_
  refine P_det (by rfl) (Over_out (by rfl) (Over_nil (y_buildL bd26_1 (by rfl)))) ?_
  refine P_det (by rfl) (Over_out (by rfl) (Over_nil (y_index (k := l.es.length) (by rfl) (by rfl) (by first | rfl | omega) (by first | decide | omega) Try.runUnderlying90 Try.sizeOf26))) ?_
  refine P_st 1000000 0 (by rfl) (by rfl) (by rfl) (by rfl) (by rfl) (Over_nil (st_pre (fun _ => by rfl) (fun _ => by rfl) Try.sizeOf26 (by rfl) (by rfl) (by show 0 + l.es.length * 2 + 2 ≤ (snRow (fun _ => Sn.z) (l.es.length + 1)).length; rw [rowOf_len sn_len]; omega))) ?_
  refine PW_end (by rfl) ?_
  refine OverAll_cons (fun w1000000 l1000000 => ?_)
  refine OverAll_nil ?_
  rintro ⟨-, h1000000⟩
  obtain rfl := h1000000
  refine Then_normal ?_
  refine W_seq ?_
  refine W_seq ?_
  refine W_region_lit (fun ds => ?_)
  refine WS_det hF (by rfl) (y_load1 (by rfl) Try.isAgg108 (Mem.own1 4 (by rfl) (by rfl))) ?_
  refine WS_det hF (by rfl) (by first | exact y_nilCheck (by rfl) | exact y_nilCheckF (by rfl)) ?_
  refine WS_det hF (by rfl) (y_fieldAddr (by rfl) fa119_1) ?_
  refine WS_det hF (by rfl) (y_fieldAddr (by rfl) fa46_2) ?_
  refine WS_det hF (by rfl) (y_load1 (by rfl) Try.isAgg44 (by first | exact Mem.old1 (by assumption) | exact Mem.oldAt1 (by assumption) (by rfl) | exact Mem.old (by assumption) | exact Mem.oldAtL1 (by assumption) (by rfl) (by rfl))) ?_
  refine WS_gen hF (by rfl) (y_callL (by rfl) (by rfl) Try.call141 (fun w hw => backward_any ae l.es.length cape w)) ?_
  rintro _ _ ⟨bx, rfl, rfl⟩
  refine WS_nil ?_
  refine Then_normal ?_
  refine W_block ?_
  refine W_range hF (by rfl) (encs := (fun k => [.int .i64 ((l.es.length : Int) - 1 - (k : Int)), .agg (l.es.getD (l.es.length - 1 - k) En.z).cells.toArray])) (N := l.es.length) (H0 := [(bx, CB [.slice ae l.es.length cape] 44)]) (G0 := [(b4, _), (b2, _), (b5, _), (b3, _), (b1, _)]) (fun k G => G = [(b4, CB (snRow (l.af k) (l.es.length + 1)) 26), (b2, CB [.slice (some ⟨b4, 0, none⟩) (l.es.length + 1) (l.es.length + 1)] 90), (b5, CB (snRow (l.bf k) l.es.length) 26), (b3, CB [.slice (some ⟨b5, 0, none⟩) l.es.length l.es.length] 90), (b1, CB [.pointer (some ⟨bk, 0, none⟩)] 108)]) (fun _ _ _ => False) (by rfl) Try.call143 (by rfl) (fun _ => rfl) (fun ds => backward_it _ _ _ bx l.es.length ae cape l.es (by omega) h3) (by rw [← l.bf_zero, ← l.af_zero]; rw [Nat.zero_add]; rfl) (HSub.refl) ?_ ?_ ?_
  · rintro k hk G hj out lpr R R'
    have hF := wide_inRound wide_wide lpr
    subst hj
    have hi : l.es.length - 1 - k < l.es.length := by omega
    obtain ⟨kk, hkk⟩ : ∃ kk : Nat, (l.e (l.es.length - 1 - k)).kind = (kk : Int) := Int.eq_ofNat_of_zero_le (by have := hok.kind _ hi; omega)
    have hkd := hok.kind _ hi
    have hab := hok.aft_bd (i := l.es.length - 1 - k + 1) (by omega)
    have hhb := hok.ahd_bd hi
    have hdb := hok.drip_bd hi
    have hafe : l.af k (l.es.length - 1 - k + 1) = l.aft (l.es.length - 1 - k + 1) := by unfold Lg.af; rw [if_pos (by omega)]
    have hbfe : l.bf (k + 1) (l.es.length - 1 - k) = l.ahd (l.es.length - 1 - k) := by unfold Lg.bf; rw [if_pos (by omega)]
    have hs1 := l.bf_succ hk
    have hs2 := l.af_succ hk
    rw [← Nat.zero_add ((l.es.length - 1 - k) * 2)] at hs1 hs2
    have hfull := hok.tk.full_bd
    have hkk2 : (l.es.getD (l.es.length - 1 - k) En.z).kind = (kk : Int) := hkk
    have hik : (l.es.length : Int) - 1 - (k : Int) = ((l.es.length - 1 - k : Nat) : Int) := by omega
    refine W_seq ?_
    refine W_region_lit (fun ds => ?_)
    refine WS_det hF (by rfl) (y_assign (c := .int .i64 _) (by rfl)) ?_
    refine WS_nil ?_
    refine Then_normal ?_
    refine W_region_lit (fun ds => ?_)
    refine WS_new hF (by rfl) (y_alloc Try.zeroValue48 (by rfl)) (fun b7 => ?_)
    refine WS_store hF (i := 0) (by rfl) (by rfl) Try.sizeOf48 (by rfl) (by rfl) (by rfl) (by first | decide | exact Nat.le_of_ble_eq_true rfl | simp) ?_
    refine WS_nil ?_
    refine Then_normal ?_
    refine ⟨[_, _, _, _, _, _], rfl, ?_⟩
    refine W_block ?_
    refine W_seq ?_
    apply W_draw1 hF Trymixed [1000000] (i := 3) (by rfl) (by decide +kernel)
    intro ds
    refine P_det (by rfl) (Over_out (by rfl) (Over_nil (y_load1 (by rfl) Try.isAgg90 (Mem.own1 3 (by rfl) (by rfl))))) ?_
    refine P_det (by rfl) (Over_out (by rfl) (Over_nil (y_move (c := .int .i64 _) (by rfl)))) ?_
    refine P_det (by rfl) (Over_out (by rfl) (Over_nil (y_load1 (by rfl) Try.isAgg108 (Mem.own1 4 (by rfl) (by rfl))))) ?_
    refine P_det (by rfl) (Over_out (by rfl) (Over_nil (y_fieldAddr (by rfl) fa48_1))) ?_
    refine P_det (by rfl) (Over_out (by rfl) (Over_nil (y_load1 (by rfl) Try.isAgg3 (Mem.own1 0 (by rfl) (by rfl))))) ?_
    refine P_det (by rfl) (Over_out (by rfl) (Over_nil (by first | exact y_nilCheck (by rfl) | exact y_nilCheckF (by rfl)))) ?_
    refine P_det (by rfl) (Over_out (by rfl) (Over_nil (y_fieldAddr (by rfl) fa119_2))) ?_
    refine P_det (by rfl) (Over_out (by rfl) (Over_nil (y_indexA (k := kk) (by rfl) (by rfl) (by first | rfl | omega) (by first | decide | omega) Try.runUnderlying117 Try.sizeOf116))) ?_
    refine P_det (by rfl) (Over_out (by rfl) (Over_nil (y_fieldAddr (by rfl) fa116_2))) ?_
    refine P_det (by rfl) (Over_out (by rfl) (Over_nil (y_load1 (by rfl) Try.isAgg114 (Mem.oldAtL1 (o := 0) (p := 0 + 7 + kk * 3 + 2) h1 (by simp) (by rw [show 0 + 7 + kk * 3 + 2 - 0 = 7 + kk * 3 + 2 by omega]; exact back_cell g l a cap ae cape kk (by omega)))))) ?_
    refine P_det (by rfl) (Over_out (by rfl) (Over_nil (y_load1 (by rfl) Try.isAgg108 (Mem.own1 4 (by rfl) (by rfl))))) ?_
    refine P_det (by rfl) (Over_out (by rfl) (Over_nil (by first | exact y_nilCheck (by rfl) | exact y_nilCheckF (by rfl)))) ?_
    refine P_det (by rfl) (Over_out (by rfl) (Over_nil (y_fieldAddr (by rfl) fa119_0))) ?_
    refine P_det (by rfl) (Over_out (by rfl) (Over_nil (y_load1 (by rfl) Try.isAgg93 (by first | exact Mem.old1 (by assumption) | exact Mem.oldAt1 (by assumption) (by rfl) | exact Mem.old (by assumption) | exact Mem.oldAtL1 (by assumption) (by rfl) (by rfl))))) ?_
    refine P_det (by rfl) (Over_out (by rfl) (Over_nil (y_fieldAddr (by rfl) fa48_2))) ?_
    refine P_det (by rfl) (Over_out (by rfl) (Over_nil (y_loadN (by rfl) Try.isAgg26 Try.sizeOf26 (Mem.own (us := [.int .i64 _, .int .i64 _]) 0 (by rfl) (by rfl)) (by rfl)))) ?_
    refine P_det (by rfl) (Over_out (by rfl) (Over_nil (y_load1 (by rfl) Try.isAgg90 (Mem.own1 2 (by rfl) (by rfl))))) ?_
    refine P_det (by rfl) (Over_out (by rfl) (Over_nil (y_move (c := .int .i64 _) (by rfl)))) ?_
    refine P_det (by rfl) (Over_out (by rfl) (Over_nil (y_add (by rfl) (by rfl) (by unfold I64; omega)))) ?_
    refine P_det (by rfl) (Over_out (by rfl) (Over_nil (y_index (k := l.es.length - 1 - k + 1) (by rfl) (by rfl) (by first | rfl | omega) (by first | decide | omega) Try.runUnderlying90 Try.sizeOf26))) ?_
    refine P_det (by rfl) (Over_out (by rfl) (Over_nil (y_loadN (by rfl) Try.isAgg26 Try.sizeOf26 (Mem.row sn_len 1 (by rfl) (k := l.es.length - 1 - k + 1) (by omega) hafe (by omega)) (by rfl)))) ?_
    refine P_det (by rfl) (Over_out (by rfl) (Over_nil (y_callL (by rfl) (by rfl) (back_call _) (fun w hw => by rw [← hkk]; exact backF_any l (l.es.length - 1 - k) g 0 (l.aft (l.es.length - 1 - k + 1)) w hok (by omega) (hG.st w hw) (by unfold Sn.Sm; omega))))) ?_
    refine P_det (by rfl) (Over_out (by rfl) (Over_nil (y_index (k := l.es.length - 1 - k) (by rfl) (by rfl) (by first | rfl | omega) (by first | decide | omega) Try.runUnderlying90 Try.sizeOf26))) ?_
    refine P_st 1000000 0 (by rfl) (by rfl) (by rfl) (by rfl) (by rfl) (Over_nil (st_pre (fun _ => by rfl) (fun _ => by rfl) Try.sizeOf26 (by rfl) (by rfl) (by show 0 + (l.es.length - 1 - k) * 2 + 2 ≤ (snRow (l.bf k) l.es.length).length; rw [rowOf_len sn_len]; omega))) ?_
    refine PW_end (by rfl) ?_
    refine OverAll_cons (fun w1000000 l1000000 => ?_)
    refine OverAll_nil ?_
    rintro ⟨-, h1000000⟩
    obtain rfl := h1000000
    refine Then_normal ?_
    refine W_H (congrArg (fun x => (b5, CB x 26) :: _) hs1) ?_
    apply W_draw1 hF Trymixed [1000000] (i := 2) (by rfl) (by decide +kernel)
    intro ds
    refine P_det (by rfl) (Over_out (by rfl) (Over_nil (y_load1 (by rfl) Try.isAgg90 (Mem.own1 2 (by rfl) (by rfl))))) ?_
    refine P_det (by rfl) (Over_out (by rfl) (Over_nil (y_move (c := .int .i64 _) (by rfl)))) ?_
    refine P_det (by rfl) (Over_out (by rfl) (Over_nil (y_load1 (by rfl) Try.isAgg90 (Mem.own1 3 (by rfl) (by rfl))))) ?_
    refine P_det (by rfl) (Over_out (by rfl) (Over_nil (y_move (c := .int .i64 _) (by rfl)))) ?_
    refine P_det (by rfl) (Over_out (by rfl) (Over_nil (y_index (k := l.es.length - 1 - k) (by rfl) (by rfl) (by first | rfl | omega) (by first | decide | omega) Try.runUnderlying90 Try.sizeOf26))) ?_
    refine P_det (by rfl) (Over_out (by rfl) (Over_nil (y_fieldAddr (by rfl) fa26_0))) ?_
    refine P_det (by rfl) (Over_out (by rfl) (Over_nil (y_load1 (by rfl) Try.isAgg3 (Mem.rowAt sn_len 0 (by rfl) (k := l.es.length - 1 - k) (j := 0) (by omega) hbfe (by rfl) (by omega))))) ?_
    refine P_det (by rfl) (Over_out (by rfl) (Over_nil (y_load1 (by rfl) Try.isAgg108 (Mem.own1 4 (by rfl) (by rfl))))) ?_
    refine P_det (by rfl) (Over_out (by rfl) (Over_nil (by first | exact y_nilCheck (by rfl) | exact y_nilCheckF (by rfl)))) ?_
    refine P_det (by rfl) (Over_out (by rfl) (Over_nil (y_fieldAddr (by rfl) fa119_0))) ?_
    refine P_det (by rfl) (Over_out (by rfl) (Over_nil (y_load1 (by rfl) Try.isAgg93 (by first | exact Mem.old1 (by assumption) | exact Mem.oldAt1 (by assumption) (by rfl) | exact Mem.old (by assumption) | exact Mem.oldAtL1 (by assumption) (by rfl) (by rfl))))) ?_
    refine P_det (by rfl) (Over_out (by rfl) (Over_nil (by first | exact y_nilCheck (by rfl) | exact y_nilCheckF (by rfl)))) ?_
    refine P_det (by rfl) (Over_out (by rfl) (Over_nil (y_fieldAddr (by rfl) fa98_1))) ?_
    refine P_det (by rfl) (Over_out (by rfl) (Over_nil (y_load1 (by rfl) Try.isAgg3 (by first | exact Mem.old1 (by assumption) | exact Mem.oldAt1 (by assumption) (by rfl) | exact Mem.old (by assumption) | exact Mem.oldAtL1 (by assumption) (by rfl) (by rfl))))) ?_
    refine P_det (by rfl) (Over_out (by rfl) (Over_nil (y_load1 (by rfl) Try.isAgg90 (Mem.own1 3 (by rfl) (by rfl))))) ?_
    refine P_det (by rfl) (Over_out (by rfl) (Over_nil (y_move (c := .int .i64 _) (by rfl)))) ?_
    refine P_det (by rfl) (Over_out (by rfl) (Over_nil (y_index (k := l.es.length - 1 - k) (by rfl) (by rfl) (by first | rfl | omega) (by first | decide | omega) Try.runUnderlying90 Try.sizeOf26))) ?_
    refine P_det (by rfl) (Over_out (by rfl) (Over_nil (y_fieldAddr (by rfl) fa26_1))) ?_
    refine P_det (by rfl) (Over_out (by rfl) (Over_nil (y_load1 (by rfl) Try.isAgg3 (Mem.rowAt sn_len 0 (by rfl) (k := l.es.length - 1 - k) (j := 1) (by omega) hbfe (by rfl) (by omega))))) ?_
    refine P_det (by rfl) (Over_out (by rfl) (Over_nil (y_load1 (by rfl) Try.isAgg108 (Mem.own1 4 (by rfl) (by rfl))))) ?_
    refine P_det (by rfl) (Over_out (by rfl) (Over_nil (y_move (c := .int .i64 _) (by rfl)))) ?_
    refine P_det (by rfl) (Over_out (by rfl) (Over_nil (y_callL (by rfl) (by rw [← hik]; rfl) Try.call111 (fun w hw => drip_any bk l (l.es.length - 1 - k) w (hB0.st w hw) (by omega))))) ?_
    refine P_det (by rfl) (Over_out (by rfl) (Over_nil (y_add (by rfl) (by rfl) (by unfold I64; omega)))) ?_
    refine P_det (by rfl) (Over_out (by rfl) (Over_nil (y_min (by rfl) (by rfl)))) ?_
    refine P_det (by rfl) (Over_out (by rfl) (Over_nil (y_buildL bd26_0_1 (by rfl)))) ?_
    refine P_det (by rfl) (Over_out (by rfl) (Over_nil (y_index (k := l.es.length - 1 - k) (by rfl) (by rfl) (by first | rfl | omega) (by first | decide | omega) Try.runUnderlying90 Try.sizeOf26))) ?_
    refine P_st 1000000 0 (by rfl) (by rfl) (by rfl) (by rfl) (by rfl) (Over_nil (st_pre (fun _ => by rfl) (fun _ => by rfl) Try.sizeOf26 (by rfl) (by rfl) (by show 0 + (l.es.length - 1 - k) * 2 + 2 ≤ (snRow (l.af k) (l.es.length + 1)).length; rw [rowOf_len sn_len]; omega))) ?_
    refine PW_end (by rfl) ?_
    refine OverAll_cons (fun w1000000 l1000000 => ?_)
    refine OverAll_nil ?_
    rintro ⟨-, h1000000⟩
    obtain rfl := h1000000
    refine InB_normal ?_
    refine ⟨[_, _, _, _, _], (SubP.pick 0 (by rfl) (SubP.pick 2 (by rfl) (SubP.pick 0 (by rfl) (SubP.pick 1 (by rfl) (SubP.pick 1 (by rfl) (by exact SubP.drop (SubP.refl))))))).hsub, ?_⟩
    exact congrArg (fun x => (b4, CB x 26) :: _) hs2
  · rintro G hj
    subst hj
    refine InB_normal ?_
    refine Then_normal ?_
    refine W_seq ?_
    apply W_drawZ 2 1 hF Trymixed [] [] [] (by rfl) (by decide +kernel) (by decide) (by rfl) (by rfl) (by rfl) (by rfl) (by rfl) Try.isAgg90 HSub.refl
    intro ds
    refine P_det (by rfl) (Over_nil (y_load1 (by rfl) Try.isAgg90 (Mem.own1 2 (by rfl) (by rfl)))) ?_
    refine P_det (by rfl) (Over_nil (y_load1 (by rfl) Try.isAgg90 (Mem.own1 4 (by rfl) (by rfl)))) ?_
    refine PW_end (by rfl) ?_
    refine OverAll_nil ?_
    rintro -
    refine ⟨?_, fun xz => ?_⟩
    ·
      refine WS_store hF (i := 2) (by rfl) (by rfl) Try.sizeOf90 (by rfl) (by rfl) (by rfl) (by first | decide | exact Nat.le_of_ble_eq_true rfl | simp) ?_
      refine WS_store hF (i := 4) (by rfl) (by rfl) Try.sizeOf90 (by rfl) (by rfl) (by rfl) (by first | decide | exact Nat.le_of_ble_eq_true rfl | simp) ?_
      refine WS_nil ?_
      refine Then_normal ?_
      refine W_ret ?_
      refine Fin_ret [_, _] [(b4, _), (b5, _)] Try.results128 ⟨lv1 (by rfl) Try.isAgg90 (Mem.own1 2 (by rfl) (by rfl)), lv1 (by rfl) Try.isAgg90 (Mem.own1 4 (by rfl) (by rfl)), trivial⟩ ((SubP.pick 1 (by rfl) (SubP.pick 2 (by rfl) (SubP.nil))).hsub) ?_
      exact ⟨b4, b5, rfl, by rw [← l.af_end, ← l.bf_end]⟩
    ·
      refine WS_store hF (i := 2) (by rfl) (by rfl) Try.sizeOf90 (by rfl) (by rfl) (by rfl) (by first | decide | exact Nat.le_of_ble_eq_true rfl | simp) ?_
      refine WS_det hF (by rfl) (y_load1 (by rfl) Try.isAgg90 (Mem.own1 4 (by rfl) (by rfl))) ?_
      refine WS_store hF (i := 4) (by rfl) (by rfl) Try.sizeOf90 (by rfl) (by rfl) (by rfl) (by first | decide | exact Nat.le_of_ble_eq_true rfl | simp) ?_
      refine WS_nil ?_
      refine Then_normal ?_
      refine W_ret ?_
      refine Fin_ret [_, _] [(b4, _), (b5, _)] Try.results128 ⟨lv1 (by rfl) Try.isAgg90 (Mem.own1 2 (by rfl) (by rfl)), lv1 (by rfl) Try.isAgg90 (Mem.own1 4 (by rfl) (by rfl)), trivial⟩ ((SubP.pick 1 (by rfl) (SubP.pick 2 (by rfl) (SubP.nil))).hsub) ?_
      exact ⟨b4, b5, rfl, by rw [← l.af_end, ← l.bf_end]⟩
  · rintro c k G hk hj
    exact hj.elim
end Go.Proofs.Ythkimgfgpphgnaa.T
