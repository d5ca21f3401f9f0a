/- The law of what a tank holds, walked. -/
import Derived.Test.YtjekjehgmljbgaaDoorMb2
import Derived.Test.YtjekjehgmljbgaaDoorMb1
set_option linter.unusedVariables false
set_option linter.unusedSimpArgs false
/- What the tank can hold by the entries behind: the walk. -/
namespace Go.Proofs.YtjekjehgmljbgaaDoor.T
open Go.RowKit Go.Proofs Go.Eng
set_option maxRecDepth 100000
set_option maxHeartbeats 1000000
set_option linter.unusedVariables false
set_option linter.unusedSimpArgs false

theorem fa186_2 : ∀ b o w, (Instr.fieldAt 186 (.pointer (some ⟨b, o, none⟩)) 2).run Tryd.prog w = .ok (.pointer (some ⟨b, o + 2, none⟩)) w := fun b o w => by kernel_rfl

theorem sn_len (x : Sn) : x.cells.length = 2 := rfl
def Lg.af (l : Lg) (k j : Nat) : Sn := if l.es.length - k ≤ j then l.aft j else Sn.z
def Lg.bf (l : Lg) (k j : Nat) : Sn := if l.es.length - k ≤ j then l.ahd j else Sn.z
abbrev snRow (f : Nat → Sn) (n : Nat) : List Value := rowOf Sn.cells f n
theorem Lg.af_zero (l : Lg) : splice (snRow (fun _ => Sn.z) (l.es.length + 1)) (l.es.length * 2) [.int .i64 0, .int .i64 l.tk.full] = snRow (l.af 0) (l.es.length + 1) :=
  rowOf_splice sn_len (by omega) (by unfold Lg.af; rw [if_pos (by omega), l.aft_n]; rfl) fun j hj hne => by unfold Lg.af; rw [if_neg (by omega)]
theorem Lg.af_succ (l : Lg) {k : Nat} (hk : k < l.es.length) : splice (snRow (l.af k) (l.es.length + 1)) ((l.es.length - 1 - k) * 2) [.int .i64 (l.ahd (l.es.length - 1 - k)).lo, .int .i64 (min l.tk.full ((l.ahd (l.es.length - 1 - k)).hi + l.drip (l.es.length - 1 - k)))] = snRow (l.af (k + 1)) (l.es.length + 1) :=
  rowOf_splice sn_len (by omega) (by unfold Lg.af; rw [if_pos (by omega), l.aft_lt (by omega)]; rfl) fun j hj hne => by
    unfold Lg.af
    by_cases h : l.es.length - k ≤ j
    · rw [if_pos h, if_pos (by omega)]
    · rw [if_neg h, if_neg (by omega)]
theorem Lg.bf_zero (l : Lg) : snRow (fun _ => Sn.z) l.es.length = snRow (l.bf 0) l.es.length :=
  rowOf_congr _ fun j hj => by unfold Lg.bf; rw [if_neg (by omega)]
theorem Lg.bf_succ (l : Lg) {k : Nat} (hk : k < l.es.length) : splice (snRow (l.bf k) l.es.length) ((l.es.length - 1 - k) * 2) (l.ahd (l.es.length - 1 - k)).cells = snRow (l.bf (k + 1)) l.es.length :=
  rowOf_splice sn_len (by omega) (by unfold Lg.bf; rw [if_pos (by omega)]) fun j hj hne => by
    unfold Lg.bf
    by_cases h : l.es.length - k ≤ j
    · rw [if_pos h, if_pos (by omega)]
    · rw [if_neg h, if_neg (by omega)]
theorem Lg.af_end (l : Lg) : snRow (l.af l.es.length) (l.es.length + 1) = snRow l.aft (l.es.length + 1) := rowOf_congr _ fun j hj => by unfold Lg.af; rw [if_pos (by omega)]
theorem Lg.bf_end (l : Lg) : snRow (l.bf l.es.length) l.es.length = snRow l.ahd l.es.length := rowOf_congr _ fun j hj => by unfold Lg.bf; rw [if_pos (by omega)]
def BackV (l : Lg) (v : Value) (Hn : List Blk) : Prop :=
  ∃ ab bb, v = .tuple #[.slice (some ⟨ab, 0, none⟩) (l.es.length + 1) (l.es.length + 1), .slice (some ⟨bb, 0, none⟩) l.es.length l.es.length] ∧ Hn = [(ab, CB (snRow l.aft (l.es.length + 1)) 63), (bb, CB (snRow l.ahd l.es.length) 63)]
def backF (kind : Int) : FuncId := if kind = 1 then 174 else if kind = 2 then 173 else 176
theorem back_call (kind : Int) : ∀ args w, (callFunc (backF kind) args).run Tryd.prog w = .ok (.enter (backF kind) args) w := by
  unfold backF
  split
  · exact Tryd.call174
  · split
    · exact Tryd.call173
    · exact Tryd.call176
theorem back_cell (g : Nat) (l : Lg) (a : Option Addr) (cap : Nat) (ae : Option Addr) (cape : Nat) (k : Nat) (h : 1 ≤ k ∧ k ≤ 3) : (bookCells g l a cap ae cape)[7 + k * 3 + 2]? = some (.func (.func (backF (k : Int))) #[] #[]) := by
  obtain rfl | rfl | rfl : k = 1 ∨ k = 2 ∨ k = 3 := by omega
  · rfl
  · rfl
  · rfl
theorem backF_any (l : Lg) (i : Nat) (g og : Nat) (s : Sn) (w : World) (hok : l.Ok) (hi : i < l.es.length) (hG : Gg w g og l.tk) (hs : s.Sm) :
    Ct Tryd.prog (backF (l.e i).kind) #[.pointer (some ⟨g, og, none⟩), .agg (l.e i).size.cells.toArray, .agg s.cells.toArray] w fun v _ => v = .agg (l.tk.back (l.e i) s).cells.toArray := by
  have hz := hok.sm hi
  have hq := hok.size i hi
  have hkd := hok.kind i hi
  unfold backF Tk.back
  split
  · exact tless_any g og l.tk (l.e i).size s w hG hz hs
  · split
    · exact more_any g og l.tk (l.e i).size s w hG hz hs
    · unfold Tk.most at hq
      rw [if_pos (by omega)] at hq
      exact seen_any g og l.tk (l.e i).size s w hG hq
theorem infSpan : (Tryd.prog.info? 63).map (fun i => (i.zero, i.size, i.bytes)) = some (some (.agg #[.int .i64 0, .int .i64 0]), 2, 16) := by kernel_rfl

theorem back_any (bk : Nat) (l : Lg) (w : World) (hB : Bk w bk l) : Ct Tryd.prog 137 #[.pointer (some ⟨bk, 0, none⟩)] w (BackV l) := by
  have hok := hB.ok
  have hB0 := hB
  obtain ⟨_, g, a, cap, ae, cape, h1, hG, h3⟩ := hB
  have hn := hok.n12
  have ⟨_, a2, cap2, hg, _⟩ := hG
  have hF := wide_wide
  refine Ct_start (args := [_]) Tryd.func137 (by rfl) Tryd.ntmps137 (by rfl) ?_
  refine W_seq ?_
  refine W_region_lit (fun ds => ?_)
  refine WS_new hF (by rfl) (y_box (by rfl)) (fun b1 => ?_)
  refine WS_new hF (by rfl) (y_alloc Tryd.zeroValue179 (by rfl)) (fun b2 => ?_)
  refine WS_new hF (by rfl) (y_alloc Tryd.zeroValue179 (by rfl)) (fun b3 => ?_)
  refine WS_nil ?_
  refine Then_normal ?_
  refine W_seq ?_
  refine W_region_lit (fun ds => ?_)
  refine WS_det hF (by rfl) (y_load1 (by rfl) Tryd.isAgg178 (Mem.own1 2 (by rfl) (by rfl))) ?_
  refine WS_det hF (by rfl) (by first | exact y_nilCheck (by rfl) | exact y_nilCheckF (by rfl)) ?_
  refine WS_det hF (by rfl) (y_fieldAddr (by rfl) fa189_1) ?_
  refine WS_det hF (by rfl) (y_fieldAddr (by rfl) fa66_2) ?_
  refine WS_det hF (by rfl) (y_load1 (by rfl) Tryd.isAgg64 (by first | exact Mem.old1 (by assumption) | exact Mem.oldAt1 (by assumption) (by rfl) | exact Mem.old (by assumption) | exact Mem.oldAtL1 (by assumption) (by rfl) (by rfl))) ?_
  refine WS_det hF (by rfl) (y_len (by rfl) Tryd.runUnderlying64) ?_
  refine WS_det hF (by rfl) (y_assign (c := .int .i64 _) (by rfl)) ?_
  refine WS_nil ?_
  refine Then_normal ?_
  refine W_seq ?_
  apply W_drawMT 6 hF Trydmixed [Pre.dep 1000000 b2 _ 15 _ _] [1000000] [1000000] (by rfl) (by decide +kernel) (by decide) (fun _ _ h => h.perm (perm_erase (i := 1) (by rfl)).symm)
  intro ds
  refine P_det (by rfl) (Over_out (by rfl) (Over_nil (y_move (c := .int .i64 _) (by rfl)))) ?_
  refine P_det (by rfl) (Over_out (by rfl) (Over_nil (y_add (by rfl) (by rfl) (by unfold I64; omega)))) ?_
  refine P_new (by rfl) (by rfl) (Over_out (by rfl) (Over_nil (y_makeSlice (n := l.es.length + 1) (by rfl) (by rfl) (by omega) (by omega) Tryd.underlying179 infSpan (by rfl) (by rfl) (by omega) (by omega)))) ?_
  refine P_det (by rfl) (Over_out (by rfl) (Over_out (by rfl) (Over_nil (y_move (c := .int .i64 _) (by rfl))))) ?_
  refine P_new (by rfl) (by rfl) (Over_out (by rfl) (Over_out (by rfl) (Over_nil (y_makeSlice (n := l.es.length) (by rfl) (by rfl) (by omega) (by omega) Tryd.underlying179 infSpan (by rfl) (by rfl) (by omega) (by omega))))) ?_
  refine P_st 1000000 2 (by rfl) (by rfl) (by rfl) (by rfl) (by rfl) (Over_out (by rfl) (Over_in (by rfl) (Over_nil (by rintro _ _ ⟨b6, rfl, rfl⟩; exact (st_preD (fun _ => by rfl) (by rfl) (by rfl) Tryd.sizeOf179 (by rfl) (by rfl) (by first | decide | exact Nat.le_of_ble_eq_true rfl | simp)))))) ?_
  refine PW_end (by rfl) ?_
  refine OverAll_cons (fun w17 l17 => ?_)
  refine OverAll_cons (fun w15 l15 => ?_)
  refine OverAll_cons (fun w1000000 l1000000 => ?_)
  refine OverAll_nil ?_
  rintro ⟨⟨⟨-, h17⟩, h15⟩, h1000000⟩
  obtain ⟨b4, rfl, rfl⟩ := h15
  obtain ⟨b5, rfl, rfl⟩ := h17
  obtain rfl := h1000000
  refine WS_store hF (i := 3) (by rfl) (by rfl) Tryd.sizeOf179 (by rfl) (by rfl) (by rfl) (by first | decide | exact Nat.le_of_ble_eq_true rfl | simp) ?_
  refine WS_nil ?_
  refine Then_normal ?_
  refine W_seq ?_
  apply W_draw1 hF Trydmixed [1000000] (i := 1) (by rfl) (by decide +kernel)
  intro ds
  refine P_det (by rfl) (Over_out (by rfl) (Over_nil (y_load1 (by rfl) Tryd.isAgg179 (Mem.own1 0 (by rfl) (by rfl))))) ?_
  refine P_det (by rfl) (Over_out (by rfl) (Over_nil (y_move (c := .int .i64 _) (by rfl)))) ?_
  refine P_det (by rfl) (Over_out (by rfl) (Over_nil (y_load1 (by rfl) Tryd.isAgg178 (Mem.own1 3 (by rfl) (by rfl))))) ?_
  refine P_det (by rfl) (Over_out (by rfl) (Over_nil (by first | exact y_nilCheck (by rfl) | exact y_nilCheckF (by rfl)))) ?_
  refine P_det (by rfl) (Over_out (by rfl) (Over_nil (y_fieldAddr (by rfl) fa189_0))) ?_
  refine P_det (by rfl) (Over_out (by rfl) (Over_nil (y_load1 (by rfl) Tryd.isAgg182 (by first | exact Mem.old1 (by assumption) | exact Mem.oldAt1 (by assumption) (by rfl) | exact Mem.old (by assumption) | exact Mem.oldAtL1 (by assumption) (by rfl) (by rfl))))) ?_
  refine P_det (by rfl) (Over_out (by rfl) (Over_nil (by first | exact y_nilCheck (by rfl) | exact y_nilCheckF (by rfl)))) ?_
  refine P_det (by rfl) (Over_out (by rfl) (Over_nil (y_fieldAddr (by rfl) fa191_1))) ?_
  refine P_det (by rfl) (Over_out (by rfl) (Over_nil (y_load1 (by rfl) Tryd.isAgg3 (by first | exact Mem.old1 (by assumption) | exact Mem.oldAt1 (by assumption) (by rfl) | exact Mem.old (by assumption) | exact Mem.oldAtL1 (by assumption) (by rfl) (by rfl))))) ?_
  refine P_det (by rfl) (Over_out (by rfl) (Over_nil (y_buildL bd63_1 (by rfl)))) ?_
  refine P_det (by rfl) (Over_out (by rfl) (Over_nil (y_index (k := l.es.length) (by rfl) (by rfl) (by first | rfl | omega) (by first | decide | omega) Tryd.runUnderlying179 Tryd.sizeOf63))) ?_
  refine P_st 1000000 0 (by rfl) (by rfl) (by rfl) (by rfl) (by rfl) (Over_nil (st_pre (fun _ => by rfl) (fun _ => by rfl) Tryd.sizeOf63 (by rfl) (by rfl) (by show 0 + l.es.length * 2 + 2 ≤ (snRow (fun _ => Sn.z) (l.es.length + 1)).length; rw [rowOf_len sn_len]; omega))) ?_
  refine PW_end (by rfl) ?_
  refine OverAll_cons (fun w1000000 l1000000 => ?_)
  refine OverAll_nil ?_
  rintro ⟨-, h1000000⟩
  obtain rfl := h1000000
  refine Then_normal ?_
  refine W_seq ?_
  refine W_seq ?_
  refine W_region_lit (fun ds => ?_)
  refine WS_det hF (by rfl) (y_load1 (by rfl) Tryd.isAgg178 (Mem.own1 4 (by rfl) (by rfl))) ?_
  refine WS_det hF (by rfl) (by first | exact y_nilCheck (by rfl) | exact y_nilCheckF (by rfl)) ?_
  refine WS_det hF (by rfl) (y_fieldAddr (by rfl) fa189_1) ?_
  refine WS_det hF (by rfl) (y_fieldAddr (by rfl) fa66_2) ?_
  refine WS_det hF (by rfl) (y_load1 (by rfl) Tryd.isAgg64 (by first | exact Mem.old1 (by assumption) | exact Mem.oldAt1 (by assumption) (by rfl) | exact Mem.old (by assumption) | exact Mem.oldAtL1 (by assumption) (by rfl) (by rfl))) ?_
  refine WS_gen hF (by rfl) (y_callL (by rfl) (by rfl) Tryd.call166 (fun w hw => backward_any ae l.es.length cape w)) ?_
  rintro _ _ ⟨bx, rfl, rfl⟩
  refine WS_nil ?_
  refine Then_normal ?_
  refine W_block ?_
  refine W_range hF (by rfl) (encs := (fun k => [.int .i64 ((l.es.length : Int) - 1 - (k : Int)), .agg (l.es.getD (l.es.length - 1 - k) En.z).cells.toArray])) (N := l.es.length) (H0 := [(bx, CB [.slice ae l.es.length cape] 64)]) (G0 := [(b4, _), (b2, _), (b5, _), (b3, _), (b1, _)]) (fun k G => G = [(b4, CB (snRow (l.af k) (l.es.length + 1)) 63), (b2, CB [.slice (some ⟨b4, 0, none⟩) (l.es.length + 1) (l.es.length + 1)] 179), (b5, CB (snRow (l.bf k) l.es.length) 63), (b3, CB [.slice (some ⟨b5, 0, none⟩) l.es.length l.es.length] 179), (b1, CB [.pointer (some ⟨bk, 0, none⟩)] 178)]) (fun _ _ _ => False) (by rfl) Tryd.call192 (by rfl) (fun _ => rfl) (fun ds => backward_it _ _ _ bx l.es.length ae cape l.es (by omega) h3) (by rw [← l.bf_zero, ← l.af_zero]; rw [Nat.zero_add]; rfl) (HSub.refl) ?_ ?_ ?_
  · rintro k hk G hj out lpr R R'
    have hF := wide_inRound wide_wide lpr
    subst hj
    have hi : l.es.length - 1 - k < l.es.length := by omega
    obtain ⟨kk, hkk⟩ : ∃ kk : Nat, (l.e (l.es.length - 1 - k)).kind = (kk : Int) := Int.eq_ofNat_of_zero_le (by have := hok.kind _ hi; omega)
    have hkd := hok.kind _ hi
    have hab := hok.aft_bd (i := l.es.length - 1 - k + 1) (by omega)
    have hhb := hok.ahd_bd hi
    have hdb := hok.drip_bd hi
    have hafe : l.af k (l.es.length - 1 - k + 1) = l.aft (l.es.length - 1 - k + 1) := by unfold Lg.af; rw [if_pos (by omega)]
    have hbfe : l.bf (k + 1) (l.es.length - 1 - k) = l.ahd (l.es.length - 1 - k) := by unfold Lg.bf; rw [if_pos (by omega)]
    have hs1 := l.bf_succ hk
    have hs2 := l.af_succ hk
    rw [← Nat.zero_add ((l.es.length - 1 - k) * 2)] at hs1 hs2
    have hfull := hok.tk.full_bd
    have hkk2 : (l.es.getD (l.es.length - 1 - k) En.z).kind = (kk : Int) := hkk
    have hik : (l.es.length : Int) - 1 - (k : Int) = ((l.es.length - 1 - k : Nat) : Int) := by omega
    refine W_seq ?_
    refine W_region_lit (fun ds => ?_)
    refine WS_det hF (by rfl) (y_assign (c := .int .i64 _) (by rfl)) ?_
    refine WS_nil ?_
    refine Then_normal ?_
    refine W_region_lit (fun ds => ?_)
    refine WS_new hF (by rfl) (y_alloc Tryd.zeroValue77 (by rfl)) (fun b7 => ?_)
    refine WS_store hF (i := 0) (by rfl) (by rfl) Tryd.sizeOf77 (by rfl) (by rfl) (by rfl) (by first | decide | exact Nat.le_of_ble_eq_true rfl | simp) ?_
    refine WS_nil ?_
    refine Then_normal ?_
    refine ⟨[_, _, _, _, _, _], rfl, ?_⟩
    refine W_block ?_
    refine W_seq ?_
    apply W_draw1 hF Trydmixed [1000000] (i := 3) (by rfl) (by decide +kernel)
    intro ds
    refine P_det (by rfl) (Over_out (by rfl) (Over_nil (y_load1 (by rfl) Tryd.isAgg179 (Mem.own1 3 (by rfl) (by rfl))))) ?_
    refine P_det (by rfl) (Over_out (by rfl) (Over_nil (y_move (c := .int .i64 _) (by rfl)))) ?_
    refine P_det (by rfl) (Over_out (by rfl) (Over_nil (y_load1 (by rfl) Tryd.isAgg178 (Mem.own1 4 (by rfl) (by rfl))))) ?_
    refine P_det (by rfl) (Over_out (by rfl) (Over_nil (y_fieldAddr (by rfl) fa77_1))) ?_
    refine P_det (by rfl) (Over_out (by rfl) (Over_nil (y_load1 (by rfl) Tryd.isAgg3 (Mem.own1 0 (by rfl) (by rfl))))) ?_
    refine P_det (by rfl) (Over_out (by rfl) (Over_nil (by first | exact y_nilCheck (by rfl) | exact y_nilCheckF (by rfl)))) ?_
    refine P_det (by rfl) (Over_out (by rfl) (Over_nil (y_fieldAddr (by rfl) fa189_2))) ?_
    refine P_det (by rfl) (Over_out (by rfl) (Over_nil (y_indexA (k := kk) (by rfl) (by rfl) (by first | rfl | omega) (by first | decide | omega) Tryd.runUnderlying187 Tryd.sizeOf186))) ?_
    refine P_det (by rfl) (Over_out (by rfl) (Over_nil (y_fieldAddr (by rfl) fa186_2))) ?_
    refine P_det (by rfl) (Over_out (by rfl) (Over_nil (y_load1 (by rfl) Tryd.isAgg184 (Mem.oldAtL1 (o := 0) (p := 0 + 7 + kk * 3 + 2) h1 (by simp) (by rw [show 0 + 7 + kk * 3 + 2 - 0 = 7 + kk * 3 + 2 by omega]; exact back_cell g l a cap ae cape kk (by omega)))))) ?_
    refine P_det (by rfl) (Over_out (by rfl) (Over_nil (y_load1 (by rfl) Tryd.isAgg178 (Mem.own1 4 (by rfl) (by rfl))))) ?_
    refine P_det (by rfl) (Over_out (by rfl) (Over_nil (by first | exact y_nilCheck (by rfl) | exact y_nilCheckF (by rfl)))) ?_
    refine P_det (by rfl) (Over_out (by rfl) (Over_nil (y_fieldAddr (by rfl) fa189_0))) ?_
    refine P_det (by rfl) (Over_out (by rfl) (Over_nil (y_load1 (by rfl) Tryd.isAgg182 (by first | exact Mem.old1 (by assumption) | exact Mem.oldAt1 (by assumption) (by rfl) | exact Mem.old (by assumption) | exact Mem.oldAtL1 (by assumption) (by rfl) (by rfl))))) ?_
    refine P_det (by rfl) (Over_out (by rfl) (Over_nil (y_fieldAddr (by rfl) fa77_2))) ?_
    refine P_det (by rfl) (Over_out (by rfl) (Over_nil (y_loadN (by rfl) Tryd.isAgg63 Tryd.sizeOf63 (Mem.own (us := [.int .i64 _, .int .i64 _]) 0 (by rfl) (by rfl)) (by rfl)))) ?_
    refine P_det (by rfl) (Over_out (by rfl) (Over_nil (y_load1 (by rfl) Tryd.isAgg179 (Mem.own1 2 (by rfl) (by rfl))))) ?_
    refine P_det (by rfl) (Over_out (by rfl) (Over_nil (y_move (c := .int .i64 _) (by rfl)))) ?_
    refine P_det (by rfl) (Over_out (by rfl) (Over_nil (y_add (by rfl) (by rfl) (by unfold I64; omega)))) ?_
    refine P_det (by rfl) (Over_out (by rfl) (Over_nil (y_index (k := l.es.length - 1 - k + 1) (by rfl) (by rfl) (by first | rfl | omega) (by first | decide | omega) Tryd.runUnderlying179 Tryd.sizeOf63))) ?_
    refine P_det (by rfl) (Over_out (by rfl) (Over_nil (y_loadN (by rfl) Tryd.isAgg63 Tryd.sizeOf63 (Mem.row sn_len 1 (by rfl) (k := l.es.length - 1 - k + 1) (by omega) hafe (by omega)) (by rfl)))) ?_
    refine P_det (by rfl) (Over_out (by rfl) (Over_nil (y_callL (by rfl) (by rfl) (back_call _) (fun w hw => by rw [← hkk]; exact backF_any l (l.es.length - 1 - k) g 0 (l.aft (l.es.length - 1 - k + 1)) w hok (by omega) (hG.st w hw) (by unfold Sn.Sm; omega))))) ?_
    refine P_det (by rfl) (Over_out (by rfl) (Over_nil (y_index (k := l.es.length - 1 - k) (by rfl) (by rfl) (by first | rfl | omega) (by first | decide | omega) Tryd.runUnderlying179 Tryd.sizeOf63))) ?_
    refine P_st 1000000 0 (by rfl) (by rfl) (by rfl) (by rfl) (by rfl) (Over_nil (st_pre (fun _ => by rfl) (fun _ => by rfl) Tryd.sizeOf63 (by rfl) (by rfl) (by show 0 + (l.es.length - 1 - k) * 2 + 2 ≤ (snRow (l.bf k) l.es.length).length; rw [rowOf_len sn_len]; omega))) ?_
    refine PW_end (by rfl) ?_
    refine OverAll_cons (fun w1000000 l1000000 => ?_)
    refine OverAll_nil ?_
    rintro ⟨-, h1000000⟩
    obtain rfl := h1000000
    refine Then_normal ?_
    refine W_H (congrArg (fun x => (b5, CB x 63) :: _) hs1) ?_
    apply W_draw1 hF Trydmixed [1000000] (i := 2) (by rfl) (by decide +kernel)
    intro ds
    refine P_det (by rfl) (Over_out (by rfl) (Over_nil (y_load1 (by rfl) Tryd.isAgg179 (Mem.own1 2 (by rfl) (by rfl))))) ?_
    refine P_det (by rfl) (Over_out (by rfl) (Over_nil (y_move (c := .int .i64 _) (by rfl)))) ?_
    refine P_det (by rfl) (Over_out (by rfl) (Over_nil (y_load1 (by rfl) Tryd.isAgg179 (Mem.own1 3 (by rfl) (by rfl))))) ?_
    refine P_det (by rfl) (Over_out (by rfl) (Over_nil (y_move (c := .int .i64 _) (by rfl)))) ?_
    refine P_det (by rfl) (Over_out (by rfl) (Over_nil (y_index (k := l.es.length - 1 - k) (by rfl) (by rfl) (by first | rfl | omega) (by first | decide | omega) Tryd.runUnderlying179 Tryd.sizeOf63))) ?_
    refine P_det (by rfl) (Over_out (by rfl) (Over_nil (y_fieldAddr (by rfl) fa63_0))) ?_
    refine P_det (by rfl) (Over_out (by rfl) (Over_nil (y_load1 (by rfl) Tryd.isAgg3 (Mem.rowAt sn_len 0 (by rfl) (k := l.es.length - 1 - k) (j := 0) (by omega) hbfe (by rfl) (by omega))))) ?_
    refine P_det (by rfl) (Over_out (by rfl) (Over_nil (y_load1 (by rfl) Tryd.isAgg178 (Mem.own1 4 (by rfl) (by rfl))))) ?_
    refine P_det (by rfl) (Over_out (by rfl) (Over_nil (by first | exact y_nilCheck (by rfl) | exact y_nilCheckF (by rfl)))) ?_
    refine P_det (by rfl) (Over_out (by rfl) (Over_nil (y_fieldAddr (by rfl) fa189_0))) ?_
    refine P_det (by rfl) (Over_out (by rfl) (Over_nil (y_load1 (by rfl) Tryd.isAgg182 (by first | exact Mem.old1 (by assumption) | exact Mem.oldAt1 (by assumption) (by rfl) | exact Mem.old (by assumption) | exact Mem.oldAtL1 (by assumption) (by rfl) (by rfl))))) ?_
    refine P_det (by rfl) (Over_out (by rfl) (Over_nil (by first | exact y_nilCheck (by rfl) | exact y_nilCheckF (by rfl)))) ?_
    refine P_det (by rfl) (Over_out (by rfl) (Over_nil (y_fieldAddr (by rfl) fa191_1))) ?_
    refine P_det (by rfl) (Over_out (by rfl) (Over_nil (y_load1 (by rfl) Tryd.isAgg3 (by first | exact Mem.old1 (by assumption) | exact Mem.oldAt1 (by assumption) (by rfl) | exact Mem.old (by assumption) | exact Mem.oldAtL1 (by assumption) (by rfl) (by rfl))))) ?_
    refine P_det (by rfl) (Over_out (by rfl) (Over_nil (y_load1 (by rfl) Tryd.isAgg179 (Mem.own1 3 (by rfl) (by rfl))))) ?_
    refine P_det (by rfl) (Over_out (by rfl) (Over_nil (y_move (c := .int .i64 _) (by rfl)))) ?_
    refine P_det (by rfl) (Over_out (by rfl) (Over_nil (y_index (k := l.es.length - 1 - k) (by rfl) (by rfl) (by first | rfl | omega) (by first | decide | omega) Tryd.runUnderlying179 Tryd.sizeOf63))) ?_
    refine P_det (by rfl) (Over_out (by rfl) (Over_nil (y_fieldAddr (by rfl) fa63_1))) ?_
    refine P_det (by rfl) (Over_out (by rfl) (Over_nil (y_load1 (by rfl) Tryd.isAgg3 (Mem.rowAt sn_len 0 (by rfl) (k := l.es.length - 1 - k) (j := 1) (by omega) hbfe (by rfl) (by omega))))) ?_
    refine P_det (by rfl) (Over_out (by rfl) (Over_nil (y_load1 (by rfl) Tryd.isAgg178 (Mem.own1 4 (by rfl) (by rfl))))) ?_
    refine P_det (by rfl) (Over_out (by rfl) (Over_nil (y_move (c := .int .i64 _) (by rfl)))) ?_
    refine P_det (by rfl) (Over_out (by rfl) (Over_nil (y_callL (by rfl) (by rw [← hik]; rfl) Tryd.call167 (fun w hw => drip_any bk l (l.es.length - 1 - k) w (hB0.st w hw) (by omega))))) ?_
    refine P_det (by rfl) (Over_out (by rfl) (Over_nil (y_add (by rfl) (by rfl) (by unfold I64; omega)))) ?_
    refine P_det (by rfl) (Over_out (by rfl) (Over_nil (y_min (by rfl) (by rfl)))) ?_
    refine P_det (by rfl) (Over_out (by rfl) (Over_nil (y_buildL bd63_0_1 (by rfl)))) ?_
    refine P_det (by rfl) (Over_out (by rfl) (Over_nil (y_index (k := l.es.length - 1 - k) (by rfl) (by rfl) (by first | rfl | omega) (by first | decide | omega) Tryd.runUnderlying179 Tryd.sizeOf63))) ?_
    refine P_st 1000000 0 (by rfl) (by rfl) (by rfl) (by rfl) (by rfl) (Over_nil (st_pre (fun _ => by rfl) (fun _ => by rfl) Tryd.sizeOf63 (by rfl) (by rfl) (by show 0 + (l.es.length - 1 - k) * 2 + 2 ≤ (snRow (l.af k) (l.es.length + 1)).length; rw [rowOf_len sn_len]; omega))) ?_
    refine PW_end (by rfl) ?_
    refine OverAll_cons (fun w1000000 l1000000 => ?_)
    refine OverAll_nil ?_
    rintro ⟨-, h1000000⟩
    obtain rfl := h1000000
    refine InB_normal ?_
    refine ⟨[_, _, _, _, _], (SubP.hsub (SubP.pick 0 (by rfl) (SubP.pick 2 (by rfl) (SubP.pick 0 (by rfl) (SubP.pick 1 (by rfl) (SubP.pick 1 (by rfl) (by exact SubP.drop (SubP.refl)))))))), ?_⟩
    exact congrArg (fun x => (b4, CB x 63) :: _) hs2
  · rintro G hj
    subst hj
    refine InB_normal ?_
    refine Then_normal ?_
    refine W_seq ?_
    apply W_drawZ 2 1 hF Trydmixed [] [] [] (by rfl) (by decide +kernel) (by decide) (by rfl) (by rfl) (by rfl) (by rfl) (by rfl) Tryd.isAgg179 HSub.refl
    intro ds
    refine P_det (by rfl) (Over_nil (y_load1 (by rfl) Tryd.isAgg179 (Mem.own1 2 (by rfl) (by rfl)))) ?_
    refine P_det (by rfl) (Over_nil (y_load1 (by rfl) Tryd.isAgg179 (Mem.own1 4 (by rfl) (by rfl)))) ?_
    refine PW_end (by rfl) ?_
    refine OverAll_nil ?_
    rintro -
    refine ⟨?_, fun xz => ?_⟩
    ·
      refine WS_store hF (i := 2) (by rfl) (by rfl) Tryd.sizeOf179 (by rfl) (by rfl) (by rfl) (by first | decide | exact Nat.le_of_ble_eq_true rfl | simp) ?_
      refine WS_store hF (i := 4) (by rfl) (by rfl) Tryd.sizeOf179 (by rfl) (by rfl) (by rfl) (by first | decide | exact Nat.le_of_ble_eq_true rfl | simp) ?_
      refine WS_nil ?_
      refine Then_normal ?_
      refine W_ret ?_
      refine Fin_ret [_, _] [(b4, _), (b5, _)] Tryd.results137 ⟨lv1 (by rfl) Tryd.isAgg179 (Mem.own1 2 (by rfl) (by rfl)), lv1 (by rfl) Tryd.isAgg179 (Mem.own1 4 (by rfl) (by rfl)), trivial⟩ ((SubP.hsub (SubP.pick 1 (by rfl) (SubP.pick 2 (by rfl) (SubP.nil))))) ?_
      exact ⟨b4, b5, rfl, by rw [← l.af_end, ← l.bf_end]⟩
    ·
      refine WS_store hF (i := 2) (by rfl) (by rfl) Tryd.sizeOf179 (by rfl) (by rfl) (by rfl) (by first | decide | exact Nat.le_of_ble_eq_true rfl | simp) ?_
      refine WS_det hF (by rfl) (y_load1 (by rfl) Tryd.isAgg179 (Mem.own1 4 (by rfl) (by rfl))) ?_
      refine WS_store hF (i := 4) (by rfl) (by rfl) Tryd.sizeOf179 (by rfl) (by rfl) (by rfl) (by first | decide | exact Nat.le_of_ble_eq_true rfl | simp) ?_
      refine WS_nil ?_
      refine Then_normal ?_
      refine W_ret ?_
      refine Fin_ret [_, _] [(b4, _), (b5, _)] Tryd.results137 ⟨lv1 (by rfl) Tryd.isAgg179 (Mem.own1 2 (by rfl) (by rfl)), lv1 (by rfl) Tryd.isAgg179 (Mem.own1 4 (by rfl) (by rfl)), trivial⟩ ((SubP.hsub (SubP.pick 1 (by rfl) (SubP.pick 2 (by rfl) (SubP.nil))))) ?_
      exact ⟨b4, b5, rfl, by rw [← l.af_end, ← l.bf_end]⟩
  · rintro c k G hk hj
    exact hj.elim
end Go.Proofs.YtjekjehgmljbgaaDoor.T

/- What is known of a log: the walk of asked. -/
namespace Go.Proofs.YtjekjehgmljbgaaDoor.T
open Go.RowKit Go.Proofs Go.Eng
set_option maxRecDepth 100000
set_option maxHeartbeats 1000000
set_option linter.unusedVariables false
set_option linter.unusedSimpArgs false

theorem bd181_0 {x0 : Option Addr} : ∀ w, (Instr.build 181 #[(0, .pointer x0)]).run Tryd.prog w = .ok (.agg #[.pointer x0, .slice none 0 0, .slice none 0 0, .slice none 0 0]) w := fun w => by kernel_rfl
theorem bs179_1_0 {x0_0 : Int} {x0_1 : Int} : ∀ w, (Instr.buildSlice 179 1 #[(0, .agg #[.int .i64 x0_0, .int .i64 x0_1])]).run Tryd.prog w = .ok (.slice (some ⟨w.heap.size, 0, none⟩) 1 1) (w.alloc (CB [.int .i64 x0_0, .int .i64 x0_1] 63)) := fun w => by kernel_rfl
theorem fa181_1 : ∀ b o w, (Instr.fieldAt 181 (.pointer (some ⟨b, o, none⟩)) 1).run Tryd.prog w = .ok (.pointer (some ⟨b, o + 1, none⟩)) w := fun b o w => by kernel_rfl
theorem fa181_2 : ∀ b o w, (Instr.fieldAt 181 (.pointer (some ⟨b, o, none⟩)) 2).run Tryd.prog w = .ok (.pointer (some ⟨b, o + 2, none⟩)) w := fun b o w => by kernel_rfl
theorem fa181_3 : ∀ b o w, (Instr.fieldAt 181 (.pointer (some ⟨b, o, none⟩)) 3).run Tryd.prog w = .ok (.pointer (some ⟨b, o + 3, none⟩)) w := fun b o w => by kernel_rfl

def Lg.holdsB (l : Lg) : Bool := (List.range (l.es.length + 1)).all fun k => !(l.hold k).empty
theorem Lg.holdsB_iff (l : Lg) : l.holdsB = true ↔ ∀ k, k ≤ l.es.length → (l.hold k).empty = false := by
  unfold Lg.holdsB
  simp only [List.all_eq_true, List.mem_range, Bool.not_eq_true']
  constructor
  · intro h k hk; exact h k (by omega)
  · intro h k hk; exact h k (by omega)
def Lg.aerr (l : Lg) : Int := if l.err = 0 then if l.holdsB then 0 else 8 else l.err
theorem Lg.steps_le (l : Lg) : ∀ m k, l.steps k m ≤ m + 1
  | 0, _ => Nat.le_refl _
  | m + 1, k => by
    have := Lg.steps_le l m (k + 1)
    unfold Lg.steps
    split <;> omega
theorem Lg.steps_full (l : Lg) : ∀ m k, (∀ j, k ≤ j → j < k + l.steps k m → (l.hold j).empty = false) → l.steps k m = m + 1
  | 0, _, _ => rfl
  | m + 1, k, h => by
    have hk := h k (Nat.le_refl _) (by have := l.steps_pos k (m + 1); omega)
    rw [l.steps_more hk] at h ⊢
    rw [Lg.steps_full l m (k + 1) fun j h1 h2 => h j (by omega) (by omega)]
    omega
theorem Lg.times_le (l : Lg) : l.times ≤ l.es.length + 1 := l.steps_le _ _
theorem Lg.times_full (l : Lg) (h : ∀ j, j < l.times → (l.hold j).empty = false) : l.times = l.es.length + 1 := l.steps_full _ _ fun j _ h2 => h j (by unfold Lg.times; omega)
def knownCells (bk fb : Nat) (capf : Nat) (ab bb n : Nat) : List Value := [.pointer (some ⟨bk, 0, none⟩), .slice (some ⟨fb, 0, none⟩) (n + 1) capf, .slice (some ⟨ab, 0, none⟩) (n + 1) (n + 1), .slice (some ⟨bb, 0, none⟩) n n]
/-- The blocks of what is known. -/
def KB (l : Lg) (a : Option Addr) (cap : Nat) (ae : Option Addr) (cape : Nat) (kb : Nat) (Hn : List Blk) : Prop :=
  ∃ bk g fb capf junk ab bb, Hn = [(kb, CB (knownCells bk fb capf ab bb l.es.length) 181), (fb, CB (snRow l.hold (l.es.length + 1) ++ junk) 63), (ab, CB (snRow l.aft (l.es.length + 1)) 63), (bb, CB (snRow l.ahd l.es.length) 63), (bk, CB (bookCells g l a cap ae cape) 189), (g, CB (gaugeCells l.tk a cap) 191)]
def AskV (l : Lg) (a : Option Addr) (cap : Nat) (ae : Option Addr) (cape : Nat) (v : Value) (Hn : List Blk) : Prop :=
  ∃ p, v = .tuple #[.pointer p, .int .i64 l.aerr] ∧ (l.aerr = 0 → ∃ kb, p = some ⟨kb, 0, none⟩ ∧ KB l a cap ae cape kb Hn) ∧ (l.aerr ≠ 0 → Hn = [])
theorem Tk.entsB_get (t : Tk) : ∀ (es : List En) (day : Int), t.entsB day es = true → ∀ k, k < es.length → t.entB (if k = 0 then day else (es.getD (k - 1) En.z).day) (es.getD k En.z) = true
  | [], _, _, k, hk => by simp at hk
  | x :: es, day, h, k, hk => by
    unfold Tk.entsB at h
    rw [Bool.and_eq_true] at h
    cases k with
    | zero => simpa using h.1
    | succ k =>
      have := Tk.entsB_get t es x.day h.2 k (by simpa using hk)
      cases k with
      | zero => simpa using this
      | succ k => simpa using this
theorem Lg.ok_of (l : Lg) (h : l.err = 0) : l.Ok := by
  unfold Lg.err at h
  split at h
  · rename_i ht
    split at h
    · rename_i hl
      unfold Lg.okB at hl
      simp only [Bool.and_eq_true, decide_eq_true_eq] at hl
      obtain ⟨⟨h1, h2⟩, h3⟩ := hl
      have hg := l.tk.entsB_get l.es 0 h3
      have hd : ∀ k, k < l.es.length → inB (l.dayAt k) 3652 [(l.e k).day] = true ∧ inB 1 3 [(l.e k).kind] = true ∧ (l.e k).size.inB (l.tk.most (l.e k).kind) = true := fun k hk => by
        have := hg k hk
        unfold Tk.entB at this
        simp only [Bool.and_eq_true] at this
        exact ⟨this.1.1, this.1.2, this.2⟩
      have hday : ∀ k, k < l.es.length → 0 ≤ l.dayAt k ∧ l.dayAt k ≤ (l.e k).day ∧ (l.e k).day ≤ 3652 := by
        intro k
        induction k with
        | zero => intro hk; have := inB1.1 (hd 0 hk).1; exact ⟨Int.le_refl _, this⟩
        | succ k ih =>
          intro hk
          have h4 := inB1.1 (hd (k + 1) hk).1
          have h5 := ih (by omega)
          refine ⟨?_, h4⟩
          show 0 ≤ (l.e (k + 1 - 1)).day
          rw [Nat.add_sub_cancel]; omega
      refine ⟨Tk.ok_iff.1 ht, h1, h2, fun k hk => ?_, fun k hk => ?_, fun k hk => inB1.1 (hd k hk).2.1, fun k hk => (hd k hk).2.2⟩
      · have := hday k hk; omega
      · have := (hday (k + 1) hk).2.1
        exact this
    · cases h
  · cases h

theorem asked_any (l : Lg) (a : Option Addr) (cap : Nat) (ae : Option Addr) (cape : Nat) (w : World) (hn : l.tk.n ≤ 1000000) (hx : Ints w a l.tk.n cap l.tk.pints) (he : Ens w ae l.es.length cape l.es) :
    Ct Tryd.prog 110 #[.agg #[.slice a l.tk.n cap, .int .i64 l.tk.leak, .int .i64 l.tk.foot, .int .i64 l.start.lo, .int .i64 l.start.hi, .slice ae l.es.length cape]] w (AskV l a cap ae cape) := by
  have hF := wide_wide
  refine Ct_start (args := [_]) Tryd.func110 (by rfl) Tryd.ntmps110 (by rfl) ?_
  refine W_seq ?_
  refine W_region_lit (fun ds => ?_)
  refine WS_new hF (by rfl) (y_box (by rfl)) (fun b1 => ?_)
  refine WS_new hF (by rfl) (y_alloc Tryd.zeroValue174 (by rfl)) (fun b2 => ?_)
  refine WS_new hF (by rfl) (y_alloc Tryd.zeroValue30 (by rfl)) (fun b3 => ?_)
  refine WS_nil ?_
  refine Then_normal ?_
  refine W_seq ?_
  refine W_region_lit (fun ds => ?_)
  refine WS_det hF (by rfl) (y_loadN (by rfl) Tryd.isAgg66 Tryd.sizeOf66 (Mem.own (us := [.slice _ _ _, .int .i64 _, .int .i64 _, .int .i64 _, .int .i64 _, .slice _ _ _]) 2 (by rfl) (by rfl)) (by rfl)) ?_
  refine WS_gen hF (by rfl) (y_callL (by rfl) (by rfl) Tryd.call116 (fun w hw => opened_any l a cap ae cape w hn (hx.st w hw) (he.st w hw))) ?_
  rintro _ Hg ⟨p, rfl, hg1, hg2⟩
  refine WS_det hF (by rfl) (y_move (c := .tuple _) (by rfl)) ?_
  refine WS_det hF (by rfl) (y_extract (c := .pointer _) (by rfl) (by rfl)) ?_
  refine WS_det hF (by rfl) (y_extract (c := .int .i64 _) (by rfl) (by rfl)) ?_
  refine WS_det hF (by rfl) (y_assign (c := .pointer _) (by rfl)) ?_
  refine WS_det hF (by rfl) (y_assign (c := .int .i64 _) (by rfl)) ?_
  refine WS_nil ?_
  refine Then_normal ?_
  refine W_seq ?_
  refine W_seq ?_
  refine W_region_lit (fun ds => ?_)
  refine WS_det hF (by rfl) (y_move (c := .int .i64 _) (by rfl)) ?_
  refine WS_det hF (by rfl) (y_neq (by rfl) (by rfl)) ?_
  refine WS_nil ?_
  refine Then_normal ?_
  refine W_cond (by rfl) (fun c2 => ?_) (fun c2 => ?_)
  ·
    try simp only [Bool.not_eq_true', Bool.not_eq_false', decide_eq_true_eq, decide_eq_false_iff_not, ne_eq, Classical.not_not, Int.not_lt, Int.not_le] at c2
    obtain rfl := hg2 c2
    refine W_seq ?_
    refine W_region_lit (fun ds => ?_)
    refine WS_det hF (by rfl) (y_move (c := .int .i64 _) (by rfl)) ?_
    refine WS_store hF (i := 1) (by rfl) (by rfl) Tryd.sizeOf174 (by rfl) (by rfl) (by rfl) (by first | decide | exact Nat.le_of_ble_eq_true rfl | simp) ?_
    refine WS_store hF (i := 0) (by rfl) (by rfl) Tryd.sizeOf30 (by rfl) (by rfl) (by rfl) (by first | decide | exact Nat.le_of_ble_eq_true rfl | simp) ?_
    refine WS_nil ?_
    refine Then_normal ?_
    refine W_ret ?_
    refine Then_ret ?_
    refine Fin_ret [_, _] [] Tryd.results110 ⟨lv1 (by rfl) Tryd.isAgg174 (Mem.own1 1 (by rfl) (by rfl)), lv1 (by rfl) Tryd.isAgg30 (Mem.own1 0 (by rfl) (by rfl)), trivial⟩ HSub.nil ?_
    have ha : l.aerr = l.err := if_neg c2
    refine ⟨none, by rw [ha]; rfl, fun h => absurd (ha ▸ h) c2, fun _ => rfl⟩
  ·
    try simp only [Bool.not_eq_true', Bool.not_eq_false', decide_eq_true_eq, decide_eq_false_iff_not, ne_eq, Classical.not_not, Int.not_lt, Int.not_le] at c2
    obtain ⟨g, bk, rfl, rfl⟩ := hg1 c2
    have hok := l.ok_of c2
    have hn12 := hok.n12
    have htl := l.times_le
    refine W_skip ?_
    refine Then_normal ?_
    refine W_seq ?_
    refine W_region_lit (fun ds => ?_)
    refine WS_det hF (by rfl) (y_move (c := .pointer _) (by rfl)) ?_
    refine WS_det hF (by rfl) (y_buildL bd181_0 (by rfl)) ?_
    refine WS_new hF (by rfl) (y_box (by rfl)) (fun b4 => ?_)
    refine WS_new hF (by rfl) (y_alloc Tryd.zeroValue174 (by rfl)) (fun b5 => ?_)
    refine WS_store hF (i := 0) (by rfl) (by rfl) Tryd.sizeOf174 (by rfl) (by rfl) (by rfl) (by first | decide | exact Nat.le_of_ble_eq_true rfl | simp) ?_
    refine WS_nil ?_
    refine Then_normal ?_
    refine W_seq ?_
    refine W_seq ?_
    refine W_region_lit (fun ds => ?_)
    refine WS_det hF (by rfl) (y_move (c := .pointer _) (by rfl)) ?_
    refine WS_gen hF (by rfl) (y_callL (by rfl) (by rfl) Tryd.call135 (fun w hw => holding_any bk w)) ?_
    rintro _ _ ⟨bx, rfl, rfl⟩
    refine WS_nil ?_
    refine Then_normal ?_
    refine W_block ?_
    refine W_range hF (by rfl) (encs := (fun k => [.int .i64 (k : Int), .agg (l.hold k).cells.toArray])) (N := l.times) (H0 := [(bx, CB [.pointer (some ⟨bk, 0, none⟩)] 178), (bk, CB (bookCells g l a cap ae cape) 189), (g, CB (gaugeCells l.tk a cap) 191)]) (G0 := [_, _, _, _]) (fun k G => ∃ fa fcap Hf, G = (b4, CB [.pointer (some ⟨bk, 0, none⟩), .slice fa k fcap, .slice none 0 0, .slice none 0 0] 181) :: (b5, CB [.pointer (some ⟨b4, 0, none⟩)] 174) :: (b2, CB [.pointer none] 174) :: (b3, CB [.int .i64 0] 30) :: Hf ∧ Row 63 2 fa k fcap (snRow l.hold k) Hf ∧ ∀ j, j < k → (l.hold j).empty = false) (fun c k G => c = .ret ∧ (l.hold (k - 1)).empty = true ∧ G = [(b2, CB [.pointer none] 174), (b3, CB [.int .i64 8] 30)]) (by rfl) Tryd.call164 (by rfl) (fun _ => rfl) (fun ds => holding_it l _ _ _ bx bk g a cap ae cape hok hx he) (⟨none, 0, [], rfl, Row.nil 63 2, fun j hj => by omega⟩) ((SubP.hsub (SubP.pick 0 (by rfl) (SubP.pick 2 (by rfl) (SubP.pick 2 (by rfl) (SubP.pick 1 (by rfl) (SubP.pick 0 (by rfl) (SubP.pick 1 (by rfl) (SubP.pick 0 (by rfl) (SubP.nil)))))))))) ?_ ?_ ?_
    · rintro k hk G hj out lpr R R'
      have hF := wide_inRound wide_wide lpr
      obtain ⟨fa, fcap, Hf, rfl, hrow, hne⟩ := hj
      refine W_region_lit (fun ds => ?_)
      refine WS_new hF (by rfl) (y_alloc Tryd.zeroValue63 (by rfl)) (fun b6 => ?_)
      refine WS_store hF (i := 0) (by rfl) (by rfl) Tryd.sizeOf63 (by rfl) (by rfl) (by rfl) (by first | decide | exact Nat.le_of_ble_eq_true rfl | simp) ?_
      refine WS_nil ?_
      refine Then_normal ?_
      refine ⟨(_ :: _ :: _ :: _ :: _ :: Hf), rfl, ?_⟩
      refine W_block ?_
      refine W_seq ?_
      apply W_drawZ 7 0 hF Trydmixed [] [] [] (by rfl) (by decide +kernel) (by decide) (by rfl) (by rfl) (by rfl) (by rfl) (by rfl) Tryd.isAgg174 HSub.refl
      intro ds
      refine P_det (by rfl) (Over_nil (y_load1 (by rfl) Tryd.isAgg174 (Mem.own1 2 (by rfl) (by rfl)))) ?_
      refine P_det (by rfl) (Over_nil (y_load1 (by rfl) Tryd.isAgg174 (Mem.own1 2 (by rfl) (by rfl)))) ?_
      refine P_det (by rfl) (Over_nil (by first | exact y_nilCheck (by rfl) | exact y_nilCheckF (by rfl))) ?_
      refine P_det (by rfl) (Over_nil (y_fieldAddr (by rfl) fa181_1)) ?_
      refine P_det (by rfl) (Over_nil (y_load1 (by rfl) Tryd.isAgg179 (Mem.own1 1 (by rfl) (by rfl)))) ?_
      refine P_det (by rfl) (Over_nil (y_loadN (by rfl) Tryd.isAgg63 Tryd.sizeOf63 (Mem.own (us := [.int .i64 _, .int .i64 _]) 0 (by rfl) (by rfl)) (by rfl))) ?_
      refine P_new (by rfl) (by rfl) (Over_nil (y_buildSliceL bs179_1_0 (by rfl))) ?_
      refine PW_end (by rfl) ?_
      refine OverAll_cons (fun w30 l30 => ?_)
      refine OverAll_nil ?_
      rintro ⟨-, h30⟩
      obtain ⟨b7, rfl, rfl⟩ := h30
      refine ⟨?_, fun xz => ?_⟩
      ·
        refine WS_append hF (H1 := [_, _, _, _, _, _]) (by rfl) (by rfl) (by rfl) Tryd.underlying179 infSpan (by rfl) (by rfl) hrow (.inr ⟨_, _, rfl, Mem.own (us := [.int _ _, .int _ _]) 0 (by rfl) (by rfl)⟩) (by rfl) (by rfl) (by omega) (by omega) ?_
        intro fa2 fcap2 Hf2 hrow2
        refine WS_det hF (by rfl) (by first | exact y_nilCheck (by rfl) | exact y_nilCheckF (by rfl)) ?_
        refine WS_det hF (by rfl) (y_fieldAddr (by rfl) fa181_1) ?_
        refine WS_store hF (i := 2) (by rfl) (by rfl) Tryd.sizeOf179 (by rfl) (by rfl) (by rfl) (by first | decide | exact Nat.le_of_ble_eq_true rfl | simp) ?_
        refine WS_nil ?_
        refine Then_normal ?_
        refine W_seq ?_
        refine W_region_lit (fun ds => ?_)
        refine WS_det hF (by rfl) (y_loadN (by rfl) Tryd.isAgg63 Tryd.sizeOf63 (Mem.own (us := [.int .i64 _, .int .i64 _]) 1 (by rfl) (by rfl)) (by rfl)) ?_
        refine WS_det hF (by rfl) (y_callL (by rfl) (by rfl) Tryd.call136 (fun w hw => empty_any (l.hold k).lo (l.hold k).hi w)) ?_
        refine WS_nil ?_
        refine Then_normal ?_
        refine W_cond (by rfl) (fun c8 => ?_) (fun c8 => ?_)
        ·
          try simp only [Bool.not_eq_true', Bool.not_eq_false', decide_eq_true_eq, decide_eq_false_iff_not, ne_eq, Classical.not_not, Int.not_lt, Int.not_le] at c8
          refine W_seq ?_
          refine W_region_lit (fun ds => ?_)
          refine WS_store hF (i := 4) (by rfl) (by rfl) Tryd.sizeOf174 (by rfl) (by rfl) (by rfl) (by first | decide | exact Nat.le_of_ble_eq_true rfl | simp) ?_
          refine WS_store hF (i := 5) (by rfl) (by rfl) Tryd.sizeOf30 (by rfl) (by rfl) (by rfl) (by first | decide | exact Nat.le_of_ble_eq_true rfl | simp) ?_
          refine WS_nil ?_
          refine Then_normal ?_
          refine W_ret ?_
          refine InB_ret ?_
          refine ⟨[_, _], (SubP.hsub (SubP.pick 4 (by rfl) (SubP.pick 4 (by rfl) (by exact SubP.drop (SubP.drop (SubP.drop (SubP.drop (SubP.dropL (X := Hf2) (SubP.refl))))))))), rfl, ?_, rfl⟩
          show (l.hold k).empty = true
          unfold Sn.empty; simp only [decide_eq_true_eq]; omega
        ·
          try simp only [Bool.not_eq_true', Bool.not_eq_false', decide_eq_true_eq, decide_eq_false_iff_not, ne_eq, Classical.not_not, Int.not_lt, Int.not_le] at c8
          refine W_skip ?_
          refine InB_normal ?_
          refine ⟨_ :: _ :: _ :: _ :: Hf2, (SubP.hsub (SubP.pick 2 (by rfl) (SubP.pick 2 (by rfl) (SubP.pick 2 (by rfl) (SubP.pick 2 (by rfl) (by exact SubP.drop (SubP.drop (SubP.refl)))))))), fa2, fcap2, Hf2, rfl, ?_, ?_⟩
          · rw [snRow, rowOf_succ]; exact hrow2
          · intro j hj
            obtain hj | rfl : j < k ∨ j = k := by omega
            · exact hne j hj
            · unfold Sn.empty; simp only [decide_eq_false_iff_not]; omega
      ·
        refine WS_append hF (H1 := [_, _, _, _, _, _]) (by rfl) (by rfl) (by rfl) Tryd.underlying179 infSpan (by rfl) (by rfl) hrow (.inr ⟨_, _, rfl, Mem.own (us := [.int _ _, .int _ _]) 0 (by rfl) (by rfl)⟩) (by rfl) (by rfl) (by omega) (by omega) ?_
        intro fa2 fcap2 Hf2 hrow2
        refine WS_det hF (by rfl) (y_load1 (by rfl) Tryd.isAgg174 (Mem.own1 3 (by rfl) (by rfl))) ?_
        refine WS_det hF (by rfl) (by first | exact y_nilCheck (by rfl) | exact y_nilCheckF (by rfl)) ?_
        refine WS_det hF (by rfl) (y_fieldAddr (by rfl) fa181_1) ?_
        refine WS_store hF (i := 2) (by rfl) (by rfl) Tryd.sizeOf179 (by rfl) (by rfl) (by rfl) (by first | decide | exact Nat.le_of_ble_eq_true rfl | simp) ?_
        refine WS_nil ?_
        refine Then_normal ?_
        refine W_seq ?_
        refine W_region_lit (fun ds => ?_)
        refine WS_det hF (by rfl) (y_loadN (by rfl) Tryd.isAgg63 Tryd.sizeOf63 (Mem.own (us := [.int .i64 _, .int .i64 _]) 1 (by rfl) (by rfl)) (by rfl)) ?_
        refine WS_det hF (by rfl) (y_callL (by rfl) (by rfl) Tryd.call136 (fun w hw => empty_any (l.hold k).lo (l.hold k).hi w)) ?_
        refine WS_nil ?_
        refine Then_normal ?_
        refine W_cond (by rfl) (fun c8 => ?_) (fun c8 => ?_)
        ·
          try simp only [Bool.not_eq_true', Bool.not_eq_false', decide_eq_true_eq, decide_eq_false_iff_not, ne_eq, Classical.not_not, Int.not_lt, Int.not_le] at c8
          refine W_seq ?_
          refine W_region_lit (fun ds => ?_)
          refine WS_store hF (i := 4) (by rfl) (by rfl) Tryd.sizeOf174 (by rfl) (by rfl) (by rfl) (by first | decide | exact Nat.le_of_ble_eq_true rfl | simp) ?_
          refine WS_store hF (i := 5) (by rfl) (by rfl) Tryd.sizeOf30 (by rfl) (by rfl) (by rfl) (by first | decide | exact Nat.le_of_ble_eq_true rfl | simp) ?_
          refine WS_nil ?_
          refine Then_normal ?_
          refine W_ret ?_
          refine InB_ret ?_
          refine ⟨[_, _], (SubP.hsub (SubP.pick 4 (by rfl) (SubP.pick 4 (by rfl) (by exact SubP.drop (SubP.drop (SubP.drop (SubP.drop (SubP.dropL (X := Hf2) (SubP.refl))))))))), rfl, ?_, rfl⟩
          show (l.hold k).empty = true
          unfold Sn.empty; simp only [decide_eq_true_eq]; omega
        ·
          try simp only [Bool.not_eq_true', Bool.not_eq_false', decide_eq_true_eq, decide_eq_false_iff_not, ne_eq, Classical.not_not, Int.not_lt, Int.not_le] at c8
          refine W_skip ?_
          refine InB_normal ?_
          refine ⟨_ :: _ :: _ :: _ :: Hf2, (SubP.hsub (SubP.pick 2 (by rfl) (SubP.pick 2 (by rfl) (SubP.pick 2 (by rfl) (SubP.pick 2 (by rfl) (by exact SubP.drop (SubP.drop (SubP.refl)))))))), fa2, fcap2, Hf2, rfl, ?_, ?_⟩
          · rw [snRow, rowOf_succ]; exact hrow2
          · intro j hj
            obtain hj | rfl : j < k ∨ j = k := by omega
            · exact hne j hj
            · unfold Sn.empty; simp only [decide_eq_false_iff_not]; omega
    · rintro G hj
      obtain ⟨fa, fcap, Hf, rfl, hrow, hne⟩ := hj
      have htf := l.times_full hne
      rw [htf] at hrow hne
      rw [htf]
      obtain ⟨_, h0, _⟩ | ⟨fb, junk, rfl, rfl, hl1, hl2, hle⟩ := hrow
      · omega
      refine InB_normal ?_
      refine Then_normal ?_
      refine W_seq ?_
      apply W_drawMT 10 hF Trydmixed [Pre.dep 1000000 b4 _ 41 _ _] [1000000] [1000000] (by rfl) (by decide +kernel) (by decide) (fun _ _ h => h.perm (perm_erase (i := 3) (by rfl)).symm)
      intro ds
      refine P_det (by rfl) (Over_out (by rfl) (Over_nil (y_load1 (by rfl) Tryd.isAgg174 (Mem.own1 3 (by rfl) (by rfl))))) ?_
      refine P_det (by rfl) (Over_out (by rfl) (Over_nil (y_load1 (by rfl) Tryd.isAgg174 (Mem.own1 3 (by rfl) (by rfl))))) ?_
      refine P_det (by rfl) (Over_out (by rfl) (Over_nil (y_move (c := .pointer _) (by rfl)))) ?_
      refine P_new (by rfl) (by rfl) (Over_out (by rfl) (Over_nil (y_callL (by rfl) (by rfl) Tryd.call137 (fun w hw => back_any bk l w (Bk.own (by repeat (first | exact List.mem_cons_self | apply List.mem_cons_of_mem)) (by repeat (first | exact List.mem_cons_self | apply List.mem_cons_of_mem)) hok hx he w hw))))) ?_
      refine P_ali [40] (fun e => e 40) (by rfl) (by rfl) (by rfl) (fun _ _ h => h 40 (List.mem_singleton.2 rfl)) (Over_in (by rfl) (Over_out (by rfl) (Over_nil (by intro vb9 l40 hb9; obtain ⟨ab, bb, rfl, rfl⟩ := hb9; exact (YD0_of (y_move (c := .tuple _) (by rfl))))))) ?_
      refine P_ali [36] (fun e => tupAt (e 36) 0) (by rfl) (by rfl) (by rfl) (fun _ _ h => congrArg (tupAt · 0) (h 36 (List.mem_singleton.2 rfl))) (Over_in (by rfl) (Over_in (by rfl) (Over_out (by rfl) (Over_nil (by intro vb11 l40 hb11; obtain ⟨ab, bb, rfl, rfl⟩ := hb11; rintro vb12 _ ⟨hvb12, rfl⟩; replace hvb12 : vb12 = .tuple _ := hvb12; subst hvb12; exact (YD0_of (y_extract (c := .slice _ _ _) (by rfl) (by rfl)))))))) ?_
      refine P_ali [36] (fun e => tupAt (e 36) 1) (by rfl) (by rfl) (by rfl) (fun _ _ h => congrArg (tupAt · 1) (h 36 (List.mem_singleton.2 rfl))) (Over_out (by rfl) (Over_in (by rfl) (Over_in (by rfl) (Over_out (by rfl) (Over_nil (by intro vb14 l40 hb14; obtain ⟨ab, bb, rfl, rfl⟩ := hb14; rintro vb15 _ ⟨hvb15, rfl⟩; replace hvb15 : vb15 = .tuple _ := hvb15; subst hvb15; exact (YD0_of (y_extract (c := .slice _ _ _) (by rfl) (by rfl))))))))) ?_
      refine P_det (by rfl) (Over_out (by rfl) (Over_out (by rfl) (Over_out (by rfl) (Over_out (by rfl) (Over_out (by rfl) (Over_nil (by first | exact y_nilCheck (by rfl) | exact y_nilCheckF (by rfl)))))))) ?_
      refine P_det (by rfl) (Over_out (by rfl) (Over_out (by rfl) (Over_out (by rfl) (Over_out (by rfl) (Over_out (by rfl) (Over_nil (y_fieldAddr (by rfl) fa181_2))))))) ?_
      refine P_st 1000000 4 (by rfl) (by rfl) (by rfl) (by rfl) (by rfl) (Over_out (by rfl) (Over_in (by rfl) (Over_in (by rfl) (Over_in (by rfl) (Over_nil (by intro vb17 l40 hb17; obtain ⟨ab, bb, rfl, rfl⟩ := hb17; rintro vb18 _ ⟨hvb18, rfl⟩; replace hvb18 : vb18 = .tuple _ := hvb18; subst hvb18; rintro vb19 _ ⟨hvb19, rfl⟩; replace hvb19 : vb19 = .slice _ _ _ := hvb19; subst hvb19; exact (st_preD (fun _ => by rfl) (by rfl) (by rfl) Tryd.sizeOf179 (by rfl) (by rfl) (by first | decide | exact Nat.le_of_ble_eq_true rfl | simp)))))))) ?_
      refine PW_end (by rfl) ?_
      refine OverAll_cons (fun w42 l42 => ?_)
      refine OverAll_cons (fun w41 l41 => ?_)
      refine OverAll_cons (fun w36 l36 => ?_)
      refine OverAll_cons (fun w40 l40 => ?_)
      refine OverAll_cons (fun w1000000 l1000000 => ?_)
      refine OverAll_nil ?_
      rintro ⟨⟨⟨⟨⟨-, h42⟩, h41⟩, h36⟩, h40⟩, h1000000⟩
      obtain ⟨ab, bb, rfl, rfl⟩ := h40
      obtain ⟨h36, rfl⟩ := h36
      replace h36 : w36 = .tuple _ := h36
      subst h36
      obtain ⟨h41, rfl⟩ := h41
      replace h41 : w41 = .slice _ _ _ := h41
      subst h41
      obtain ⟨h42, rfl⟩ := h42
      replace h42 : w42 = .slice _ _ _ := h42
      subst h42
      obtain rfl := h1000000
      refine WS_det hF (by rfl) (by first | exact y_nilCheck (by rfl) | exact y_nilCheckF (by rfl)) ?_
      refine WS_det hF (by rfl) (y_fieldAddr (by rfl) fa181_3) ?_
      refine WS_store hF (i := 0) (by rfl) (by rfl) Tryd.sizeOf179 (by rfl) (by rfl) (by rfl) (by first | decide | exact Nat.le_of_ble_eq_true rfl | simp) ?_
      refine WS_nil ?_
      refine Then_normal ?_
      refine W_seq ?_
      refine W_region_lit (fun ds => ?_)
      refine WS_det hF (by rfl) (y_load1 (by rfl) Tryd.isAgg174 (Mem.own1 6 (by rfl) (by rfl))) ?_
      refine WS_store hF (i := 7) (by rfl) (by rfl) Tryd.sizeOf174 (by rfl) (by rfl) (by rfl) (by first | decide | exact Nat.le_of_ble_eq_true rfl | simp) ?_
      refine WS_store hF (i := 8) (by rfl) (by rfl) Tryd.sizeOf30 (by rfl) (by rfl) (by rfl) (by first | decide | exact Nat.le_of_ble_eq_true rfl | simp) ?_
      refine WS_nil ?_
      refine Then_normal ?_
      refine W_ret ?_
      have hB : l.holdsB = true := l.holdsB_iff.2 fun k hk => hne k (by omega)
      have h0 : l.aerr = 0 := by unfold Lg.aerr; rw [if_pos c2, if_pos hB]
      refine Fin_ret [_, _] [(b4, _), (fb, _), (ab, _), (bb, _), (bk, _), (g, _)] Tryd.results110 ⟨lv1 (by rfl) Tryd.isAgg174 (Mem.own1 7 (by rfl) (by rfl)), lv1 (by rfl) Tryd.isAgg30 (Mem.own1 8 (by rfl) (by rfl)), trivial⟩ ((SubP.hsub (SubP.pick 0 (by rfl) (SubP.pick 8 (by rfl) (SubP.pick 0 (by rfl) (SubP.pick 0 (by rfl) (SubP.pick 1 (by rfl) (SubP.pick 1 (by rfl) (SubP.nil))))))))) ?_
      exact ⟨_, by rw [h0]; rfl, fun _ => ⟨b4, rfl, bk, g, fb, fcap, junk, ab, bb, rfl⟩, fun h => absurd h0 h⟩
    · rintro c k G hk hj
      obtain ⟨rfl, hemp, rfl⟩ := hj
      refine W_ret ?_
      refine InB_ret ?_
      refine Then_ret ?_
      refine Fin_ret [_, _] [] Tryd.results110 ⟨lv1 (by rfl) Tryd.isAgg174 (Mem.own1 3 (by rfl) (by rfl)), lv1 (by rfl) Tryd.isAgg30 (Mem.own1 4 (by rfl) (by rfl)), trivial⟩ HSub.nil ?_
      have hB : l.holdsB = false := by
        cases hb : l.holdsB with
        | false => rfl
        | true => rw [Nat.add_sub_cancel, l.holdsB_iff.1 hb k (by omega)] at hemp; cases hemp
      have h8 : l.aerr = 8 := by unfold Lg.aerr; rw [if_pos c2, hB]; rfl
      exact ⟨none, by rw [h8]; rfl, fun h => by omega, fun _ => rfl⟩
end Go.Proofs.YtjekjehgmljbgaaDoor.T

/- What is known, in memory; at, last; whether it holds some pints, when, what may be drawn, the room. -/
namespace Go.Proofs.YtjekjehgmljbgaaDoor.T
open Go.RowKit Go.Proofs Go.Eng
set_option maxRecDepth 100000
set_option maxHeartbeats 1000000
set_option linter.unusedVariables false
set_option linter.unusedSimpArgs false

theorem fa181_0 : ∀ b o w, (Instr.fieldAt 181 (.pointer (some ⟨b, o, none⟩)) 0).run Tryd.prog w = .ok (.pointer (some ⟨b, o + 0, none⟩)) w := fun b o w => by kernel_rfl

theorem Lg.aerr0 (l : Lg) (h : l.aerr = 0) : l.err = 0 ∧ ∀ k, k ≤ l.es.length → (l.hold k).empty = false := by
  unfold Lg.aerr at h
  split at h
  · split at h
    · rename_i h1 h2; exact ⟨h1, l.holdsB_iff.1 h2⟩
    · cases h
  · rename_i h1; exact absurd h h1
def Lg.at (l : Lg) (i : Nat) : Sn := (l.hold i).met (l.aft i)
def Lg.last (l : Lg) : Sn := l.at l.es.length
/-- What is known, in memory. -/
structure Kn (w : World) (kb : Nat) (l : Lg) : Prop where
  ok : l.Ok
  ne : ∀ k, k ≤ l.es.length → (l.hold k).empty = false
  ex : ∃ bk fb capf ab bb, At w kb 0 (knownCells bk fb capf ab bb l.es.length) ∧ At w fb 0 (snRow l.hold (l.es.length + 1)) ∧ At w ab 0 (snRow l.aft (l.es.length + 1)) ∧ At w bb 0 (snRow l.ahd l.es.length) ∧ Bk w bk l
theorem Kn.below {w w' : World} {kb : Nat} {l : Lg} (h : Kn w kb l) (hb : Below w.heap.size w w') : Kn w' kb l := by
  obtain ⟨hok, hne, bk, fb, capf, ab, bb, h1, h2, h3, h4, h5⟩ := h
  exact ⟨hok, hne, bk, fb, capf, ab, bb, At.old hb h1, At.old hb h2, At.old hb h3, At.old hb h4, h5.below hb⟩
theorem Kn.st {C : Ctx} {H : List Blk} {kb : Nat} {l : Lg} (h : Kn C.w0 kb l) (w : World) (hw : St C H w) : Kn w kb l := h.below hw.1
def knBlocks (l : Lg) (a : Option Addr) (cap : Nat) (ae : Option Addr) (cape kb bk g fb capf : Nat) (junk : List Value) (ab bb : Nat) : List Blk :=
  [(kb, CB (knownCells bk fb capf ab bb l.es.length) 181), (fb, CB (snRow l.hold (l.es.length + 1) ++ junk) 63), (ab, CB (snRow l.aft (l.es.length + 1)) 63), (bb, CB (snRow l.ahd l.es.length) 63), (bk, CB (bookCells g l a cap ae cape) 189), (g, CB (gaugeCells l.tk a cap) 191)]
theorem At.block {C : Ctx} {H : List Blk} {b : Nat} {vs rest : List Value} {T : TypeId} (hm : (b, CB (vs ++ rest) T) ∈ H) (w : World) (hw : St C H w) : At w b 0 vs := by
  obtain ⟨i, hi, hii⟩ := List.mem_iff_getElem.1 hm
  exact Mem.own (rest := rest) i ((List.getElem?_eq_getElem hi).trans (congrArg some hii)) (by rw [List.drop_zero]) w hw
theorem At.block0 {C : Ctx} {H : List Blk} {b : Nat} {vs : List Value} {T : TypeId} (hm : (b, CB vs T) ∈ H) (w : World) (hw : St C H w) : At w b 0 vs := by
  have : (b, CB (vs ++ []) T) ∈ H := by rwa [List.append_nil]
  exact At.block this w hw
theorem Kn.own {C : Ctx} {H : List Blk} {l : Lg} {a : Option Addr} {cap : Nat} {ae : Option Addr} {cape kb bk g fb capf : Nat} {junk : List Value} {ab bb : Nat} (hs : (knBlocks l a cap ae cape kb bk g fb capf junk ab bb).Sublist H)
    (h0 : l.aerr = 0) (hx : Ints C.w0 a l.tk.n cap l.tk.pints) (he : Ens C.w0 ae l.es.length cape l.es) (w : World) (hw : St C H w) : Kn w kb l := by
  obtain ⟨h1, h2⟩ := l.aerr0 h0
  have hm : ∀ x ∈ knBlocks l a cap ae cape kb bk g fb capf junk ab bb, x ∈ H := fun x hx => hs.subset hx
  unfold knBlocks at hm
  simp only [List.forall_mem_cons] at hm
  obtain ⟨m1, m2, m3, m4, m5, m6, _⟩ := hm
  exact ⟨l.ok_of h1, h2, bk, fb, capf, ab, bb, At.block0 m1 w hw, At.block m2 w hw, At.block0 m3 w hw, At.block0 m4 w hw, Bk.own m5 m6 (l.ok_of h1) hx he w hw⟩
theorem At.rowOf {w : World} {b : Nat} {α : Type} {enc : α → List Value} {sz : Nat} (hz : ∀ x, (enc x).length = sz) {f : Nat → α} {n k o : Nat} (h : At w b 0 (rowOf enc f n)) (hk : k < n) (ho : o = k * sz) : At w b o (enc (f k)) := by
  subst ho
  obtain ⟨t, ht⟩ := rowOf_drop hz f hk
  refine At.of fun j v hv => ?_
  have hg : (Eng.rowOf enc f n)[k * sz + j]? = some v := rowOf_get hz f hk hv
  have := h.get (k * sz + j) v hg
  rw [Nat.zero_add] at this
  exact this

theorem at_any (kb : Nat) (l : Lg) (i : Nat) (w : World) (hK : Kn w kb l) (hi : i ≤ l.es.length) :
    Ct Tryd.prog 138 #[.pointer (some ⟨kb, 0, none⟩), .int .i64 (i : Int)] w fun v _ => v = .agg (l.at i).cells.toArray := by
  obtain ⟨hok, hne, bk, fb, capf, ab, bb, h1, h2, h3, h4, h5⟩ := hK
  have e1 : At w fb (0 + i * 2) (l.hold i).cells := At.rowOf sn_len h2 (by omega) (by omega)
  have e2 : At w ab (0 + i * 2) (l.aft i).cells := At.rowOf sn_len h3 (by omega) (by omega)
  have hF := wide_wide
  refine Ct_start (args := [_, _]) Tryd.func138 (by rfl) Tryd.ntmps138 (by rfl) ?_
  refine W_seq ?_
  refine W_region_lit (fun ds => ?_)
  refine WS_new hF (by rfl) (y_alloc Tryd.zeroValue63 (by rfl)) (fun b1 => ?_)
  refine WS_nil ?_
  refine Then_normal ?_
  refine W_seq ?_
  apply W_draw1 hF Trydmixed [1000000] (i := 0) (by rfl) (by decide +kernel)
  intro ds
  refine P_det (by rfl) (Over_out (by rfl) (Over_nil (y_move (c := .pointer _) (by rfl)))) ?_
  refine P_det (by rfl) (Over_out (by rfl) (Over_nil (by first | exact y_nilCheck (by rfl) | exact y_nilCheckF (by rfl)))) ?_
  refine P_det (by rfl) (Over_out (by rfl) (Over_nil (y_fieldAddr (by rfl) fa181_1))) ?_
  refine P_det (by rfl) (Over_out (by rfl) (Over_nil (y_load1 (by rfl) Tryd.isAgg179 (by first | exact Mem.old1 (by assumption) | exact Mem.oldAt1 (by assumption) (by rfl) | exact Mem.old (by assumption) | exact Mem.oldAtL1 (by assumption) (by rfl) (by rfl))))) ?_
  refine P_det (by rfl) (Over_out (by rfl) (Over_nil (y_move (c := .int .i64 _) (by rfl)))) ?_
  refine P_det (by rfl) (Over_out (by rfl) (Over_nil (y_index (k := i) (by rfl) (by rfl) (by first | rfl | omega) (by first | decide | omega) Tryd.runUnderlying179 Tryd.sizeOf63))) ?_
  refine P_det (by rfl) (Over_out (by rfl) (Over_nil (y_loadN (by rfl) Tryd.isAgg63 Tryd.sizeOf63 (by first | exact Mem.old (by assumption) | exact Mem.oldAt (us := [.int .i64 _, .int .i64 _]) (by assumption) (by rfl) | exact Mem.oldAtL (us := [.int .i64 _, .int .i64 _]) (by assumption) (by rfl) (by rfl)) (by rfl)))) ?_
  refine P_det (by rfl) (Over_out (by rfl) (Over_nil (y_move (c := .pointer _) (by rfl)))) ?_
  refine P_det (by rfl) (Over_out (by rfl) (Over_nil (by first | exact y_nilCheck (by rfl) | exact y_nilCheckF (by rfl)))) ?_
  refine P_det (by rfl) (Over_out (by rfl) (Over_nil (y_fieldAddr (by rfl) fa181_2))) ?_
  refine P_det (by rfl) (Over_out (by rfl) (Over_nil (y_load1 (by rfl) Tryd.isAgg179 (by first | exact Mem.old1 (by assumption) | exact Mem.oldAt1 (by assumption) (by rfl) | exact Mem.old (by assumption) | exact Mem.oldAtL1 (by assumption) (by rfl) (by rfl))))) ?_
  refine P_det (by rfl) (Over_out (by rfl) (Over_nil (y_move (c := .int .i64 _) (by rfl)))) ?_
  refine P_det (by rfl) (Over_out (by rfl) (Over_nil (y_index (k := i) (by rfl) (by rfl) (by first | rfl | omega) (by first | decide | omega) Tryd.runUnderlying179 Tryd.sizeOf63))) ?_
  refine P_det (by rfl) (Over_out (by rfl) (Over_nil (y_loadN (by rfl) Tryd.isAgg63 Tryd.sizeOf63 (by first | exact Mem.old (by assumption) | exact Mem.oldAt (us := [.int .i64 _, .int .i64 _]) (by assumption) (by rfl) | exact Mem.oldAtL (us := [.int .i64 _, .int .i64 _]) (by assumption) (by rfl) (by rfl)) (by rfl)))) ?_
  refine P_det (by rfl) (Over_out (by rfl) (Over_nil (y_callL (by rfl) (by rfl) Tryd.call168 (fun w hw => met_any _ _ _ _ w)))) ?_
  refine P_st 1000000 0 (by rfl) (by rfl) (by rfl) (by rfl) (by rfl) (Over_nil (st_pre (fun _ => by rfl) (fun _ => by rfl) Tryd.sizeOf63 (by rfl) (by rfl) (by first | decide | exact Nat.le_of_ble_eq_true rfl | simp))) ?_
  refine PW_end (by rfl) ?_
  refine OverAll_cons (fun w1000000 l1000000 => ?_)
  refine OverAll_nil ?_
  rintro ⟨-, h1000000⟩
  obtain rfl := h1000000
  refine Then_normal ?_
  refine W_ret ?_
  refine Fin_ret [_] [] Tryd.results138 ⟨lvN (by rfl) Tryd.isAgg63 Tryd.sizeOf63 (Mem.own (us := [.int .i64 _, .int .i64 _]) 0 (by rfl) (by rfl)) (by rfl), trivial⟩ HSub.nil ?_
  rfl
theorem last_any (kb : Nat) (l : Lg) (w : World) (hK : Kn w kb l) :
    Ct Tryd.prog 111 #[.pointer (some ⟨kb, 0, none⟩)] w fun v _ => v = .agg l.last.cells.toArray := by
  have hK0 := hK
  obtain ⟨hok, hne, bk, fb, capf, ab, bb, h1, h2, h3, h4, _, g, a, cap, ae, cape, h5, _⟩ := hK
  have hF := wide_wide
  refine Ct_start (args := [_]) Tryd.func111 (by rfl) Tryd.ntmps111 (by rfl) ?_
  refine W_seq ?_
  refine W_region_lit (fun ds => ?_)
  refine WS_new hF (by rfl) (y_alloc Tryd.zeroValue63 (by rfl)) (fun b1 => ?_)
  refine WS_nil ?_
  refine Then_normal ?_
  refine W_seq ?_
  refine W_region_lit (fun ds => ?_)
  refine WS_det hF (by rfl) (y_move (c := .pointer _) (by rfl)) ?_
  refine WS_det hF (by rfl) (y_move (c := .pointer _) (by rfl)) ?_
  refine WS_det hF (by rfl) (by first | exact y_nilCheck (by rfl) | exact y_nilCheckF (by rfl)) ?_
  refine WS_det hF (by rfl) (y_fieldAddr (by rfl) fa181_0) ?_
  refine WS_det hF (by rfl) (y_load1 (by rfl) Tryd.isAgg178 (by first | exact Mem.old1 (by assumption) | exact Mem.oldAt1 (by assumption) (by rfl) | exact Mem.old (by assumption) | exact Mem.oldAtL1 (by assumption) (by rfl) (by rfl))) ?_
  refine WS_det hF (by rfl) (by first | exact y_nilCheck (by rfl) | exact y_nilCheckF (by rfl)) ?_
  refine WS_det hF (by rfl) (y_fieldAddr (by rfl) fa189_1) ?_
  refine WS_det hF (by rfl) (y_fieldAddr (by rfl) fa66_2) ?_
  refine WS_det hF (by rfl) (y_load1 (by rfl) Tryd.isAgg64 (by first | exact Mem.old1 (by assumption) | exact Mem.oldAt1 (by assumption) (by rfl) | exact Mem.old (by assumption) | exact Mem.oldAtL1 (by assumption) (by rfl) (by rfl))) ?_
  refine WS_det hF (by rfl) (y_len (by rfl) Tryd.runUnderlying64) ?_
  refine WS_det hF (by rfl) (y_callL (by rfl) (by rfl) Tryd.call138 (fun w hw => at_any kb l l.es.length w (hK0.st w hw) (Nat.le_refl _))) ?_
  refine WS_store hF (i := 0) (by rfl) (by rfl) Tryd.sizeOf63 (by rfl) (by rfl) (by rfl) (by first | decide | exact Nat.le_of_ble_eq_true rfl | simp) ?_
  refine WS_nil ?_
  refine Then_normal ?_
  refine W_ret ?_
  refine Fin_ret [_] [] Tryd.results111 ⟨lvN (by rfl) Tryd.isAgg63 Tryd.sizeOf63 (Mem.own (us := [.int .i64 _, .int .i64 _]) 0 (by rfl) (by rfl)) (by rfl), trivial⟩ HSub.nil ?_
  rfl
end Go.Proofs.YtjekjehgmljbgaaDoor.T

/- Whether the tank holds some pints, when, what may be drawn, the room, and what it holds: the walks. -/
namespace Go.Proofs.YtjekjehgmljbgaaDoor.T
open Go.RowKit Go.Proofs Go.Eng
set_option maxRecDepth 100000
set_option maxHeartbeats 1000000
set_option linter.unusedVariables false
set_option linter.unusedSimpArgs false

theorem bd63  : ∀ w, (Instr.build 63 #[]).run Tryd.prog w = .ok (.agg #[.int .i64 0, .int .i64 0]) w := fun w => by kernel_rfl


theorem Lg.Ok.at_bd {l : Lg} (h : l.Ok) (hne : ∀ k, k ≤ l.es.length → (l.hold k).empty = false) {i : Nat} (hi : i ≤ l.es.length) : 0 ≤ (l.at i).lo ∧ (l.at i).hi ≤ l.tk.full ∧ (l.at i).lo ≤ 10000000 ∧ -10000000 ≤ (l.at i).hi := by
  have h1 := h.hold_bd i hi fun j hj => hne j (by omega)
  have h2 := h.aft_bd hi
  unfold Lg.at Sn.met
  simp only
  omega
theorem Lg.Ok.last_bd {l : Lg} (h : l.Ok) (hne : ∀ k, k ≤ l.es.length → (l.hold k).empty = false) : 0 ≤ l.last.lo ∧ l.last.hi ≤ l.tk.full ∧ l.last.lo ≤ 10000000 ∧ -10000000 ≤ l.last.hi := h.at_bd hne (Nat.le_refl _)

def Lg.sureV (l : Lg) (p : Int) : Value :=
  if l.aerr = 0 then if inB 0 l.tk.full [p] then if p ≤ l.last.lo then .tuple #[.int .u8 2, .int .i64 0] else if l.last.hi < p then .tuple #[.int .u8 0, .int .i64 0] else .tuple #[.int .u8 1, .int .i64 0] else .tuple #[.int .u8 0, .int .i64 2] else .tuple #[.int .u8 0, .int .i64 l.aerr]
def firstN (f : Nat → Bool) (n : Nat) : Option Nat := (List.range n).find? f
def Lg.whenV (l : Lg) (p : Int) : Value :=
  if l.aerr = 0 then if inB 0 l.tk.full [p] then match firstN (fun i => decide (p ≤ (l.at i).lo)) (l.es.length + 1) with
    | some i => .tuple #[.int .i64 (i : Int), .int .i64 0]
    | none => .tuple #[.int .i64 0, .int .i64 6] else .tuple #[.int .i64 0, .int .i64 2] else .tuple #[.int .i64 0, .int .i64 l.aerr]
def Sn.fl (s : Sn) (f : Int) : Sn := ⟨max 0 (s.lo - f), max 0 (s.hi - f)⟩
def Lg.readyV (l : Lg) : Value :=
  if l.aerr = 0 then .tuple #[.agg (l.last.fl (l.tk.up l.tk.foot)).cells.toArray, .int .i64 0] else .tuple #[.agg Sn.z.cells.toArray, .int .i64 l.aerr]
theorem ready_any (l : Lg) (a : Option Addr) (cap : Nat) (ae : Option Addr) (cape : Nat) (w : World) (hn : l.tk.n ≤ 1000000) (hx : Ints w a l.tk.n cap l.tk.pints) (he : Ens w ae l.es.length cape l.es) : Ct Tryd.prog 77 #[.agg #[.slice a l.tk.n cap, .int .i64 l.tk.leak, .int .i64 l.tk.foot, .int .i64 l.start.lo, .int .i64 l.start.hi, .slice ae l.es.length cape]] w fun v _ => v = l.readyV := by
  have hF := wide_wide
  refine Ct_start (args := [_]) Tryd.func77 (by rfl) Tryd.ntmps77 (by rfl) ?_
  refine W_seq ?_
  refine W_region_lit (fun ds => ?_)
  refine WS_new hF (by rfl) (y_box (by rfl)) (fun b1 => ?_)
  refine WS_new hF (by rfl) (y_alloc Tryd.zeroValue63 (by rfl)) (fun b2 => ?_)
  refine WS_det hF (by rfl) (y_assign (c := .int .i64 _) (by rfl)) ?_
  refine WS_nil ?_
  refine Then_normal ?_
  refine W_seq ?_
  refine W_region_lit (fun ds => ?_)
  refine WS_det hF (by rfl) (y_loadN (by rfl) Tryd.isAgg66 Tryd.sizeOf66 (Mem.own (us := [.slice _ _ _, .int .i64 _, .int .i64 _, .int .i64 _, .int .i64 _, .slice _ _ _]) 1 (by rfl) (by rfl)) (by rfl)) ?_
  refine WS_gen hF (by rfl) (y_callL (by rfl) (by rfl) Tryd.call110 (fun w hw => asked_any l a cap ae cape w hn (hx.st w hw) (he.st w hw))) ?_
  rintro _ Hg ⟨p, rfl, hg1, hg2⟩
  refine WS_det hF (by rfl) (y_move (c := .tuple _) (by rfl)) ?_
  refine WS_det hF (by rfl) (y_extract (c := .pointer _) (by rfl) (by rfl)) ?_
  refine WS_det hF (by rfl) (y_extract (c := .int .i64 _) (by rfl) (by rfl)) ?_
  refine WS_det hF (by rfl) (y_assign (c := .pointer _) (by rfl)) ?_
  refine WS_det hF (by rfl) (y_assign (c := .int .i64 _) (by rfl)) ?_
  refine WS_nil ?_
  refine Then_normal ?_
  refine W_seq ?_
  refine W_seq ?_
  refine W_region_lit (fun ds => ?_)
  refine WS_det hF (by rfl) (y_move (c := .int .i64 _) (by rfl)) ?_
  refine WS_det hF (by rfl) (y_neq (by rfl) (by rfl)) ?_
  refine WS_nil ?_
  refine Then_normal ?_
  refine W_cond (by rfl) (fun c2 => ?_) (fun c2 => ?_)
  ·
    try simp only [Bool.not_eq_true', Bool.not_eq_false', decide_eq_true_eq, decide_eq_false_iff_not, ne_eq, Classical.not_not, Int.not_lt, Int.not_le] at c2
    obtain rfl := hg2 c2
    refine W_seq ?_
    refine W_region_lit (fun ds => ?_)
    refine WS_det hF (by rfl) (y_buildL bd63 (by rfl)) ?_
    refine WS_det hF (by rfl) (y_move (c := .int .i64 _) (by rfl)) ?_
    refine WS_store hF (i := 0) (by rfl) (by rfl) Tryd.sizeOf63 (by rfl) (by rfl) (by rfl) (by first | decide | exact Nat.le_of_ble_eq_true rfl | simp) ?_
    refine WS_det hF (by rfl) (y_assign (c := .int .i64 _) (by rfl)) ?_
    refine WS_nil ?_
    refine Then_normal ?_
    refine W_ret ?_
    refine Then_ret ?_
    refine Fin_ret [_, .int .i64 _] [] Tryd.results77 ⟨lvN (by rfl) Tryd.isAgg63 Tryd.sizeOf63 (Mem.own (us := [.int .i64 _, .int .i64 _]) 0 (by rfl) (by rfl)) (by rfl), by rfl, trivial⟩ HSub.nil ?_
    show Value.tuple _ = _
    unfold Lg.readyV
    rw [if_neg c2]; rfl
  ·
    try simp only [Bool.not_eq_true', Bool.not_eq_false', decide_eq_true_eq, decide_eq_false_iff_not, ne_eq, Classical.not_not, Int.not_lt, Int.not_le] at c2
    obtain ⟨kb, rfl, bk, g, fb, capf, junk, ab, bb, rfl⟩ := hg1 c2
    have hok := l.ok_of (l.aerr0 c2).1
    have hne := (l.aerr0 c2).2
    have hfull := hok.tk.full_bd
    have hlb := hok.last_bd hne
    have hf0 := hok.tk.foot0
    have hf1 := hok.tk.foot1
    have hup := hok.tk.eight_bd hf0 hf1
    have hfe : 0 ≤ l.tk.up l.tk.foot ∧ l.tk.up l.tk.foot ≤ 100000 := by unfold Tk.up; omega
    refine W_skip ?_
    refine Then_normal ?_
    refine W_seq ?_
    refine W_draw0 hF Trydmixed [6] (by decide +kernel) (fun ds => ?_)
    refine P_det (by rfl) (Over_nil (y_move (c := .pointer _) (by rfl))) ?_
    refine P_det (by rfl) (Over_nil (y_callL (by rfl) (by rfl) Tryd.call111 (fun w hw => last_any kb l w (Kn.own (a := a) (cap := cap) (ae := ae) (cape := cape) (bk := bk) (g := g) (fb := fb) (capf := capf) (junk := junk) (ab := ab) (bb := bb) (by unfold knBlocks; repeat (first | exact List.Sublist.refl _ | exact List.nil_sublist _ | apply List.Sublist.cons_cons | apply List.Sublist.cons)) c2 hx he w hw)))) ?_
    refine P_det (by rfl) (Over_nil (y_move (c := .pointer _) (by rfl))) ?_
    refine P_det (by rfl) (Over_nil (by first | exact y_nilCheck (by rfl) | exact y_nilCheckF (by rfl))) ?_
    refine P_det (by rfl) (Over_nil (y_fieldAddr (by rfl) fa181_0)) ?_
    refine P_det (by rfl) (Over_nil (y_load1 (by rfl) Tryd.isAgg178 (Mem.own1 0 (by rfl) (by rfl)))) ?_
    refine P_det (by rfl) (Over_nil (by first | exact y_nilCheck (by rfl) | exact y_nilCheckF (by rfl))) ?_
    refine P_det (by rfl) (Over_nil (y_fieldAddr (by rfl) fa189_0)) ?_
    refine P_det (by rfl) (Over_nil (y_load1 (by rfl) Tryd.isAgg182 (Mem.own1 4 (by rfl) (by rfl)))) ?_
    refine P_det (by rfl) (Over_nil (y_move (c := .pointer _) (by rfl))) ?_
    refine P_det (by rfl) (Over_nil (by first | exact y_nilCheck (by rfl) | exact y_nilCheckF (by rfl))) ?_
    refine P_det (by rfl) (Over_nil (y_fieldAddr (by rfl) fa181_0)) ?_
    refine P_det (by rfl) (Over_nil (y_load1 (by rfl) Tryd.isAgg178 (Mem.own1 0 (by rfl) (by rfl)))) ?_
    refine P_det (by rfl) (Over_nil (by first | exact y_nilCheck (by rfl) | exact y_nilCheckF (by rfl))) ?_
    refine P_det (by rfl) (Over_nil (y_fieldAddr (by rfl) fa189_0)) ?_
    refine P_det (by rfl) (Over_nil (y_load1 (by rfl) Tryd.isAgg182 (Mem.own1 4 (by rfl) (by rfl)))) ?_
    refine P_det (by rfl) (Over_nil (by first | exact y_nilCheck (by rfl) | exact y_nilCheckF (by rfl))) ?_
    refine P_det (by rfl) (Over_nil (y_fieldAddr (by rfl) fa191_0)) ?_
    refine P_det (by rfl) (Over_nil (y_fieldAddr (by rfl) fa61_2)) ?_
    refine P_det (by rfl) (Over_nil (y_load1 (by rfl) Tryd.isAgg3 (Mem.own1 5 (by rfl) (by rfl)))) ?_
    refine P_det (by rfl) (Over_nil (y_callL (by rfl) (by rfl) Tryd.call112 (fun w hw => up_any g 0 l.tk l.tk.foot w (Gg.own (by repeat (first | exact List.mem_cons_self | apply List.mem_cons_of_mem)) (Tk.ok_iff.2 hok.tk) hx w hw) hf0 hf1))) ?_
    apply P_newS _ (by rfl) (by rfl) (by rfl) (Over_nil (y_alloc Tryd.zeroValue63 (by rfl)))
    refine P_st 6 0 (by rfl) (by rfl) (by rfl) (by rfl) (by rfl) (Over_nil (st_new (fun _ => by rfl) Tryd.sizeOf63 (by rfl) (by rfl) (by first | decide | exact Nat.le_of_ble_eq_true rfl | simp))) ?_
    refine P_det (by rfl) (Over_out (by rfl) (Over_nil (y_assign (c := .int .i64 _) (by rfl)))) ?_
    refine PW_end (by rfl) ?_
    refine OverAll_cons (fun w6 l6 => ?_)
    refine OverAll_nil ?_
    rintro ⟨-, h6⟩
    obtain ⟨b3, rfl, rfl⟩ := h6
    refine Then_normal ?_
    refine W_seq ?_
    refine W_region_lit (fun ds => ?_)
    refine WS_det hF (by rfl) (y_fieldAddr (by rfl) fa63_0) ?_
    refine WS_det hF (by rfl) (y_load1 (by rfl) Tryd.isAgg3 (Mem.own1 0 (by rfl) (by rfl))) ?_
    refine WS_det hF (by rfl) (y_move (c := .int .i64 _) (by rfl)) ?_
    refine WS_det hF (by rfl) (y_sub (by rfl) (by rfl) (by unfold I64; omega)) ?_
    refine WS_det hF (by rfl) (y_max (by rfl) (by rfl)) ?_
    refine WS_det hF (by rfl) (y_fieldAddr (by rfl) fa63_1) ?_
    refine WS_det hF (by rfl) (y_load1 (by rfl) Tryd.isAgg3 (Mem.own1 0 (by rfl) (by rfl))) ?_
    refine WS_det hF (by rfl) (y_move (c := .int .i64 _) (by rfl)) ?_
    refine WS_det hF (by rfl) (y_sub (by rfl) (by rfl) (by unfold I64; omega)) ?_
    refine WS_det hF (by rfl) (y_max (by rfl) (by rfl)) ?_
    refine WS_det hF (by rfl) (y_buildL bd63_0_1 (by rfl)) ?_
    refine WS_store hF (i := 7) (by rfl) (by rfl) Tryd.sizeOf63 (by rfl) (by rfl) (by rfl) (by first | decide | exact Nat.le_of_ble_eq_true rfl | simp) ?_
    refine WS_det hF (by rfl) (y_assign (c := .int .i64 _) (by rfl)) ?_
    refine WS_nil ?_
    refine Then_normal ?_
    refine W_ret ?_
    refine Fin_ret [_, .int .i64 _] [] Tryd.results77 ⟨lvN (by rfl) Tryd.isAgg63 Tryd.sizeOf63 (Mem.own (us := [.int .i64 _, .int .i64 _]) 7 (by rfl) (by rfl)) (by rfl), by rfl, trivial⟩ HSub.nil ?_
    show Value.tuple _ = _
    unfold Lg.readyV
    rw [if_pos c2]; rfl
def Lg.roomV (l : Lg) : Value :=
  if l.aerr = 0 then .tuple #[.agg (Sn.sub ⟨l.tk.full, l.tk.full⟩ l.last).cells.toArray, .int .i64 0] else .tuple #[.agg Sn.z.cells.toArray, .int .i64 l.aerr]
end Go.Proofs.YtjekjehgmljbgaaDoor.T

/- The dip that tells most: the walk. -/
namespace Go.Proofs.YtjekjehgmljbgaaDoor.T
open Go.RowKit Go.Proofs Go.Eng
set_option maxRecDepth 100000
set_option maxHeartbeats 1000000
set_option linter.unusedVariables false
set_option linter.unusedSimpArgs false



def cmpI (x y : Int) : Int := if x < y then -1 else if y < x then 1 else 0
def worstS (t : Tk) (s : Sn) (i : Int) : Int := max (min (max 0 (t.up i - s.lo)) (s.hi - s.lo + 1)) (s.hi - s.lo + 1 - min (max 0 (t.up i - s.lo)) (s.hi - s.lo + 1))
def Lg.worst (l : Lg) (i : Int) : Int := worstS l.tk l.last i
/-- The first index of the least value. -/
def bestN (f : Nat → Int) : Nat → Nat
  | 0 => 0
  | k + 1 => if f k < f (bestN f k) then k else bestN f k
end Go.Proofs.YtjekjehgmljbgaaDoor.T

/- The dip that tells most: first, and Ask. -/
namespace Go.Proofs.YtjekjehgmljbgaaDoor.T
open Go.RowKit Go.Proofs Go.Eng
set_option maxRecDepth 100000
set_option maxHeartbeats 1000000
set_option linter.unusedVariables false
set_option linter.unusedSimpArgs false



def Lg.wN (l : Lg) (k : Nat) : Int := l.worst (k : Int)
def Lg.hN (l : Lg) : Nat := 8 * (l.tk.n - 1) + 1
def Lg.askV (l : Lg) : Value :=
  if l.aerr = 0 then if l.last.hi = l.last.lo then .tuple #[.int .i64 0, .int .i64 0, .int .i64 6] else .tuple #[.int .i64 (bestN l.wN l.hN : Nat), .int .i64 (l.wN (bestN l.wN l.hN)), .int .i64 0] else .tuple #[.int .i64 0, .int .i64 0, .int .i64 l.aerr]
end Go.Proofs.YtjekjehgmljbgaaDoor.T

/- The reference's logs: the walks, first part. -/
namespace Go.Proofs.YtjekjehgmljbgaaDoor.T
open Go.RowKit Go.Proofs Go.Eng
set_option maxRecDepth 100000
set_option maxHeartbeats 1000000
set_option linter.unusedVariables false
set_option linter.unusedSimpArgs false



theorem both_any (a b c d : Int) (w : World) :
    Ct Tryd.prog 170 #[.agg #[.int .i64 a, .int .i64 b], .agg #[.int .i64 c, .int .i64 d]] w fun v _ => v = .agg #[.int .i64 (max a c), .int .i64 (min b d)] := by
  have hF := wide_wide
  refine Ct_start (args := [_, _]) Tryd.func170 (by rfl) Tryd.ntmps170 (by rfl) ?_
  refine W_seq ?_
  refine W_region_lit (fun ds => ?_)
  refine WS_new hF (by rfl) (y_box (by rfl)) (fun b1 => ?_)
  refine WS_new hF (by rfl) (y_box (by rfl)) (fun b2 => ?_)
  refine WS_new hF (by rfl) (y_alloc Tryd.zeroValue63 (by rfl)) (fun b3 => ?_)
  refine WS_nil ?_
  refine Then_normal ?_
  refine W_seq ?_
  refine W_region_lit (fun ds => ?_)
  refine WS_det hF (by rfl) (y_fieldAddr (by rfl) fa63_0) ?_
  refine WS_det hF (by rfl) (y_load1 (by rfl) Tryd.isAgg3 (Mem.own1 2 (by rfl) (by rfl))) ?_
  refine WS_det hF (by rfl) (y_fieldAddr (by rfl) fa63_0) ?_
  refine WS_det hF (by rfl) (y_load1 (by rfl) Tryd.isAgg3 (Mem.own1 1 (by rfl) (by rfl))) ?_
  refine WS_det hF (by rfl) (y_max (by rfl) (by rfl)) ?_
  refine WS_det hF (by rfl) (y_fieldAddr (by rfl) fa63_1) ?_
  refine WS_det hF (by rfl) (y_load1 (by rfl) Tryd.isAgg3 (Mem.own1 2 (by rfl) (by rfl))) ?_
  refine WS_det hF (by rfl) (y_fieldAddr (by rfl) fa63_1) ?_
  refine WS_det hF (by rfl) (y_load1 (by rfl) Tryd.isAgg3 (Mem.own1 1 (by rfl) (by rfl))) ?_
  refine WS_det hF (by rfl) (y_min (by rfl) (by rfl)) ?_
  refine WS_det hF (by rfl) (y_buildL bd63_0_1 (by rfl)) ?_
  refine WS_store hF (i := 0) (by rfl) (by rfl) Tryd.sizeOf63 (by rfl) (by rfl) (by rfl) (by first | decide | exact Nat.le_of_ble_eq_true rfl | simp) ?_
  refine WS_nil ?_
  refine Then_normal ?_
  refine W_ret ?_
  refine Fin_ret [_] [] Tryd.results170 ⟨lvN (by rfl) Tryd.isAgg63 Tryd.sizeOf63 (Mem.own (us := [.int .i64 _, .int .i64 _]) 0 (by rfl) (by rfl)) (by rfl), trivial⟩ HSub.nil ?_
  rfl
theorem none_any (a b : Int) (w : World) :
    Ct Tryd.prog 195 #[.agg #[.int .i64 a, .int .i64 b]] w fun v _ => v = .bool (decide (b < a)) := by
  have hF := wide_wide
  refine Ct_start (args := [_]) Tryd.func195 (by rfl) Tryd.ntmps195 (by rfl) ?_
  refine W_seq ?_
  refine W_region_lit (fun ds => ?_)
  refine WS_new hF (by rfl) (y_box (by rfl)) (fun b1 => ?_)
  refine WS_det hF (by rfl) (y_assign (c := .bool _) (by rfl)) ?_
  refine WS_nil ?_
  refine Then_normal ?_
  refine W_seq ?_
  refine W_region_lit (fun ds => ?_)
  refine WS_det hF (by rfl) (y_fieldAddr (by rfl) fa63_0) ?_
  refine WS_det hF (by rfl) (y_load1 (by rfl) Tryd.isAgg3 (Mem.own1 0 (by rfl) (by rfl))) ?_
  refine WS_det hF (by rfl) (y_fieldAddr (by rfl) fa63_1) ?_
  refine WS_det hF (by rfl) (y_load1 (by rfl) Tryd.isAgg3 (Mem.own1 0 (by rfl) (by rfl))) ?_
  refine WS_det hF (by rfl) (y_gtr (by rfl) (by rfl)) ?_
  refine WS_det hF (by rfl) (y_assign (c := .bool _) (by rfl)) ?_
  refine WS_nil ?_
  refine Then_normal ?_
  refine W_ret ?_
  refine Fin_ret [.bool _] [] Tryd.results195 ⟨by rfl, trivial⟩ HSub.nil ?_
  rfl
theorem all_any (l : Lg) (a : Option Addr) (cap : Nat) (ae : Option Addr) (cape : Nat) (w : World) (hok : l.tk.Ok) (hn : l.tk.n ≤ 1000000) (hx : Ints w a l.tk.n cap l.tk.pints) (he : Ens w ae l.es.length cape l.es) :
    Ct Tryd.prog 196 #[.agg #[.slice a l.tk.n cap, .int .i64 l.tk.leak, .int .i64 l.tk.foot, .int .i64 l.start.lo, .int .i64 l.start.hi, .slice ae l.es.length cape]] w fun v _ => v = .agg l.tk.all.cells.toArray := by
  have := hok.n2
  have hF := wide_wide
  refine Ct_start (args := [_]) Tryd.func196 (by rfl) Tryd.ntmps196 (by rfl) ?_
  refine W_seq ?_
  refine W_region_lit (fun ds => ?_)
  refine WS_new hF (by rfl) (y_box (by rfl)) (fun b1 => ?_)
  refine WS_new hF (by rfl) (y_alloc Tryd.zeroValue63 (by rfl)) (fun b2 => ?_)
  refine WS_nil ?_
  refine Then_normal ?_
  refine W_seq ?_
  refine W_region_lit (fun ds => ?_)
  refine WS_det hF (by rfl) (y_fieldAddr (by rfl) fa66_0) ?_
  refine WS_det hF (by rfl) (y_loadN (by rfl) Tryd.isAgg61 Tryd.sizeOf61 (Mem.own (us := [.slice _ _ _, .int .i64 _, .int .i64 _]) 1 (by rfl) (by rfl)) (by rfl)) ?_
  refine WS_det hF (by rfl) (y_callL (by rfl) (by rfl) Tryd.call151 (fun w hw => full_any l.tk a cap w hn (by omega) (hx.st w hw))) ?_
  refine WS_det hF (by rfl) (y_buildL bd63_0_1 (by rfl)) ?_
  refine WS_store hF (i := 0) (by rfl) (by rfl) Tryd.sizeOf63 (by rfl) (by rfl) (by rfl) (by first | decide | exact Nat.le_of_ble_eq_true rfl | simp) ?_
  refine WS_nil ?_
  refine Then_normal ?_
  refine W_ret ?_
  refine Fin_ret [_] [] Tryd.results196 ⟨lvN (by rfl) Tryd.isAgg63 Tryd.sizeOf63 (Mem.own (us := [.int .i64 _, .int .i64 _]) 0 (by rfl) (by rfl)) (by rfl), trivial⟩ HSub.nil ?_
  rfl
theorem leak_any (l : Lg) (a : Option Addr) (cap : Nat) (ae : Option Addr) (cape : Nat) (i : Nat) (m : Int) (w : World) (hok : l.Ok) (hn : l.tk.n ≤ 1000000) (hx : Ints w a l.tk.n cap l.tk.pints) (he : Ens w ae l.es.length cape l.es) (hi : i < l.es.length) (hi0 : 0 < i) (hm : m = (i : Int)) :
    Ct Tryd.prog 198 #[.agg #[.slice a l.tk.n cap, .int .i64 l.tk.leak, .int .i64 l.tk.foot, .int .i64 l.start.lo, .int .i64 l.start.hi, .slice ae l.es.length cape], .int .i64 m] w fun v _ => v = .int .i64 (l.drip i) := by
  subst hm
  have hd := hok.drip_bd hi
  have h12 := hok.n12
  obtain ⟨b, o, rfl⟩ := he.adr (by omega)
  have e1 : At w b (o + i * 4) (l.e i).cells := he.at hi
  have e0 : At w b (o + (i - 1) * 4) (l.e (i - 1)).cells := he.at (k := i - 1) (by omega)
  have d1 := hok.day i hi
  have d0 := hok.day (i - 1) (by omega)
  rw [Lg.drip, if_neg (by omega)] at hd ⊢
  have hF := wide_wide
  refine Ct_start (args := [_, _]) Tryd.func198 (by rfl) Tryd.ntmps198 (by rfl) ?_
  refine W_seq ?_
  refine W_region_lit (fun ds => ?_)
  refine WS_new hF (by rfl) (y_box (by rfl)) (fun b1 => ?_)
  refine WS_det hF (by rfl) (y_assign (c := .int .i64 _) (by rfl)) ?_
  refine WS_nil ?_
  refine Then_normal ?_
  refine W_seq ?_
  refine W_draw0 hF Trydmixed [] (by decide +kernel) (fun ds => ?_)
  refine P_det (by rfl) (Over_nil (y_fieldAddr (by rfl) fa66_0)) ?_
  refine P_det (by rfl) (Over_nil (y_fieldAddr (by rfl) fa61_1)) ?_
  refine P_det (by rfl) (Over_nil (y_load1 (by rfl) Tryd.isAgg3 (Mem.own1 0 (by rfl) (by rfl)))) ?_
  refine P_det (by rfl) (Over_nil (y_fieldAddr (by rfl) fa66_2)) ?_
  refine P_det (by rfl) (Over_nil (y_load1 (by rfl) Tryd.isAgg64 (Mem.own1 0 (by rfl) (by rfl)))) ?_
  refine P_det (by rfl) (Over_nil (y_move (c := .int .i64 _) (by rfl))) ?_
  refine P_det (by rfl) (Over_nil (y_index (k := i) (by rfl) (by rfl) (by first | rfl | omega) (by first | decide | omega) Tryd.runUnderlying64 Tryd.sizeOf77)) ?_
  refine P_det (by rfl) (Over_nil (y_fieldAddr (by rfl) fa77_0)) ?_
  refine P_det (by rfl) (Over_nil (y_load1 (by rfl) Tryd.isAgg3 (by first | exact Mem.old1 (by assumption) | exact Mem.oldAt1 (by assumption) (by rfl) | exact Mem.old (by assumption) | exact Mem.oldAtL1 (by assumption) (by rfl) (by rfl)))) ?_
  refine P_det (by rfl) (Over_nil (y_fieldAddr (by rfl) fa66_2)) ?_
  refine P_det (by rfl) (Over_nil (y_load1 (by rfl) Tryd.isAgg64 (Mem.own1 0 (by rfl) (by rfl)))) ?_
  refine P_det (by rfl) (Over_nil (y_move (c := .int .i64 _) (by rfl))) ?_
  refine P_det (by rfl) (Over_nil (y_sub (by rfl) (by rfl) (by unfold I64; omega))) ?_
  refine P_det (by rfl) (Over_nil (y_index (k := i - 1) (by rfl) (by rfl) (by first | rfl | omega) (by first | decide | omega) Tryd.runUnderlying64 Tryd.sizeOf77)) ?_
  refine P_det (by rfl) (Over_nil (y_fieldAddr (by rfl) fa77_0)) ?_
  refine P_det (by rfl) (Over_nil (y_load1 (by rfl) Tryd.isAgg3 (by first | exact Mem.old1 (by assumption) | exact Mem.oldAt1 (by assumption) (by rfl) | exact Mem.old (by assumption) | exact Mem.oldAtL1 (by assumption) (by rfl) (by rfl)))) ?_
  refine P_det (by rfl) (Over_nil (y_sub (by rfl) (by rfl) (by unfold I64; omega))) ?_
  refine P_det (by rfl) (Over_nil (y_mul (by rfl) (by rfl) (by unfold I64; omega))) ?_
  refine P_det (by rfl) (Over_nil (y_assign (c := .int .i64 _) (by rfl))) ?_
  refine PW_end (by rfl) ?_
  refine OverAll_nil ?_
  rintro -
  refine Then_normal ?_
  refine W_ret ?_
  refine Fin_ret [.int .i64 _] [] Tryd.results198 ⟨by rfl, trivial⟩ HSub.nil ?_
  rfl
theorem entry_any (l : Lg) (a : Option Addr) (cap : Nat) (ae : Option Addr) (cape : Nat) (x : En) (day : Int) (w : World) (hok : l.tk.Ok) (hn : l.tk.n ≤ 1000000) (hx : Ints w a l.tk.n cap l.tk.pints) (he : Ens w ae l.es.length cape l.es) :
    Ct Tryd.prog 152 #[.agg #[.slice a l.tk.n cap, .int .i64 l.tk.leak, .int .i64 l.tk.foot], .agg x.cells.toArray, .int .i64 day] w fun v _ => v = .bool (l.tk.entB day x) := by
  have := hok.n2
  have hh : l.tk.entB day x = (inB day 3652 [x.day] && inB 1 3 [x.kind] && (inB 0 (l.tk.most x.kind) [x.size.lo, x.size.hi] && decide (x.size.lo ≤ x.size.hi))) := rfl
  rw [hh]
  have hF := wide_wide
  refine Ct_start (args := [_, _, _]) Tryd.func152 (by rfl) Tryd.ntmps152 (by rfl) ?_
  refine W_seq ?_
  refine W_region_lit (fun ds => ?_)
  refine WS_new hF (by rfl) (y_box (by rfl)) (fun b1 => ?_)
  refine WS_new hF (by rfl) (y_box (by rfl)) (fun b2 => ?_)
  refine WS_det hF (by rfl) (y_assign (c := .bool _) (by rfl)) ?_
  refine WS_nil ?_
  refine Then_normal ?_
  refine W_seq ?_
  refine W_seq ?_
  refine W_region_lit (fun ds => ?_)
  refine WS_det hF (by rfl) (y_fieldAddr (by rfl) fa77_0) ?_
  refine WS_det hF (by rfl) (y_load1 (by rfl) Tryd.isAgg3 (Mem.own1 0 (by rfl) (by rfl))) ?_
  refine WS_det hF (by rfl) (y_move (c := .int .i64 _) (by rfl)) ?_
  refine WS_det hF (by rfl) (y_callL (by rfl) (by rfl) Tryd.call148 (fun w hw => within_any _ _ _ w)) ?_
  refine WS_det hF (by rfl) (y_not (by rfl)) ?_
  refine WS_nil ?_
  refine Then_normal ?_
  refine W_cond (by rfl) (fun c1 => ?_) (fun c1 => ?_)
  ·
    try simp only [Bool.not_eq_true', Bool.not_eq_false', decide_eq_true_eq, decide_eq_false_iff_not, ne_eq, Classical.not_not, Int.not_lt, Int.not_le] at c1
    refine W_seq ?_
    refine W_region_lit (fun ds => ?_)
    refine WS_det hF (by rfl) (y_assign (c := .bool _) (by rfl)) ?_
    refine WS_nil ?_
    refine Then_normal ?_
    refine W_ret ?_
    refine Then_ret ?_
    refine Fin_ret [.bool _] [] Tryd.results152 ⟨by rfl, trivial⟩ HSub.nil ?_
    show Value.bool _ = _
    first
      | (rw [c1]; rfl)
      | (rw [c1, show inB 1 3 [x.kind] = true from inB1.2 (by omega)]; unfold Tk.most; rw [if_neg (by omega)]; rfl)
      | (rw [c1, show inB 1 3 [x.kind] = true from inB1.2 (by omega)]; unfold Tk.most; rw [if_pos (by omega)]; rfl)
      | (rw [show inB 1 3 [x.kind] = false from inB1f.2 (by omega), Bool.and_false]; rfl)
  ·
    try simp only [Bool.not_eq_true', Bool.not_eq_false', decide_eq_true_eq, decide_eq_false_iff_not, ne_eq, Classical.not_not, Int.not_lt, Int.not_le] at c1
    refine W_skip ?_
    refine Then_normal ?_
    refine W_seq ?_
    refine W_seq ?_
    refine W_region_lit (fun ds => ?_)
    refine WS_det hF (by rfl) (y_fieldAddr (by rfl) fa77_1) ?_
    refine WS_det hF (by rfl) (y_load1 (by rfl) Tryd.isAgg3 (Mem.own1 0 (by rfl) (by rfl))) ?_
    refine WS_nil ?_
    refine Then_normal ?_
    refine W_block ?_
    refine W_seq ?_
    refine W_seq ?_
    refine W_region_lit (fun ds => ?_)
    refine WS_det hF (by rfl) (y_eql (by rfl) (by rfl)) ?_
    refine WS_det hF (by rfl) (y_assign (c := .bool _) (by rfl)) ?_
    refine WS_nil ?_
    refine Then_normal ?_
    refine W_cond (by rfl) (fun c4 => ?_) (fun c4 => ?_)
    ·
      try simp only [Bool.not_eq_true', Bool.not_eq_false', decide_eq_true_eq, decide_eq_false_iff_not, ne_eq, Classical.not_not, Int.not_lt, Int.not_le] at c4
      refine W_skip ?_
      refine Then_normal ?_
      refine W_cond (by rfl) (fun c4 => ?_) (fun c4 => ?_)
      ·
        try simp only [Bool.not_eq_true', Bool.not_eq_false', decide_eq_true_eq, decide_eq_false_iff_not, ne_eq, Classical.not_not, Int.not_lt, Int.not_le] at c4
        refine W_seq ?_
        refine W_draw0 hF Trydmixed [] (by decide +kernel) (fun ds => ?_)
        refine P_det (by rfl) (Over_nil (y_fieldAddr (by rfl) fa77_2)) ?_
        refine P_det (by rfl) (Over_nil (y_loadN (by rfl) Tryd.isAgg63 Tryd.sizeOf63 (Mem.own (us := [.int .i64 _, .int .i64 _]) 0 (by rfl) (by rfl)) (by rfl))) ?_
        refine P_det (by rfl) (Over_nil (y_loadN (by rfl) Tryd.isAgg61 Tryd.sizeOf61 (Mem.own (us := [.slice _ _ _, .int .i64 _, .int .i64 _]) 1 (by rfl) (by rfl)) (by rfl))) ?_
        refine P_det (by rfl) (Over_nil (y_callL (by rfl) (by rfl) Tryd.call151 (fun w hw => full_any l.tk a cap w hn (by omega) (hx.st w hw)))) ?_
        refine P_det (by rfl) (Over_nil (y_callL (by rfl) (by rfl) Tryd.call150 (fun w hw => spanned_any _ _ _ w))) ?_
        refine P_det (by rfl) (Over_nil (y_assign (c := .bool _) (by rfl))) ?_
        refine PW_end (by rfl) ?_
        refine OverAll_nil ?_
        rintro -
        refine Then_normal ?_
        refine W_ret ?_
        refine InB_ret ?_
        refine Then_ret ?_
        refine Fin_ret [.bool _] [] Tryd.results152 ⟨by rfl, trivial⟩ HSub.nil ?_
        show Value.bool _ = _
        first
          | (rw [c1]; rfl)
          | (rw [c1, show inB 1 3 [x.kind] = true from inB1.2 (by omega)]; unfold Tk.most; rw [if_neg (by omega)]; rfl)
          | (rw [c1, show inB 1 3 [x.kind] = true from inB1.2 (by omega)]; unfold Tk.most; rw [if_pos (by omega)]; rfl)
          | (rw [show inB 1 3 [x.kind] = false from inB1f.2 (by omega), Bool.and_false]; rfl)
      ·
        try simp only [Bool.not_eq_true', Bool.not_eq_false', decide_eq_true_eq, decide_eq_false_iff_not, ne_eq, Classical.not_not, Int.not_lt, Int.not_le] at c4
        refine W_seq ?_
        refine W_region_lit (fun ds => ?_)
        refine WS_det hF (by rfl) (y_eql (by rfl) (by rfl)) ?_
        refine WS_det hF (by rfl) (y_assign (c := .bool _) (by rfl)) ?_
        refine WS_nil ?_
        refine Then_normal ?_
        refine W_cond (by rfl) (fun c7 => ?_) (fun c7 => ?_)
        ·
          try simp only [Bool.not_eq_true', Bool.not_eq_false', decide_eq_true_eq, decide_eq_false_iff_not, ne_eq, Classical.not_not, Int.not_lt, Int.not_le] at c7
          refine W_seq ?_
          refine W_draw0 hF Trydmixed [] (by decide +kernel) (fun ds => ?_)
          refine P_det (by rfl) (Over_nil (y_fieldAddr (by rfl) fa77_2)) ?_
          refine P_det (by rfl) (Over_nil (y_loadN (by rfl) Tryd.isAgg63 Tryd.sizeOf63 (Mem.own (us := [.int .i64 _, .int .i64 _]) 0 (by rfl) (by rfl)) (by rfl))) ?_
          refine P_det (by rfl) (Over_nil (y_loadN (by rfl) Tryd.isAgg61 Tryd.sizeOf61 (Mem.own (us := [.slice _ _ _, .int .i64 _, .int .i64 _]) 1 (by rfl) (by rfl)) (by rfl))) ?_
          refine P_det (by rfl) (Over_nil (y_callL (by rfl) (by rfl) Tryd.call149 (fun w hw => height_any l.tk a cap w hn))) ?_
          refine P_det (by rfl) (Over_nil (y_callL (by rfl) (by rfl) Tryd.call150 (fun w hw => spanned_any _ _ _ w))) ?_
          refine P_det (by rfl) (Over_nil (y_assign (c := .bool _) (by rfl))) ?_
          refine PW_end (by rfl) ?_
          refine OverAll_nil ?_
          rintro -
          refine Then_normal ?_
          refine W_ret ?_
          refine InB_ret ?_
          refine Then_ret ?_
          refine Fin_ret [.bool _] [] Tryd.results152 ⟨by rfl, trivial⟩ HSub.nil ?_
          show Value.bool _ = _
          first
            | (rw [c1]; rfl)
            | (rw [c1, show inB 1 3 [x.kind] = true from inB1.2 (by omega)]; unfold Tk.most; rw [if_neg (by omega)]; rfl)
            | (rw [c1, show inB 1 3 [x.kind] = true from inB1.2 (by omega)]; unfold Tk.most; rw [if_pos (by omega)]; rfl)
            | (rw [show inB 1 3 [x.kind] = false from inB1f.2 (by omega), Bool.and_false]; rfl)
        ·
          try simp only [Bool.not_eq_true', Bool.not_eq_false', decide_eq_true_eq, decide_eq_false_iff_not, ne_eq, Classical.not_not, Int.not_lt, Int.not_le] at c7
          refine W_skip ?_
          refine InB_normal ?_
          refine Then_normal ?_
          refine W_seq ?_
          refine W_region_lit (fun ds => ?_)
          refine WS_det hF (by rfl) (y_assign (c := .bool _) (by rfl)) ?_
          refine WS_nil ?_
          refine Then_normal ?_
          refine W_ret ?_
          refine Fin_ret [.bool _] [] Tryd.results152 ⟨by rfl, trivial⟩ HSub.nil ?_
          show Value.bool _ = _
          first
            | (rw [c1]; rfl)
            | (rw [c1, show inB 1 3 [x.kind] = true from inB1.2 (by omega)]; unfold Tk.most; rw [if_neg (by omega)]; rfl)
            | (rw [c1, show inB 1 3 [x.kind] = true from inB1.2 (by omega)]; unfold Tk.most; rw [if_pos (by omega)]; rfl)
            | (rw [show inB 1 3 [x.kind] = false from inB1f.2 (by omega), Bool.and_false]; rfl)
    ·
      try simp only [Bool.not_eq_true', Bool.not_eq_false', decide_eq_true_eq, decide_eq_false_iff_not, ne_eq, Classical.not_not, Int.not_lt, Int.not_le] at c4
      refine W_region_lit (fun ds => ?_)
      refine WS_det hF (by rfl) (y_eql (by rfl) (by rfl)) ?_
      refine WS_det hF (by rfl) (y_assign (c := .bool _) (by rfl)) ?_
      refine WS_nil ?_
      refine Then_normal ?_
      refine W_cond (by rfl) (fun c5 => ?_) (fun c5 => ?_)
      ·
        try simp only [Bool.not_eq_true', Bool.not_eq_false', decide_eq_true_eq, decide_eq_false_iff_not, ne_eq, Classical.not_not, Int.not_lt, Int.not_le] at c5
        refine W_seq ?_
        refine W_draw0 hF Trydmixed [] (by decide +kernel) (fun ds => ?_)
        refine P_det (by rfl) (Over_nil (y_fieldAddr (by rfl) fa77_2)) ?_
        refine P_det (by rfl) (Over_nil (y_loadN (by rfl) Tryd.isAgg63 Tryd.sizeOf63 (Mem.own (us := [.int .i64 _, .int .i64 _]) 0 (by rfl) (by rfl)) (by rfl))) ?_
        refine P_det (by rfl) (Over_nil (y_loadN (by rfl) Tryd.isAgg61 Tryd.sizeOf61 (Mem.own (us := [.slice _ _ _, .int .i64 _, .int .i64 _]) 1 (by rfl) (by rfl)) (by rfl))) ?_
        refine P_det (by rfl) (Over_nil (y_callL (by rfl) (by rfl) Tryd.call151 (fun w hw => full_any l.tk a cap w hn (by omega) (hx.st w hw)))) ?_
        refine P_det (by rfl) (Over_nil (y_callL (by rfl) (by rfl) Tryd.call150 (fun w hw => spanned_any _ _ _ w))) ?_
        refine P_det (by rfl) (Over_nil (y_assign (c := .bool _) (by rfl))) ?_
        refine PW_end (by rfl) ?_
        refine OverAll_nil ?_
        rintro -
        refine Then_normal ?_
        refine W_ret ?_
        refine InB_ret ?_
        refine Then_ret ?_
        refine Fin_ret [.bool _] [] Tryd.results152 ⟨by rfl, trivial⟩ HSub.nil ?_
        show Value.bool _ = _
        first
          | (rw [c1]; rfl)
          | (rw [c1, show inB 1 3 [x.kind] = true from inB1.2 (by omega)]; unfold Tk.most; rw [if_neg (by omega)]; rfl)
          | (rw [c1, show inB 1 3 [x.kind] = true from inB1.2 (by omega)]; unfold Tk.most; rw [if_pos (by omega)]; rfl)
          | (rw [show inB 1 3 [x.kind] = false from inB1f.2 (by omega), Bool.and_false]; rfl)
      ·
        try simp only [Bool.not_eq_true', Bool.not_eq_false', decide_eq_true_eq, decide_eq_false_iff_not, ne_eq, Classical.not_not, Int.not_lt, Int.not_le] at c5
        refine W_seq ?_
        refine W_region_lit (fun ds => ?_)
        refine WS_det hF (by rfl) (y_eql (by rfl) (by rfl)) ?_
        refine WS_det hF (by rfl) (y_assign (c := .bool _) (by rfl)) ?_
        refine WS_nil ?_
        refine Then_normal ?_
        refine W_cond (by rfl) (fun c7 => ?_) (fun c7 => ?_)
        ·
          try simp only [Bool.not_eq_true', Bool.not_eq_false', decide_eq_true_eq, decide_eq_false_iff_not, ne_eq, Classical.not_not, Int.not_lt, Int.not_le] at c7
          refine W_seq ?_
          refine W_draw0 hF Trydmixed [] (by decide +kernel) (fun ds => ?_)
          refine P_det (by rfl) (Over_nil (y_fieldAddr (by rfl) fa77_2)) ?_
          refine P_det (by rfl) (Over_nil (y_loadN (by rfl) Tryd.isAgg63 Tryd.sizeOf63 (Mem.own (us := [.int .i64 _, .int .i64 _]) 0 (by rfl) (by rfl)) (by rfl))) ?_
          refine P_det (by rfl) (Over_nil (y_loadN (by rfl) Tryd.isAgg61 Tryd.sizeOf61 (Mem.own (us := [.slice _ _ _, .int .i64 _, .int .i64 _]) 1 (by rfl) (by rfl)) (by rfl))) ?_
          refine P_det (by rfl) (Over_nil (y_callL (by rfl) (by rfl) Tryd.call149 (fun w hw => height_any l.tk a cap w hn))) ?_
          refine P_det (by rfl) (Over_nil (y_callL (by rfl) (by rfl) Tryd.call150 (fun w hw => spanned_any _ _ _ w))) ?_
          refine P_det (by rfl) (Over_nil (y_assign (c := .bool _) (by rfl))) ?_
          refine PW_end (by rfl) ?_
          refine OverAll_nil ?_
          rintro -
          refine Then_normal ?_
          refine W_ret ?_
          refine InB_ret ?_
          refine Then_ret ?_
          refine Fin_ret [.bool _] [] Tryd.results152 ⟨by rfl, trivial⟩ HSub.nil ?_
          show Value.bool _ = _
          first
            | (rw [c1]; rfl)
            | (rw [c1, show inB 1 3 [x.kind] = true from inB1.2 (by omega)]; unfold Tk.most; rw [if_neg (by omega)]; rfl)
            | (rw [c1, show inB 1 3 [x.kind] = true from inB1.2 (by omega)]; unfold Tk.most; rw [if_pos (by omega)]; rfl)
            | (rw [show inB 1 3 [x.kind] = false from inB1f.2 (by omega), Bool.and_false]; rfl)
        ·
          try simp only [Bool.not_eq_true', Bool.not_eq_false', decide_eq_true_eq, decide_eq_false_iff_not, ne_eq, Classical.not_not, Int.not_lt, Int.not_le] at c7
          refine W_skip ?_
          refine InB_normal ?_
          refine Then_normal ?_
          refine W_seq ?_
          refine W_region_lit (fun ds => ?_)
          refine WS_det hF (by rfl) (y_assign (c := .bool _) (by rfl)) ?_
          refine WS_nil ?_
          refine Then_normal ?_
          refine W_ret ?_
          refine Fin_ret [.bool _] [] Tryd.results152 ⟨by rfl, trivial⟩ HSub.nil ?_
          show Value.bool _ = _
          first
            | (rw [c1]; rfl)
            | (rw [c1, show inB 1 3 [x.kind] = true from inB1.2 (by omega)]; unfold Tk.most; rw [if_neg (by omega)]; rfl)
            | (rw [c1, show inB 1 3 [x.kind] = true from inB1.2 (by omega)]; unfold Tk.most; rw [if_pos (by omega)]; rfl)
            | (rw [show inB 1 3 [x.kind] = false from inB1f.2 (by omega), Bool.and_false]; rfl)
theorem done_any (l : Lg) (a : Option Addr) (cap : Nat) (ae : Option Addr) (cape : Nat) (i : Nat) (s : Sn) (w : World) (hok : l.Ok) (hn : l.tk.n ≤ 1000000) (hx : Ints w a l.tk.n cap l.tk.pints) (he : Ens w ae l.es.length cape l.es) (hi : i < l.es.length) (hs : s.Sm) :
    Ct Tryd.prog 193 #[.agg #[.slice a l.tk.n cap, .int .i64 l.tk.leak, .int .i64 l.tk.foot, .int .i64 l.start.lo, .int .i64 l.start.hi, .slice ae l.es.length cape], .agg (l.e i).cells.toArray, .agg s.cells.toArray] w fun v _ => v = .agg (l.tk.forth (l.e i) s).cells.toArray := by
  have hz := hok.sm hi
  have hq := hok.size i hi
  have hkd := hok.kind i hi
  unfold Sn.Sm at hs hz
  generalize l.e i = x at *
  have hF := wide_wide
  refine Ct_start (args := [_, _, _]) Tryd.func193 (by rfl) Tryd.ntmps193 (by rfl) ?_
  refine W_seq ?_
  refine W_region_lit (fun ds => ?_)
  refine WS_new hF (by rfl) (y_box (by rfl)) (fun b1 => ?_)
  refine WS_new hF (by rfl) (y_box (by rfl)) (fun b2 => ?_)
  refine WS_new hF (by rfl) (y_box (by rfl)) (fun b3 => ?_)
  refine WS_new hF (by rfl) (y_alloc Tryd.zeroValue63 (by rfl)) (fun b4 => ?_)
  refine WS_nil ?_
  refine Then_normal ?_
  refine W_seq ?_
  refine W_seq ?_
  refine W_region_lit (fun ds => ?_)
  refine WS_det hF (by rfl) (y_fieldAddr (by rfl) fa77_1) ?_
  refine WS_det hF (by rfl) (y_load1 (by rfl) Tryd.isAgg3 (Mem.own1 2 (by rfl) (by rfl))) ?_
  refine WS_nil ?_
  refine Then_normal ?_
  refine W_block ?_
  refine W_seq ?_
  refine W_region_lit (fun ds => ?_)
  refine WS_det hF (by rfl) (y_eql (by rfl) (by rfl)) ?_
  refine WS_det hF (by rfl) (y_assign (c := .bool _) (by rfl)) ?_
  refine WS_nil ?_
  refine Then_normal ?_
  refine W_cond (by rfl) (fun c2 => ?_) (fun c2 => ?_)
  ·
    try simp only [Bool.not_eq_true', Bool.not_eq_false', decide_eq_true_eq, decide_eq_false_iff_not, ne_eq, Classical.not_not, Int.not_lt, Int.not_le] at c2
    refine W_seq ?_
    apply W_draw1 hF Trydmixed [1000000] (i := 0) (by rfl) (by decide +kernel)
    intro ds
    refine P_det (by rfl) (Over_out (by rfl) (Over_nil (y_fieldAddr (by rfl) fa63_0))) ?_
    refine P_det (by rfl) (Over_out (by rfl) (Over_nil (y_load1 (by rfl) Tryd.isAgg3 (Mem.own1 0 (by rfl) (by rfl))))) ?_
    refine P_det (by rfl) (Over_out (by rfl) (Over_nil (y_fieldAddr (by rfl) fa77_2))) ?_
    refine P_det (by rfl) (Over_out (by rfl) (Over_nil (y_fieldAddr (by rfl) fa63_0))) ?_
    refine P_det (by rfl) (Over_out (by rfl) (Over_nil (y_load1 (by rfl) Tryd.isAgg3 (Mem.own1 1 (by rfl) (by rfl))))) ?_
    refine P_det (by rfl) (Over_out (by rfl) (Over_nil (y_add (by rfl) (by rfl) (by unfold I64; omega)))) ?_
    refine P_det (by rfl) (Over_out (by rfl) (Over_nil (y_fieldAddr (by rfl) fa63_1))) ?_
    refine P_det (by rfl) (Over_out (by rfl) (Over_nil (y_load1 (by rfl) Tryd.isAgg3 (Mem.own1 0 (by rfl) (by rfl))))) ?_
    refine P_det (by rfl) (Over_out (by rfl) (Over_nil (y_fieldAddr (by rfl) fa77_2))) ?_
    refine P_det (by rfl) (Over_out (by rfl) (Over_nil (y_fieldAddr (by rfl) fa63_1))) ?_
    refine P_det (by rfl) (Over_out (by rfl) (Over_nil (y_load1 (by rfl) Tryd.isAgg3 (Mem.own1 1 (by rfl) (by rfl))))) ?_
    refine P_det (by rfl) (Over_out (by rfl) (Over_nil (y_add (by rfl) (by rfl) (by unfold I64; omega)))) ?_
    refine P_det (by rfl) (Over_out (by rfl) (Over_nil (y_buildL bd63_0_1 (by rfl)))) ?_
    refine P_det (by rfl) (Over_out (by rfl) (Over_nil (y_loadN (by rfl) Tryd.isAgg66 Tryd.sizeOf66 (Mem.own (us := [.slice _ _ _, .int .i64 _, .int .i64 _, .int .i64 _, .int .i64 _, .slice _ _ _]) 2 (by rfl) (by rfl)) (by rfl)))) ?_
    refine P_det (by rfl) (Over_out (by rfl) (Over_nil (y_callL (by rfl) (by rfl) Tryd.call196 (fun w hw => all_any l a cap ae cape w hok.tk hn (hx.st w hw) (he.st w hw))))) ?_
    refine P_det (by rfl) (Over_out (by rfl) (Over_nil (y_callL (by rfl) (by rfl) Tryd.call170 (fun w hw => both_any _ _ _ _ w)))) ?_
    refine P_st 1000000 0 (by rfl) (by rfl) (by rfl) (by rfl) (by rfl) (Over_nil (st_pre (fun _ => by rfl) (fun _ => by rfl) Tryd.sizeOf63 (by rfl) (by rfl) (by first | decide | exact Nat.le_of_ble_eq_true rfl | simp))) ?_
    refine PW_end (by rfl) ?_
    refine OverAll_cons (fun w1000000 l1000000 => ?_)
    refine OverAll_nil ?_
    rintro ⟨-, h1000000⟩
    obtain rfl := h1000000
    refine Then_normal ?_
    refine W_ret ?_
    refine InB_ret ?_
    refine Then_ret ?_
    refine Fin_ret [_] [] Tryd.results193 ⟨lvN (by rfl) Tryd.isAgg63 Tryd.sizeOf63 (Mem.own (us := [.int .i64 _, .int .i64 _]) 0 (by rfl) (by rfl)) (by rfl), trivial⟩ HSub.nil ?_
    show Value.agg _ = _
    unfold Tk.forth
    first
      | (rw [if_pos (by omega)]; rfl)
      | (rw [if_neg (by omega), if_pos (by omega)]; rfl)
      | (rw [if_neg (by omega), if_neg (by omega)]; rfl)
  ·
    try simp only [Bool.not_eq_true', Bool.not_eq_false', decide_eq_true_eq, decide_eq_false_iff_not, ne_eq, Classical.not_not, Int.not_lt, Int.not_le] at c2
    refine W_seq ?_
    refine W_region_lit (fun ds => ?_)
    refine WS_det hF (by rfl) (y_eql (by rfl) (by rfl)) ?_
    refine WS_det hF (by rfl) (y_assign (c := .bool _) (by rfl)) ?_
    refine WS_nil ?_
    refine Then_normal ?_
    refine W_cond (by rfl) (fun c4 => ?_) (fun c4 => ?_)
    ·
      try simp only [Bool.not_eq_true', Bool.not_eq_false', decide_eq_true_eq, decide_eq_false_iff_not, ne_eq, Classical.not_not, Int.not_lt, Int.not_le] at c4
      refine W_seq ?_
      apply W_draw1 hF Trydmixed [1000000] (i := 0) (by rfl) (by decide +kernel)
      intro ds
      refine P_det (by rfl) (Over_out (by rfl) (Over_nil (y_fieldAddr (by rfl) fa63_0))) ?_
      refine P_det (by rfl) (Over_out (by rfl) (Over_nil (y_load1 (by rfl) Tryd.isAgg3 (Mem.own1 0 (by rfl) (by rfl))))) ?_
      refine P_det (by rfl) (Over_out (by rfl) (Over_nil (y_fieldAddr (by rfl) fa77_2))) ?_
      refine P_det (by rfl) (Over_out (by rfl) (Over_nil (y_fieldAddr (by rfl) fa63_1))) ?_
      refine P_det (by rfl) (Over_out (by rfl) (Over_nil (y_load1 (by rfl) Tryd.isAgg3 (Mem.own1 1 (by rfl) (by rfl))))) ?_
      refine P_det (by rfl) (Over_out (by rfl) (Over_nil (y_sub (by rfl) (by rfl) (by unfold I64; omega)))) ?_
      refine P_det (by rfl) (Over_out (by rfl) (Over_nil (y_fieldAddr (by rfl) fa63_1))) ?_
      refine P_det (by rfl) (Over_out (by rfl) (Over_nil (y_load1 (by rfl) Tryd.isAgg3 (Mem.own1 0 (by rfl) (by rfl))))) ?_
      refine P_det (by rfl) (Over_out (by rfl) (Over_nil (y_fieldAddr (by rfl) fa77_2))) ?_
      refine P_det (by rfl) (Over_out (by rfl) (Over_nil (y_fieldAddr (by rfl) fa63_0))) ?_
      refine P_det (by rfl) (Over_out (by rfl) (Over_nil (y_load1 (by rfl) Tryd.isAgg3 (Mem.own1 1 (by rfl) (by rfl))))) ?_
      refine P_det (by rfl) (Over_out (by rfl) (Over_nil (y_sub (by rfl) (by rfl) (by unfold I64; omega)))) ?_
      refine P_det (by rfl) (Over_out (by rfl) (Over_nil (y_buildL bd63_0_1 (by rfl)))) ?_
      refine P_det (by rfl) (Over_out (by rfl) (Over_nil (y_loadN (by rfl) Tryd.isAgg66 Tryd.sizeOf66 (Mem.own (us := [.slice _ _ _, .int .i64 _, .int .i64 _, .int .i64 _, .int .i64 _, .slice _ _ _]) 2 (by rfl) (by rfl)) (by rfl)))) ?_
      refine P_det (by rfl) (Over_out (by rfl) (Over_nil (y_callL (by rfl) (by rfl) Tryd.call196 (fun w hw => all_any l a cap ae cape w hok.tk hn (hx.st w hw) (he.st w hw))))) ?_
      refine P_det (by rfl) (Over_out (by rfl) (Over_nil (y_callL (by rfl) (by rfl) Tryd.call170 (fun w hw => both_any _ _ _ _ w)))) ?_
      refine P_st 1000000 0 (by rfl) (by rfl) (by rfl) (by rfl) (by rfl) (Over_nil (st_pre (fun _ => by rfl) (fun _ => by rfl) Tryd.sizeOf63 (by rfl) (by rfl) (by first | decide | exact Nat.le_of_ble_eq_true rfl | simp))) ?_
      refine PW_end (by rfl) ?_
      refine OverAll_cons (fun w1000000 l1000000 => ?_)
      refine OverAll_nil ?_
      rintro ⟨-, h1000000⟩
      obtain rfl := h1000000
      refine Then_normal ?_
      refine W_ret ?_
      refine InB_ret ?_
      refine Then_ret ?_
      refine Fin_ret [_] [] Tryd.results193 ⟨lvN (by rfl) Tryd.isAgg63 Tryd.sizeOf63 (Mem.own (us := [.int .i64 _, .int .i64 _]) 0 (by rfl) (by rfl)) (by rfl), trivial⟩ HSub.nil ?_
      show Value.agg _ = _
      unfold Tk.forth
      first
        | (rw [if_pos (by omega)]; rfl)
        | (rw [if_neg (by omega), if_pos (by omega)]; rfl)
        | (rw [if_neg (by omega), if_neg (by omega)]; rfl)
    ·
      try simp only [Bool.not_eq_true', Bool.not_eq_false', decide_eq_true_eq, decide_eq_false_iff_not, ne_eq, Classical.not_not, Int.not_lt, Int.not_le] at c4
      have hk3 : x.kind = 3 := by omega
      have hq2 := Sn.inB_iff.1 hq
      unfold Tk.most at hq2
      rw [if_pos hk3] at hq2
      refine W_skip ?_
      refine InB_normal ?_
      refine Then_normal ?_
      refine W_seq ?_
      apply W_draw1 hF Trydmixed [1000000] (i := 0) (by rfl) (by decide +kernel)
      intro ds
      refine P_det (by rfl) (Over_out (by rfl) (Over_nil (y_loadN (by rfl) Tryd.isAgg63 Tryd.sizeOf63 (Mem.own (us := [.int .i64 _, .int .i64 _]) 0 (by rfl) (by rfl)) (by rfl)))) ?_
      refine P_det (by rfl) (Over_out (by rfl) (Over_nil (y_fieldAddr (by rfl) fa66_0))) ?_
      refine P_det (by rfl) (Over_out (by rfl) (Over_nil (y_loadN (by rfl) Tryd.isAgg61 Tryd.sizeOf61 (Mem.own (us := [.slice _ _ _, .int .i64 _, .int .i64 _]) 2 (by rfl) (by rfl)) (by rfl)))) ?_
      refine P_det (by rfl) (Over_out (by rfl) (Over_nil (y_fieldAddr (by rfl) fa77_2))) ?_
      refine P_det (by rfl) (Over_out (by rfl) (Over_nil (y_loadN (by rfl) Tryd.isAgg63 Tryd.sizeOf63 (Mem.own (us := [.int .i64 _, .int .i64 _]) 1 (by rfl) (by rfl)) (by rfl)))) ?_
      refine P_det (by rfl) (Over_out (by rfl) (Over_nil (y_callL (by rfl) (by rfl) Tryd.call204 (fun w hw => dipped_any l.tk a cap x.size.lo x.size.hi w hn (hx.st w hw) hok.tk hq2.1 (by omega) (by omega) hq2.2.2)))) ?_
      refine P_det (by rfl) (Over_out (by rfl) (Over_nil (y_callL (by rfl) (by rfl) Tryd.call170 (fun w hw => both_any _ _ _ _ w)))) ?_
      refine P_st 1000000 0 (by rfl) (by rfl) (by rfl) (by rfl) (by rfl) (Over_nil (st_pre (fun _ => by rfl) (fun _ => by rfl) Tryd.sizeOf63 (by rfl) (by rfl) (by first | decide | exact Nat.le_of_ble_eq_true rfl | simp))) ?_
      refine PW_end (by rfl) ?_
      refine OverAll_cons (fun w1000000 l1000000 => ?_)
      refine OverAll_nil ?_
      rintro ⟨-, h1000000⟩
      obtain rfl := h1000000
      refine Then_normal ?_
      refine W_ret ?_
      refine Fin_ret [_] [] Tryd.results193 ⟨lvN (by rfl) Tryd.isAgg63 Tryd.sizeOf63 (Mem.own (us := [.int .i64 _, .int .i64 _]) 0 (by rfl) (by rfl)) (by rfl), trivial⟩ HSub.nil ?_
      show Value.agg _ = _
      unfold Tk.forth
      first
        | (rw [if_pos (by omega)]; rfl)
        | (rw [if_neg (by omega), if_pos (by omega)]; rfl)
        | (rw [if_neg (by omega), if_neg (by omega)]; rfl)
theorem undone_any (l : Lg) (a : Option Addr) (cap : Nat) (ae : Option Addr) (cape : Nat) (i : Nat) (s : Sn) (w : World) (hok : l.Ok) (hn : l.tk.n ≤ 1000000) (hx : Ints w a l.tk.n cap l.tk.pints) (he : Ens w ae l.es.length cape l.es) (hi : i < l.es.length) (hs : s.Sm) :
    Ct Tryd.prog 197 #[.agg #[.slice a l.tk.n cap, .int .i64 l.tk.leak, .int .i64 l.tk.foot, .int .i64 l.start.lo, .int .i64 l.start.hi, .slice ae l.es.length cape], .agg (l.e i).cells.toArray, .agg s.cells.toArray] w fun v _ => v = .agg (l.tk.back (l.e i) s).cells.toArray := by
  have hz := hok.sm hi
  have hq := hok.size i hi
  have hkd := hok.kind i hi
  unfold Sn.Sm at hs hz
  generalize l.e i = x at *
  have hF := wide_wide
  refine Ct_start (args := [_, _, _]) Tryd.func197 (by rfl) Tryd.ntmps197 (by rfl) ?_
  refine W_seq ?_
  refine W_region_lit (fun ds => ?_)
  refine WS_new hF (by rfl) (y_box (by rfl)) (fun b1 => ?_)
  refine WS_new hF (by rfl) (y_box (by rfl)) (fun b2 => ?_)
  refine WS_new hF (by rfl) (y_box (by rfl)) (fun b3 => ?_)
  refine WS_new hF (by rfl) (y_alloc Tryd.zeroValue63 (by rfl)) (fun b4 => ?_)
  refine WS_nil ?_
  refine Then_normal ?_
  refine W_seq ?_
  refine W_seq ?_
  refine W_region_lit (fun ds => ?_)
  refine WS_det hF (by rfl) (y_fieldAddr (by rfl) fa77_1) ?_
  refine WS_det hF (by rfl) (y_load1 (by rfl) Tryd.isAgg3 (Mem.own1 2 (by rfl) (by rfl))) ?_
  refine WS_nil ?_
  refine Then_normal ?_
  refine W_block ?_
  refine W_seq ?_
  refine W_region_lit (fun ds => ?_)
  refine WS_det hF (by rfl) (y_eql (by rfl) (by rfl)) ?_
  refine WS_det hF (by rfl) (y_assign (c := .bool _) (by rfl)) ?_
  refine WS_nil ?_
  refine Then_normal ?_
  refine W_cond (by rfl) (fun c2 => ?_) (fun c2 => ?_)
  ·
    try simp only [Bool.not_eq_true', Bool.not_eq_false', decide_eq_true_eq, decide_eq_false_iff_not, ne_eq, Classical.not_not, Int.not_lt, Int.not_le] at c2
    refine W_seq ?_
    apply W_draw1 hF Trydmixed [1000000] (i := 0) (by rfl) (by decide +kernel)
    intro ds
    refine P_det (by rfl) (Over_out (by rfl) (Over_nil (y_fieldAddr (by rfl) fa63_0))) ?_
    refine P_det (by rfl) (Over_out (by rfl) (Over_nil (y_load1 (by rfl) Tryd.isAgg3 (Mem.own1 0 (by rfl) (by rfl))))) ?_
    refine P_det (by rfl) (Over_out (by rfl) (Over_nil (y_fieldAddr (by rfl) fa77_2))) ?_
    refine P_det (by rfl) (Over_out (by rfl) (Over_nil (y_fieldAddr (by rfl) fa63_1))) ?_
    refine P_det (by rfl) (Over_out (by rfl) (Over_nil (y_load1 (by rfl) Tryd.isAgg3 (Mem.own1 1 (by rfl) (by rfl))))) ?_
    refine P_det (by rfl) (Over_out (by rfl) (Over_nil (y_sub (by rfl) (by rfl) (by unfold I64; omega)))) ?_
    refine P_det (by rfl) (Over_out (by rfl) (Over_nil (y_fieldAddr (by rfl) fa63_1))) ?_
    refine P_det (by rfl) (Over_out (by rfl) (Over_nil (y_load1 (by rfl) Tryd.isAgg3 (Mem.own1 0 (by rfl) (by rfl))))) ?_
    refine P_det (by rfl) (Over_out (by rfl) (Over_nil (y_fieldAddr (by rfl) fa77_2))) ?_
    refine P_det (by rfl) (Over_out (by rfl) (Over_nil (y_fieldAddr (by rfl) fa63_0))) ?_
    refine P_det (by rfl) (Over_out (by rfl) (Over_nil (y_load1 (by rfl) Tryd.isAgg3 (Mem.own1 1 (by rfl) (by rfl))))) ?_
    refine P_det (by rfl) (Over_out (by rfl) (Over_nil (y_sub (by rfl) (by rfl) (by unfold I64; omega)))) ?_
    refine P_det (by rfl) (Over_out (by rfl) (Over_nil (y_buildL bd63_0_1 (by rfl)))) ?_
    refine P_det (by rfl) (Over_out (by rfl) (Over_nil (y_loadN (by rfl) Tryd.isAgg66 Tryd.sizeOf66 (Mem.own (us := [.slice _ _ _, .int .i64 _, .int .i64 _, .int .i64 _, .int .i64 _, .slice _ _ _]) 2 (by rfl) (by rfl)) (by rfl)))) ?_
    refine P_det (by rfl) (Over_out (by rfl) (Over_nil (y_callL (by rfl) (by rfl) Tryd.call196 (fun w hw => all_any l a cap ae cape w hok.tk hn (hx.st w hw) (he.st w hw))))) ?_
    refine P_det (by rfl) (Over_out (by rfl) (Over_nil (y_callL (by rfl) (by rfl) Tryd.call170 (fun w hw => both_any _ _ _ _ w)))) ?_
    refine P_st 1000000 0 (by rfl) (by rfl) (by rfl) (by rfl) (by rfl) (Over_nil (st_pre (fun _ => by rfl) (fun _ => by rfl) Tryd.sizeOf63 (by rfl) (by rfl) (by first | decide | exact Nat.le_of_ble_eq_true rfl | simp))) ?_
    refine PW_end (by rfl) ?_
    refine OverAll_cons (fun w1000000 l1000000 => ?_)
    refine OverAll_nil ?_
    rintro ⟨-, h1000000⟩
    obtain rfl := h1000000
    refine Then_normal ?_
    refine W_ret ?_
    refine InB_ret ?_
    refine Then_ret ?_
    refine Fin_ret [_] [] Tryd.results197 ⟨lvN (by rfl) Tryd.isAgg63 Tryd.sizeOf63 (Mem.own (us := [.int .i64 _, .int .i64 _]) 0 (by rfl) (by rfl)) (by rfl), trivial⟩ HSub.nil ?_
    show Value.agg _ = _
    unfold Tk.back
    first
      | (rw [if_pos (by omega)]; rfl)
      | (rw [if_neg (by omega), if_pos (by omega)]; rfl)
      | (rw [if_neg (by omega), if_neg (by omega)]; rfl)
  ·
    try simp only [Bool.not_eq_true', Bool.not_eq_false', decide_eq_true_eq, decide_eq_false_iff_not, ne_eq, Classical.not_not, Int.not_lt, Int.not_le] at c2
    refine W_seq ?_
    refine W_region_lit (fun ds => ?_)
    refine WS_det hF (by rfl) (y_eql (by rfl) (by rfl)) ?_
    refine WS_det hF (by rfl) (y_assign (c := .bool _) (by rfl)) ?_
    refine WS_nil ?_
    refine Then_normal ?_
    refine W_cond (by rfl) (fun c4 => ?_) (fun c4 => ?_)
    ·
      try simp only [Bool.not_eq_true', Bool.not_eq_false', decide_eq_true_eq, decide_eq_false_iff_not, ne_eq, Classical.not_not, Int.not_lt, Int.not_le] at c4
      refine W_seq ?_
      apply W_draw1 hF Trydmixed [1000000] (i := 0) (by rfl) (by decide +kernel)
      intro ds
      refine P_det (by rfl) (Over_out (by rfl) (Over_nil (y_fieldAddr (by rfl) fa63_0))) ?_
      refine P_det (by rfl) (Over_out (by rfl) (Over_nil (y_load1 (by rfl) Tryd.isAgg3 (Mem.own1 0 (by rfl) (by rfl))))) ?_
      refine P_det (by rfl) (Over_out (by rfl) (Over_nil (y_fieldAddr (by rfl) fa77_2))) ?_
      refine P_det (by rfl) (Over_out (by rfl) (Over_nil (y_fieldAddr (by rfl) fa63_0))) ?_
      refine P_det (by rfl) (Over_out (by rfl) (Over_nil (y_load1 (by rfl) Tryd.isAgg3 (Mem.own1 1 (by rfl) (by rfl))))) ?_
      refine P_det (by rfl) (Over_out (by rfl) (Over_nil (y_add (by rfl) (by rfl) (by unfold I64; omega)))) ?_
      refine P_det (by rfl) (Over_out (by rfl) (Over_nil (y_fieldAddr (by rfl) fa63_1))) ?_
      refine P_det (by rfl) (Over_out (by rfl) (Over_nil (y_load1 (by rfl) Tryd.isAgg3 (Mem.own1 0 (by rfl) (by rfl))))) ?_
      refine P_det (by rfl) (Over_out (by rfl) (Over_nil (y_fieldAddr (by rfl) fa77_2))) ?_
      refine P_det (by rfl) (Over_out (by rfl) (Over_nil (y_fieldAddr (by rfl) fa63_1))) ?_
      refine P_det (by rfl) (Over_out (by rfl) (Over_nil (y_load1 (by rfl) Tryd.isAgg3 (Mem.own1 1 (by rfl) (by rfl))))) ?_
      refine P_det (by rfl) (Over_out (by rfl) (Over_nil (y_add (by rfl) (by rfl) (by unfold I64; omega)))) ?_
      refine P_det (by rfl) (Over_out (by rfl) (Over_nil (y_buildL bd63_0_1 (by rfl)))) ?_
      refine P_det (by rfl) (Over_out (by rfl) (Over_nil (y_loadN (by rfl) Tryd.isAgg66 Tryd.sizeOf66 (Mem.own (us := [.slice _ _ _, .int .i64 _, .int .i64 _, .int .i64 _, .int .i64 _, .slice _ _ _]) 2 (by rfl) (by rfl)) (by rfl)))) ?_
      refine P_det (by rfl) (Over_out (by rfl) (Over_nil (y_callL (by rfl) (by rfl) Tryd.call196 (fun w hw => all_any l a cap ae cape w hok.tk hn (hx.st w hw) (he.st w hw))))) ?_
      refine P_det (by rfl) (Over_out (by rfl) (Over_nil (y_callL (by rfl) (by rfl) Tryd.call170 (fun w hw => both_any _ _ _ _ w)))) ?_
      refine P_st 1000000 0 (by rfl) (by rfl) (by rfl) (by rfl) (by rfl) (Over_nil (st_pre (fun _ => by rfl) (fun _ => by rfl) Tryd.sizeOf63 (by rfl) (by rfl) (by first | decide | exact Nat.le_of_ble_eq_true rfl | simp))) ?_
      refine PW_end (by rfl) ?_
      refine OverAll_cons (fun w1000000 l1000000 => ?_)
      refine OverAll_nil ?_
      rintro ⟨-, h1000000⟩
      obtain rfl := h1000000
      refine Then_normal ?_
      refine W_ret ?_
      refine InB_ret ?_
      refine Then_ret ?_
      refine Fin_ret [_] [] Tryd.results197 ⟨lvN (by rfl) Tryd.isAgg63 Tryd.sizeOf63 (Mem.own (us := [.int .i64 _, .int .i64 _]) 0 (by rfl) (by rfl)) (by rfl), trivial⟩ HSub.nil ?_
      show Value.agg _ = _
      unfold Tk.back
      first
        | (rw [if_pos (by omega)]; rfl)
        | (rw [if_neg (by omega), if_pos (by omega)]; rfl)
        | (rw [if_neg (by omega), if_neg (by omega)]; rfl)
    ·
      try simp only [Bool.not_eq_true', Bool.not_eq_false', decide_eq_true_eq, decide_eq_false_iff_not, ne_eq, Classical.not_not, Int.not_lt, Int.not_le] at c4
      have hk3 : x.kind = 3 := by omega
      have hq2 := Sn.inB_iff.1 hq
      unfold Tk.most at hq2
      rw [if_pos hk3] at hq2
      refine W_skip ?_
      refine InB_normal ?_
      refine Then_normal ?_
      refine W_seq ?_
      apply W_draw1 hF Trydmixed [1000000] (i := 0) (by rfl) (by decide +kernel)
      intro ds
      refine P_det (by rfl) (Over_out (by rfl) (Over_nil (y_loadN (by rfl) Tryd.isAgg63 Tryd.sizeOf63 (Mem.own (us := [.int .i64 _, .int .i64 _]) 0 (by rfl) (by rfl)) (by rfl)))) ?_
      refine P_det (by rfl) (Over_out (by rfl) (Over_nil (y_fieldAddr (by rfl) fa66_0))) ?_
      refine P_det (by rfl) (Over_out (by rfl) (Over_nil (y_loadN (by rfl) Tryd.isAgg61 Tryd.sizeOf61 (Mem.own (us := [.slice _ _ _, .int .i64 _, .int .i64 _]) 2 (by rfl) (by rfl)) (by rfl)))) ?_
      refine P_det (by rfl) (Over_out (by rfl) (Over_nil (y_fieldAddr (by rfl) fa77_2))) ?_
      refine P_det (by rfl) (Over_out (by rfl) (Over_nil (y_loadN (by rfl) Tryd.isAgg63 Tryd.sizeOf63 (Mem.own (us := [.int .i64 _, .int .i64 _]) 1 (by rfl) (by rfl)) (by rfl)))) ?_
      refine P_det (by rfl) (Over_out (by rfl) (Over_nil (y_callL (by rfl) (by rfl) Tryd.call204 (fun w hw => dipped_any l.tk a cap x.size.lo x.size.hi w hn (hx.st w hw) hok.tk hq2.1 (by omega) (by omega) hq2.2.2)))) ?_
      refine P_det (by rfl) (Over_out (by rfl) (Over_nil (y_callL (by rfl) (by rfl) Tryd.call170 (fun w hw => both_any _ _ _ _ w)))) ?_
      refine P_st 1000000 0 (by rfl) (by rfl) (by rfl) (by rfl) (by rfl) (Over_nil (st_pre (fun _ => by rfl) (fun _ => by rfl) Tryd.sizeOf63 (by rfl) (by rfl) (by first | decide | exact Nat.le_of_ble_eq_true rfl | simp))) ?_
      refine PW_end (by rfl) ?_
      refine OverAll_cons (fun w1000000 l1000000 => ?_)
      refine OverAll_nil ?_
      rintro ⟨-, h1000000⟩
      obtain rfl := h1000000
      refine Then_normal ?_
      refine W_ret ?_
      refine Fin_ret [_] [] Tryd.results197 ⟨lvN (by rfl) Tryd.isAgg63 Tryd.sizeOf63 (Mem.own (us := [.int .i64 _, .int .i64 _]) 0 (by rfl) (by rfl)) (by rfl), trivial⟩ HSub.nil ?_
      show Value.agg _ = _
      unfold Tk.back
      first
        | (rw [if_pos (by omega)]; rfl)
        | (rw [if_neg (by omega), if_pos (by omega)]; rfl)
        | (rw [if_neg (by omega), if_neg (by omega)]; rfl)
theorem ahead_any (l : Lg) (a : Option Addr) (cap : Nat) (ae : Option Addr) (cape : Nat) (i : Nat) (s : Sn) (w : World) (hok : l.Ok) (hn : l.tk.n ≤ 1000000) (hx : Ints w a l.tk.n cap l.tk.pints) (he : Ens w ae l.es.length cape l.es) (hi : i < l.es.length) (hs : s.Sm) (h0 : 0 ≤ s.lo) :
    Ct Tryd.prog 194 #[.agg #[.slice a l.tk.n cap, .int .i64 l.tk.leak, .int .i64 l.tk.foot, .int .i64 l.start.lo, .int .i64 l.start.hi, .slice ae l.es.length cape], .int .i64 ((i : Int) + 1), .agg s.cells.toArray] w fun v _ => v = .agg (l.before i s).cells.toArray := by
  have hd := hok.drip_bd hi
  have h12 := hok.n12
  unfold Sn.Sm at hs
  have hF := wide_wide
  refine Ct_start (args := [_, _, _]) Tryd.func194 (by rfl) Tryd.ntmps194 (by rfl) ?_
  refine W_seq ?_
  refine W_region_lit (fun ds => ?_)
  refine WS_new hF (by rfl) (y_box (by rfl)) (fun b1 => ?_)
  refine WS_new hF (by rfl) (y_box (by rfl)) (fun b2 => ?_)
  refine WS_new hF (by rfl) (y_alloc Tryd.zeroValue63 (by rfl)) (fun b3 => ?_)
  refine WS_nil ?_
  refine Then_normal ?_
  refine W_seq ?_
  refine W_seq ?_
  refine W_region_lit (fun ds => ?_)
  refine WS_det hF (by rfl) (y_move (c := .int .i64 _) (by rfl)) ?_
  refine WS_det hF (by rfl) (y_eql (by rfl) (by rfl)) ?_
  refine WS_nil ?_
  refine Then_normal ?_
  refine W_cond (by rfl) (fun c1 => ?_) (fun c1 => ?_)
  ·
    try simp only [Bool.not_eq_true', Bool.not_eq_false', decide_eq_true_eq, decide_eq_false_iff_not, ne_eq, Classical.not_not, Int.not_lt, Int.not_le] at c1
    refine W_seq ?_
    refine W_region_lit (fun ds => ?_)
    refine WS_det hF (by rfl) (y_loadN (by rfl) Tryd.isAgg63 Tryd.sizeOf63 (Mem.own (us := [.int .i64 _, .int .i64 _]) 1 (by rfl) (by rfl)) (by rfl)) ?_
    refine WS_store hF (i := 0) (by rfl) (by rfl) Tryd.sizeOf63 (by rfl) (by rfl) (by rfl) (by first | decide | exact Nat.le_of_ble_eq_true rfl | simp) ?_
    refine WS_nil ?_
    refine Then_normal ?_
    refine W_ret ?_
    refine Then_ret ?_
    refine Fin_ret [_] [] Tryd.results194 ⟨lvN (by rfl) Tryd.isAgg63 Tryd.sizeOf63 (Mem.own (us := [.int .i64 _, .int .i64 _]) 0 (by rfl) (by rfl)) (by rfl), trivial⟩ HSub.nil ?_
    show Value.agg _ = _
    obtain rfl : i = 0 := by omega
    unfold Lg.before
    rw [show l.drip 0 = 0 from rfl, Int.sub_zero, Int.max_eq_right h0]; rfl
  ·
    try simp only [Bool.not_eq_true', Bool.not_eq_false', decide_eq_true_eq, decide_eq_false_iff_not, ne_eq, Classical.not_not, Int.not_lt, Int.not_le] at c1
    refine W_skip ?_
    refine Then_normal ?_
    refine W_seq ?_
    apply W_draw1 hF Trydmixed [1000000] (i := 0) (by rfl) (by decide +kernel)
    intro ds
    refine P_det (by rfl) (Over_out (by rfl) (Over_nil (y_fieldAddr (by rfl) fa63_0))) ?_
    refine P_det (by rfl) (Over_out (by rfl) (Over_nil (y_load1 (by rfl) Tryd.isAgg3 (Mem.own1 0 (by rfl) (by rfl))))) ?_
    refine P_det (by rfl) (Over_out (by rfl) (Over_nil (y_loadN (by rfl) Tryd.isAgg66 Tryd.sizeOf66 (Mem.own (us := [.slice _ _ _, .int .i64 _, .int .i64 _, .int .i64 _, .int .i64 _, .slice _ _ _]) 1 (by rfl) (by rfl)) (by rfl)))) ?_
    refine P_det (by rfl) (Over_out (by rfl) (Over_nil (y_move (c := .int .i64 _) (by rfl)))) ?_
    refine P_det (by rfl) (Over_out (by rfl) (Over_nil (y_sub (by rfl) (by rfl) (by unfold I64; omega)))) ?_
    refine P_det (by rfl) (Over_out (by rfl) (Over_nil (y_callL (by rfl) (by rfl) Tryd.call198 (fun w hw => leak_any l a cap ae cape i _ w hok hn (hx.st w hw) (he.st w hw) hi (by omega) (by omega))))) ?_
    refine P_det (by rfl) (Over_out (by rfl) (Over_nil (y_sub (by rfl) (by rfl) (by unfold I64; omega)))) ?_
    refine P_det (by rfl) (Over_out (by rfl) (Over_nil (y_max (by rfl) (by rfl)))) ?_
    refine P_det (by rfl) (Over_out (by rfl) (Over_nil (y_fieldAddr (by rfl) fa63_1))) ?_
    refine P_det (by rfl) (Over_out (by rfl) (Over_nil (y_load1 (by rfl) Tryd.isAgg3 (Mem.own1 0 (by rfl) (by rfl))))) ?_
    refine P_det (by rfl) (Over_out (by rfl) (Over_nil (y_buildL bd63_0_1 (by rfl)))) ?_
    refine P_st 1000000 0 (by rfl) (by rfl) (by rfl) (by rfl) (by rfl) (Over_nil (st_pre (fun _ => by rfl) (fun _ => by rfl) Tryd.sizeOf63 (by rfl) (by rfl) (by first | decide | exact Nat.le_of_ble_eq_true rfl | simp))) ?_
    refine PW_end (by rfl) ?_
    refine OverAll_cons (fun w1000000 l1000000 => ?_)
    refine OverAll_nil ?_
    rintro ⟨-, h1000000⟩
    obtain rfl := h1000000
    refine Then_normal ?_
    refine W_ret ?_
    refine Fin_ret [_] [] Tryd.results194 ⟨lvN (by rfl) Tryd.isAgg63 Tryd.sizeOf63 (Mem.own (us := [.int .i64 _, .int .i64 _]) 0 (by rfl) (by rfl)) (by rfl), trivial⟩ HSub.nil ?_
    rfl
theorem rlog_any (l : Lg) (a : Option Addr) (cap : Nat) (ae : Option Addr) (cape : Nat) (w : World) (hn : l.tk.n ≤ 1000000) (hx : Ints w a l.tk.n cap l.tk.pints) (he : Ens w ae l.es.length cape l.es) : Ct Tryd.prog 121 #[.agg #[.slice a l.tk.n cap, .int .i64 l.tk.leak, .int .i64 l.tk.foot, .int .i64 l.start.lo, .int .i64 l.start.hi, .slice ae l.es.length cape]] w fun v _ => v = .bool (l.tk.okB && l.okB) := by
  have hF := wide_wide
  refine Ct_start (args := [_]) Tryd.func121 (by rfl) Tryd.ntmps121 (by rfl) ?_
  refine W_seq ?_
  refine W_region_lit (fun ds => ?_)
  refine WS_new hF (by rfl) (y_box (by rfl)) (fun b1 => ?_)
  refine WS_det hF (by rfl) (y_assign (c := .bool _) (by rfl)) ?_
  refine WS_nil ?_
  refine Then_normal ?_
  refine W_seq ?_
  refine W_seq ?_
  refine W_draw0 hF Trydmixed [] (by decide +kernel) (fun ds => ?_)
  refine P_det (by rfl) (Over_nil (y_fieldAddr (by rfl) fa66_0)) ?_
  refine P_det (by rfl) (Over_nil (y_loadN (by rfl) Tryd.isAgg61 Tryd.sizeOf61 (Mem.own (us := [.slice _ _ _, .int .i64 _, .int .i64 _]) 0 (by rfl) (by rfl)) (by rfl))) ?_
  refine P_det (by rfl) (Over_nil (y_callL (by rfl) (by rfl) Tryd.call120 (fun w hw => tank_any l.tk a cap w hn (hx.st w hw)))) ?_
  refine P_det (by rfl) (Over_nil (y_not (by rfl))) ?_
  refine P_det (by rfl) (Over_nil (y_move (c := .bool _) (by rfl))) ?_
  refine P_split 9 (by rfl) (fun g1_4 => ?_) (fun g1_4 => ?_)
  ·
    try simp only [Bool.not_eq_true', Bool.not_eq_false', decide_eq_true_eq, decide_eq_false_iff_not, ne_eq, Classical.not_not, Int.not_lt, Int.not_le] at g1_4
    refine P_no (by rfl) ?_
    refine P_no (by rfl) ?_
    refine P_no (by rfl) ?_
    refine P_no (by rfl) ?_
    refine P_no (by rfl) ?_
    refine P_no (by rfl) ?_
    refine P_no (by rfl) ?_
    refine P_det (by rfl) (Over_nil (by first | exact y_pick_t (c := .bool _) (by rfl) (by rfl) | exact y_pick_f (c := .bool _) (by rfl) (by rfl))) ?_
    refine P_det (by rfl) (Over_nil (y_move (c := .bool _) (by rfl))) ?_
    refine P_no (by rfl) ?_
    refine P_no (by rfl) ?_
    refine P_no (by rfl) ?_
    refine P_no (by rfl) ?_
    refine P_det (by rfl) (Over_nil (by first | exact y_pick_t (c := .bool _) (by rfl) (by rfl) | exact y_pick_f (c := .bool _) (by rfl) (by rfl))) ?_
    refine PW_end (by rfl) ?_
    refine OverAll_nil ?_
    rintro -
    refine Then_normal ?_
    refine W_cond (by rfl) (fun c1 => ?_) (fun c1 => ?_)
    ·
      try simp only [Bool.not_eq_true', Bool.not_eq_false', decide_eq_true_eq, decide_eq_false_iff_not, ne_eq, Classical.not_not, Int.not_lt, Int.not_le] at c1
      refine W_seq ?_
      refine W_region_lit (fun ds => ?_)
      refine WS_det hF (by rfl) (y_assign (c := .bool _) (by rfl)) ?_
      refine WS_nil ?_
      refine Then_normal ?_
      refine W_ret ?_
      refine Then_ret ?_
      refine Fin_ret [.bool _] [] Tryd.results121 ⟨by rfl, trivial⟩ HSub.nil ?_
      show Value.bool _ = _
      rw [g1_4]; rfl
    · cases c1
  ·
    try simp only [Bool.not_eq_true', Bool.not_eq_false', decide_eq_true_eq, decide_eq_false_iff_not, ne_eq, Classical.not_not, Int.not_lt, Int.not_le] at g1_4
    have hok := Tk.ok_iff.1 g1_4
    have hn2 := hok.n2
    refine P_det (by rfl) (Over_nil (y_fieldAddr (by rfl) fa66_1)) ?_
    refine P_det (by rfl) (Over_nil (y_loadN (by rfl) Tryd.isAgg63 Tryd.sizeOf63 (Mem.own (us := [.int .i64 _, .int .i64 _]) 0 (by rfl) (by rfl)) (by rfl))) ?_
    refine P_det (by rfl) (Over_nil (y_fieldAddr (by rfl) fa66_0)) ?_
    refine P_det (by rfl) (Over_nil (y_loadN (by rfl) Tryd.isAgg61 Tryd.sizeOf61 (Mem.own (us := [.slice _ _ _, .int .i64 _, .int .i64 _]) 0 (by rfl) (by rfl)) (by rfl))) ?_
    refine P_det (by rfl) (Over_nil (y_callL (by rfl) (by rfl) Tryd.call151 (fun w hw => full_any l.tk a cap w hn (by omega) (hx.st w hw)))) ?_
    refine P_det (by rfl) (Over_nil (y_callL (by rfl) (by rfl) Tryd.call150 (fun w hw => spanned_any _ _ _ w))) ?_
    refine P_det (by rfl) (Over_nil (y_not (by rfl))) ?_
    refine P_det (by rfl) (Over_nil (by first | exact y_pick_t (c := .bool _) (by rfl) (by rfl) | exact y_pick_f (c := .bool _) (by rfl) (by rfl))) ?_
    refine P_det (by rfl) (Over_nil (y_move (c := .bool _) (by rfl))) ?_
    refine P_split 18 (by rfl) (fun g1_13 => ?_) (fun g1_13 => ?_)
    ·
      try simp only [Bool.not_eq_true', Bool.not_eq_false', decide_eq_true_eq, decide_eq_false_iff_not, ne_eq, Classical.not_not, Int.not_lt, Int.not_le] at g1_13
      refine P_no (by rfl) ?_
      refine P_no (by rfl) ?_
      refine P_no (by rfl) ?_
      refine P_no (by rfl) ?_
      refine P_det (by rfl) (Over_nil (by first | exact y_pick_t (c := .bool _) (by rfl) (by rfl) | exact y_pick_f (c := .bool _) (by rfl) (by rfl))) ?_
      refine PW_end (by rfl) ?_
      refine OverAll_nil ?_
      rintro -
      refine Then_normal ?_
      refine W_cond (by rfl) (fun c1 => ?_) (fun c1 => ?_)
      ·
        try simp only [Bool.not_eq_true', Bool.not_eq_false', decide_eq_true_eq, decide_eq_false_iff_not, ne_eq, Classical.not_not, Int.not_lt, Int.not_le] at c1
        refine W_seq ?_
        refine W_region_lit (fun ds => ?_)
        refine WS_det hF (by rfl) (y_assign (c := .bool _) (by rfl)) ?_
        refine WS_nil ?_
        refine Then_normal ?_
        refine W_ret ?_
        refine Then_ret ?_
        refine Fin_ret [.bool _] [] Tryd.results121 ⟨by rfl, trivial⟩ HSub.nil ?_
        show Value.bool _ = _
        have hs : l.start.inB l.tk.full = false := g1_13
        simp [Lg.okB, hs]
      · cases c1
    ·
      try simp only [Bool.not_eq_true', Bool.not_eq_false', decide_eq_true_eq, decide_eq_false_iff_not, ne_eq, Classical.not_not, Int.not_lt, Int.not_le] at g1_13
      refine P_det (by rfl) (Over_nil (y_fieldAddr (by rfl) fa66_2)) ?_
      refine P_det (by rfl) (Over_nil (y_load1 (by rfl) Tryd.isAgg64 (Mem.own1 0 (by rfl) (by rfl)))) ?_
      refine P_det (by rfl) (Over_nil (y_len (by rfl) Tryd.runUnderlying64)) ?_
      refine P_det (by rfl) (Over_nil (y_gtr (by rfl) (by rfl))) ?_
      refine P_det (by rfl) (Over_nil (by first | exact y_pick_t (c := .bool _) (by rfl) (by rfl) | exact y_pick_f (c := .bool _) (by rfl) (by rfl))) ?_
      refine PW_end (by rfl) ?_
      refine OverAll_nil ?_
      rintro -
      refine Then_normal ?_
      refine W_cond (by rfl) (fun c1 => ?_) (fun c1 => ?_)
      ·
        try simp only [Bool.not_eq_true', Bool.not_eq_false', decide_eq_true_eq, decide_eq_false_iff_not, ne_eq, Classical.not_not, Int.not_lt, Int.not_le] at c1
        refine W_seq ?_
        refine W_region_lit (fun ds => ?_)
        refine WS_det hF (by rfl) (y_assign (c := .bool _) (by rfl)) ?_
        refine WS_nil ?_
        refine Then_normal ?_
        refine W_ret ?_
        refine Then_ret ?_
        refine Fin_ret [.bool _] [] Tryd.results121 ⟨by rfl, trivial⟩ HSub.nil ?_
        show Value.bool _ = _
        have : decide (l.es.length ≤ 12) = false := by simp; omega
        simp [Lg.okB, this]
      ·
        try simp only [Bool.not_eq_true', Bool.not_eq_false', decide_eq_true_eq, decide_eq_false_iff_not, ne_eq, Classical.not_not, Int.not_lt, Int.not_le] at c1
        refine W_skip ?_
        refine Then_normal ?_
        refine W_seq ?_
        refine W_region_lit (fun ds => ?_)
        refine WS_det hF (by rfl) (y_assign (c := .int .i64 _) (by rfl)) ?_
        refine WS_nil ?_
        refine Then_normal ?_
        refine W_seq ?_
        refine W_seq ?_
        refine W_region_lit (fun ds => ?_)
        refine WS_det hF (by rfl) (y_assign (c := .int .i64 _) (by rfl)) ?_
        refine WS_nil ?_
        refine Then_normal ?_
        refine W_block ?_
        refine W_loop (γ := Nat) (fun k => k ≤ l.es.length ∧ l.tk.entsB 0 (l.es.take k) = true) (fun k => [(1, .pointer (some ⟨b1, 0, none⟩)), (3, .int .i64 (l.dayAt k)), (4, .int .i64 (k : Int))]) (fun _ => _) (fun k => l.es.length - k) (0) ⟨Nat.zero_le _, rfl⟩ (by repeat (first | exact trivial | refine ⟨by rfl, ?_⟩)) (List.Sublist.refl _) ?_
        rintro k e ⟨hk, hent⟩
        refine W_seq ?_
        refine W_seq ?_
        refine W_region_lit (fun ds => ?_)
        refine WS_det hF (by rfl) (y_move (c := .int .i64 _) (by rfl)) ?_
        refine WS_det hF (by rfl) (y_fieldAddr (by rfl) fa66_2) ?_
        refine WS_det hF (by rfl) (y_load1 (by rfl) Tryd.isAgg64 (Mem.own1 0 (by rfl) (by rfl))) ?_
        refine WS_det hF (by rfl) (y_len (by rfl) Tryd.runUnderlying64) ?_
        refine WS_det hF (by rfl) (y_lss (by rfl) (by rfl)) ?_
        refine WS_nil ?_
        refine Then_normal ?_
        refine W_cond (by rfl) (fun c5 => ?_) (fun c5 => ?_)
        ·
          try simp only [Bool.not_eq_true', Bool.not_eq_false', decide_eq_true_eq, decide_eq_false_iff_not, ne_eq, Classical.not_not, Int.not_lt, Int.not_le] at c5
          obtain ⟨b, o, rfl, hc⟩ := he.cell k (by omega)
          change At w b _ (l.e k).cells at hc
          refine W_skip ?_
          refine Then_normal ?_
          refine W_seq ?_
          refine W_block ?_
          refine W_seq ?_
          refine W_seq ?_
          refine W_draw0 hF Trydmixed [] (by decide +kernel) (fun ds => ?_)
          refine P_det (by rfl) (Over_nil (y_fieldAddr (by rfl) fa66_0)) ?_
          refine P_det (by rfl) (Over_nil (y_loadN (by rfl) Tryd.isAgg61 Tryd.sizeOf61 (Mem.own (us := [.slice _ _ _, .int .i64 _, .int .i64 _]) 0 (by rfl) (by rfl)) (by rfl))) ?_
          refine P_det (by rfl) (Over_nil (y_fieldAddr (by rfl) fa66_2)) ?_
          refine P_det (by rfl) (Over_nil (y_load1 (by rfl) Tryd.isAgg64 (Mem.own1 0 (by rfl) (by rfl)))) ?_
          refine P_det (by rfl) (Over_nil (y_move (c := .int .i64 _) (by rfl))) ?_
          refine P_det (by rfl) (Over_nil (y_index (k := k) (by rfl) (by rfl) (by first | rfl | omega) (by first | decide | omega) Tryd.runUnderlying64 Tryd.sizeOf77)) ?_
          refine P_det (by rfl) (Over_nil (y_loadN (by rfl) Tryd.isAgg77 Tryd.sizeOf77 (by first | exact Mem.old (by assumption) | exact Mem.oldAt (us := [.int .i64 _, .int .i64 _, .int .i64 _, .int .i64 _]) (by assumption) (by rfl) | exact Mem.oldAtL (us := [.int .i64 _, .int .i64 _, .int .i64 _, .int .i64 _]) (by assumption) (by rfl) (by rfl)) (by rfl))) ?_
          refine P_det (by rfl) (Over_nil (y_move (c := .int .i64 _) (by rfl))) ?_
          refine P_det (by rfl) (Over_nil (y_callL (by rfl) (by rfl) Tryd.call152 (fun w hw => entry_any l a cap _ cape (l.e k) (l.dayAt k) w hok hn (hx.st w hw) (he.st w hw)))) ?_
          refine P_det (by rfl) (Over_nil (y_not (by rfl))) ?_
          refine PW_end (by rfl) ?_
          refine OverAll_nil ?_
          rintro -
          refine Then_normal ?_
          refine W_cond (by rfl) (fun c7 => ?_) (fun c7 => ?_)
          ·
            try simp only [Bool.not_eq_true', Bool.not_eq_false', decide_eq_true_eq, decide_eq_false_iff_not, ne_eq, Classical.not_not, Int.not_lt, Int.not_le] at c7
            refine W_seq ?_
            refine W_region_lit (fun ds => ?_)
            refine WS_det hF (by rfl) (y_assign (c := .bool _) (by rfl)) ?_
            refine WS_nil ?_
            refine Then_normal ?_
            refine W_ret ?_
            refine Then_ret ?_
            refine InB_ret ?_
            refine Then_ret ?_
            refine Loop_ret ?_
            refine InB_ret ?_
            refine Then_ret ?_
            refine Fin_ret [.bool _] [] Tryd.results121 ⟨by rfl, trivial⟩ HSub.nil ?_
            show Value.bool _ = _
            simp [Lg.okB, l.tk.entsB_bad (by omega) c7]
          ·
            try simp only [Bool.not_eq_true', Bool.not_eq_false', decide_eq_true_eq, decide_eq_false_iff_not, ne_eq, Classical.not_not, Int.not_lt, Int.not_le] at c7
            have hgood : (true && l.tk.entB (if k = 0 then 0 else (l.es.getD (k - 1) En.z).day) (l.es.getD k En.z)) = true := by
              rw [Bool.true_and]; exact c7
            refine W_skip ?_
            refine Then_normal ?_
            refine W_region_lit (fun ds => ?_)
            refine WS_det hF (by rfl) (y_fieldAddr (by rfl) fa66_2) ?_
            refine WS_det hF (by rfl) (y_load1 (by rfl) Tryd.isAgg64 (Mem.own1 0 (by rfl) (by rfl))) ?_
            refine WS_det hF (by rfl) (y_move (c := .int .i64 _) (by rfl)) ?_
            refine WS_det hF (by rfl) (y_index (k := k) (by rfl) (by rfl) (by first | rfl | omega) (by first | decide | omega) Tryd.runUnderlying64 Tryd.sizeOf77) ?_
            refine WS_det hF (by rfl) (y_fieldAddr (by rfl) fa77_0) ?_
            refine WS_det hF (by rfl) (y_load1 (by rfl) Tryd.isAgg3 (by first | exact Mem.old1 (by assumption) | exact Mem.oldAt1 (by assumption) (by rfl) | exact Mem.old (by assumption) | exact Mem.oldAtL1 (by assumption) (by rfl) (by rfl))) ?_
            refine WS_det hF (by rfl) (y_assign (c := .int .i64 _) (by rfl)) ?_
            refine WS_nil ?_
            refine InB_normal ?_
            refine Then_normal ?_
            refine W_region_lit (fun ds => ?_)
            refine WS_det hF (by rfl) (y_move (c := .int .i64 _) (by rfl)) ?_
            refine WS_det hF (by rfl) (y_add (by rfl) (by rfl) (by unfold I64; omega)) ?_
            refine WS_det hF (by rfl) (y_assign (c := .int .i64 _) (by rfl)) ?_
            refine WS_nil ?_
            exact Loop_next (k + 1) ⟨by omega, by rw [l.tk.entsB_succ l.es 0 k (by omega), hent]; exact hgood⟩ (by repeat (first | exact trivial | refine ⟨by rfl, ?_⟩)) (by repeat (first | exact List.Sublist.refl _ | exact List.nil_sublist _ | apply List.Sublist.cons_cons | apply List.Sublist.cons)) (by omega)
        ·
          try simp only [Bool.not_eq_true', Bool.not_eq_false', decide_eq_true_eq, decide_eq_false_iff_not, ne_eq, Classical.not_not, Int.not_lt, Int.not_le] at c5
          refine W_exit ?_
          refine Then_exit ?_
          refine Loop_exit ?_
          refine InB_same ?_
          refine Then_normal ?_
          refine W_seq ?_
          refine W_region_lit (fun ds => ?_)
          refine WS_det hF (by rfl) (y_assign (c := .bool _) (by rfl)) ?_
          refine WS_nil ?_
          refine Then_normal ?_
          refine W_ret ?_
          refine Fin_ret [.bool _] [] Tryd.results121 ⟨by rfl, trivial⟩ HSub.nil ?_
          show Value.bool _ = _
          have hkn : k = l.es.length := by omega
          rw [hkn, List.take_length] at hent
          have hs : l.start.inB l.tk.full = true := g1_13
          have h12 : decide (l.es.length ≤ 12) = true := by simp; omega
          simp [Lg.okB, hs, hent, h12, g1_4]
theorem rvalid_any (l : Lg) (a : Option Addr) (cap : Nat) (ae : Option Addr) (cape : Nat) (w : World) (hn : l.tk.n ≤ 1000000) (hx : Ints w a l.tk.n cap l.tk.pints) (he : Ens w ae l.es.length cape l.es) : Ct Tryd.prog 83 #[.agg #[.slice a l.tk.n cap, .int .i64 l.tk.leak, .int .i64 l.tk.foot, .int .i64 l.start.lo, .int .i64 l.start.hi, .slice ae l.es.length cape]] w fun v _ => v = .int .i64 l.err := by
  have hF := wide_wide
  refine Ct_start (args := [_]) Tryd.func83 (by rfl) Tryd.ntmps83 (by rfl) ?_
  refine W_seq ?_
  refine W_region_lit (fun ds => ?_)
  refine WS_new hF (by rfl) (y_box (by rfl)) (fun b1 => ?_)
  refine WS_det hF (by rfl) (y_assign (c := .int .i64 _) (by rfl)) ?_
  refine WS_nil ?_
  refine Then_normal ?_
  refine W_seq ?_
  refine W_seq ?_
  refine W_region_lit (fun ds => ?_)
  refine WS_det hF (by rfl) (y_fieldAddr (by rfl) fa66_0) ?_
  refine WS_det hF (by rfl) (y_loadN (by rfl) Tryd.isAgg61 Tryd.sizeOf61 (Mem.own (us := [.slice _ _ _, .int .i64 _, .int .i64 _]) 0 (by rfl) (by rfl)) (by rfl)) ?_
  refine WS_det hF (by rfl) (y_callL (by rfl) (by rfl) Tryd.call120 (fun w hw => tank_any l.tk a cap w hn (hx.st w hw))) ?_
  refine WS_det hF (by rfl) (y_not (by rfl)) ?_
  refine WS_nil ?_
  refine Then_normal ?_
  refine W_cond (by rfl) (fun c1 => ?_) (fun c1 => ?_)
  ·
    try simp only [Bool.not_eq_true', Bool.not_eq_false', decide_eq_true_eq, decide_eq_false_iff_not, ne_eq, Classical.not_not, Int.not_lt, Int.not_le] at c1
    refine W_seq ?_
    refine W_region_lit (fun ds => ?_)
    refine WS_det hF (by rfl) (y_assign (c := .int .i64 _) (by rfl)) ?_
    refine WS_nil ?_
    refine Then_normal ?_
    refine W_ret ?_
    refine Then_ret ?_
    refine Fin_ret [.int .i64 _] [] Tryd.results83 ⟨by rfl, trivial⟩ HSub.nil ?_
    show Value.int _ _ = _
    simp [Lg.err, c1]
  ·
    try simp only [Bool.not_eq_true', Bool.not_eq_false', decide_eq_true_eq, decide_eq_false_iff_not, ne_eq, Classical.not_not, Int.not_lt, Int.not_le] at c1
    refine W_skip ?_
    refine Then_normal ?_
    refine W_seq ?_
    refine W_seq ?_
    refine W_region_lit (fun ds => ?_)
    refine WS_det hF (by rfl) (y_loadN (by rfl) Tryd.isAgg66 Tryd.sizeOf66 (Mem.own (us := [.slice _ _ _, .int .i64 _, .int .i64 _, .int .i64 _, .int .i64 _, .slice _ _ _]) 0 (by rfl) (by rfl)) (by rfl)) ?_
    refine WS_det hF (by rfl) (y_callL (by rfl) (by rfl) Tryd.call121 (fun w hw => rlog_any l a cap ae cape w hn (hx.st w hw) (he.st w hw))) ?_
    refine WS_det hF (by rfl) (y_not (by rfl)) ?_
    refine WS_nil ?_
    refine Then_normal ?_
    refine W_cond (by rfl) (fun c3 => ?_) (fun c3 => ?_)
    ·
      try simp only [Bool.not_eq_true', Bool.not_eq_false', decide_eq_true_eq, decide_eq_false_iff_not, ne_eq, Classical.not_not, Int.not_lt, Int.not_le] at c3
      refine W_seq ?_
      refine W_region_lit (fun ds => ?_)
      refine WS_det hF (by rfl) (y_assign (c := .int .i64 _) (by rfl)) ?_
      refine WS_nil ?_
      refine Then_normal ?_
      refine W_ret ?_
      refine Then_ret ?_
      refine Fin_ret [.int .i64 _] [] Tryd.results83 ⟨by rfl, trivial⟩ HSub.nil ?_
      show Value.int _ _ = _
      rw [c1, Bool.true_and] at c3
      simp [Lg.err, c1, c3]
    ·
      try simp only [Bool.not_eq_true', Bool.not_eq_false', decide_eq_true_eq, decide_eq_false_iff_not, ne_eq, Classical.not_not, Int.not_lt, Int.not_le] at c3
      refine W_skip ?_
      refine Then_normal ?_
      refine W_seq ?_
      refine W_region_lit (fun ds => ?_)
      refine WS_det hF (by rfl) (y_assign (c := .int .i64 _) (by rfl)) ?_
      refine WS_nil ?_
      refine Then_normal ?_
      refine W_ret ?_
      refine Fin_ret [.int .i64 _] [] Tryd.results83 ⟨by rfl, trivial⟩ HSub.nil ?_
      show Value.int _ _ = _
      rw [c1, Bool.true_and] at c3
      simp [Lg.err, c1, c3]
end Go.Proofs.YtjekjehgmljbgaaDoor.T

/- The reference's logs: the walks, second part. -/
namespace Go.Proofs.YtjekjehgmljbgaaDoor.T
open Go.RowKit Go.Proofs Go.Eng
set_option maxRecDepth 100000
set_option maxHeartbeats 1000000
set_option linter.unusedVariables false
set_option linter.unusedSimpArgs false



def ForthV (l : Lg) (v : Value) (Hn : List Blk) : Prop :=
  ∃ fb m cap junk f, v = .tuple #[.slice (some ⟨fb, 0, none⟩) m cap, .bool l.holdsB] ∧ Hn = [(fb, CB (snRow f m ++ junk) 63)] ∧ (l.holdsB = true → m = l.es.length + 1 ∧ f = l.hold)
theorem forth_any (l : Lg) (a : Option Addr) (cap : Nat) (ae : Option Addr) (cape : Nat) (w : World) (hok : l.Ok) (hn : l.tk.n ≤ 1000000) (hx : Ints w a l.tk.n cap l.tk.pints) (he : Ens w ae l.es.length cape l.es) : Ct Tryd.prog 169 #[.agg #[.slice a l.tk.n cap, .int .i64 l.tk.leak, .int .i64 l.tk.foot, .int .i64 l.start.lo, .int .i64 l.start.hi, .slice ae l.es.length cape]] w (ForthV l) := by
  have hn12 := hok.n12
  have he0 : (l.hold 0).empty = false := by
    have := Sn.inB_iff.1 hok.start
    show decide (l.start.hi < l.start.lo) = false
    simp only [decide_eq_false_iff_not]; omega
  have hF := wide_wide
  refine Ct_start (args := [_]) Tryd.func169 (by rfl) Tryd.ntmps169 (by rfl) ?_
  refine W_seq ?_
  refine W_region_lit (fun ds => ?_)
  refine WS_new hF (by rfl) (y_box (by rfl)) (fun b1 => ?_)
  refine WS_det hF (by rfl) (y_assign (c := .slice _ _ _) (by rfl)) ?_
  refine WS_det hF (by rfl) (y_assign (c := .bool _) (by rfl)) ?_
  refine WS_nil ?_
  refine Then_normal ?_
  refine W_seq ?_
  refine W_region_lit (fun ds => ?_)
  refine WS_det hF (by rfl) (y_fieldAddr (by rfl) fa66_1) ?_
  refine WS_det hF (by rfl) (y_loadN (by rfl) Tryd.isAgg63 Tryd.sizeOf63 (Mem.own (us := [.int .i64 _, .int .i64 _]) 0 (by rfl) (by rfl)) (by rfl)) ?_
  refine WS_newS hF (by rfl) (y_buildSliceL bs179_1_0 (by rfl)) (fun b2 => ?_)
  refine WS_det hF (by rfl) (y_assign (c := .slice _ _ _) (by rfl)) ?_
  refine WS_nil ?_
  refine Then_normal ?_
  refine W_seq ?_
  refine W_seq ?_
  refine W_region_lit (fun ds => ?_)
  refine WS_det hF (by rfl) (y_assign (c := .int .i64 _) (by rfl)) ?_
  refine WS_nil ?_
  refine Then_normal ?_
  refine W_block ?_
  refine W_loop (γ := Nat × Nat × Nat × List Value) (fun p => p.1 ≤ l.es.length ∧ (snRow l.hold (p.1 + 1) ++ p.2.2.2).length = p.2.2.1 * 2 ∧ p.1 + 1 ≤ p.2.2.1 ∧ ∀ j, j ≤ p.1 → (l.hold j).empty = false) (fun p => [(1, .pointer (some ⟨b1, 0, none⟩)), (4, .slice (some ⟨p.2.1, 0, none⟩) (p.1 + 1) p.2.2.1), (5, .int .i64 ((p.1 : Int) + 1))]) (fun p => [(p.2.1, CB (snRow l.hold (p.1 + 1) ++ p.2.2.2) 63), (b1, CB [.slice a l.tk.n cap, .int .i64 l.tk.leak, .int .i64 l.tk.foot, .int .i64 l.start.lo, .int .i64 l.start.hi, .slice ae l.es.length cape] 66)]) (fun p => l.es.length - p.1) ((0, b2, 1, [])) ⟨Nat.zero_le _, rfl, Nat.le_refl _, fun j hj => by obtain rfl : j = 0 := (by omega); exact he0⟩ (by repeat (first | exact trivial | refine ⟨by rfl, ?_⟩)) (List.Sublist.refl _) ?_
  rintro ⟨k, fb, fcap, junk⟩ e ⟨hk, hlen, hcap, hne⟩
  refine W_seq ?_
  refine W_seq ?_
  refine W_region_lit (fun ds => ?_)
  refine WS_det hF (by rfl) (y_move (c := .int .i64 _) (by rfl)) ?_
  refine WS_det hF (by rfl) (y_fieldAddr (by rfl) fa66_2) ?_
  refine WS_det hF (by rfl) (y_load1 (by rfl) Tryd.isAgg64 (Mem.own1 1 (by rfl) (by rfl))) ?_
  refine WS_det hF (by rfl) (y_len (by rfl) Tryd.runUnderlying64) ?_
  refine WS_det hF (by rfl) (y_leq (by rfl) (by rfl)) ?_
  refine WS_nil ?_
  refine Then_normal ?_
  refine W_cond (by rfl) (fun c3 => ?_) (fun c3 => ?_)
  ·
    try simp only [Bool.not_eq_true', Bool.not_eq_false', decide_eq_true_eq, decide_eq_false_iff_not, ne_eq, Classical.not_not, Int.not_lt, Int.not_le] at c3
    obtain ⟨b, o, rfl, hc⟩ := he.cell k (by omega)
    change At w b _ (l.e k).cells at hc
    simp only at hlen hcap hne
    have hsm := hok.hold_sm (k := k) (by omega) (fun j hj => hne j (by omega)) (hne k (Nat.le_refl _))
    have hbd := hok.hold_bd k (by omega) (fun j hj => hne j (by omega))
    have hdr := hok.drip_bd (i := k) (by omega)
    have hbs : (l.before k (l.hold k)).Sm := by
      unfold Sn.Sm at hsm ⊢
      unfold Lg.before
      simp only
      omega
    refine W_skip ?_
    refine Then_normal ?_
    refine W_seq ?_
    refine W_block ?_
    refine W_seq ?_
    refine W_draw0 hF Trydmixed [6] (by decide +kernel) (fun ds => ?_)
    refine P_det (by rfl) (Over_nil (y_loadN (by rfl) Tryd.isAgg66 Tryd.sizeOf66 (Mem.own (us := [.slice _ _ _, .int .i64 _, .int .i64 _, .int .i64 _, .int .i64 _, .slice _ _ _]) 1 (by rfl) (by rfl)) (by rfl))) ?_
    refine P_det (by rfl) (Over_nil (y_fieldAddr (by rfl) fa66_2)) ?_
    refine P_det (by rfl) (Over_nil (y_load1 (by rfl) Tryd.isAgg64 (Mem.own1 1 (by rfl) (by rfl)))) ?_
    refine P_det (by rfl) (Over_nil (y_move (c := .int .i64 _) (by rfl))) ?_
    refine P_det (by rfl) (Over_nil (y_sub (by rfl) (by rfl) (by unfold I64; omega))) ?_
    refine P_det (by rfl) (Over_nil (y_index (k := k) (by rfl) (by rfl) (by first | rfl | omega) (by first | decide | omega) Tryd.runUnderlying64 Tryd.sizeOf77)) ?_
    refine P_det (by rfl) (Over_nil (y_loadN (by rfl) Tryd.isAgg77 Tryd.sizeOf77 (by first | exact Mem.old (by assumption) | exact Mem.oldAt (us := [.int .i64 _, .int .i64 _, .int .i64 _, .int .i64 _]) (by assumption) (by rfl) | exact Mem.oldAtL (us := [.int .i64 _, .int .i64 _, .int .i64 _, .int .i64 _]) (by assumption) (by rfl) (by rfl)) (by rfl))) ?_
    refine P_det (by rfl) (Over_nil (y_loadN (by rfl) Tryd.isAgg66 Tryd.sizeOf66 (Mem.own (us := [.slice _ _ _, .int .i64 _, .int .i64 _, .int .i64 _, .int .i64 _, .slice _ _ _]) 1 (by rfl) (by rfl)) (by rfl))) ?_
    refine P_det (by rfl) (Over_nil (y_move (c := .int .i64 _) (by rfl))) ?_
    refine P_det (by rfl) (Over_nil (y_move (c := .slice _ _ _) (by rfl))) ?_
    refine P_det (by rfl) (Over_nil (y_move (c := .int .i64 _) (by rfl))) ?_
    refine P_det (by rfl) (Over_nil (y_sub (by rfl) (by rfl) (by unfold I64; omega))) ?_
    refine P_det (by rfl) (Over_nil (y_index (k := k) (by rfl) (by rfl) (by first | rfl | omega) (by first | decide | omega) Tryd.runUnderlying179 Tryd.sizeOf63)) ?_
    refine P_det (by rfl) (Over_nil (y_loadN (by rfl) Tryd.isAgg63 Tryd.sizeOf63 (Mem.rowJ sn_len 0 (by rfl) (k := k) (by omega) rfl (by omega)) (by rfl))) ?_
    refine P_det (by rfl) (Over_nil (y_callL (by rfl) (by rfl) Tryd.call194 (fun w hw => ahead_any l a cap _ cape k (l.hold k) w hok hn (hx.st w hw) (he.st w hw) (by omega) hsm hbd.1))) ?_
    refine P_det (by rfl) (Over_nil (y_callL (by rfl) (by rfl) Tryd.call193 (fun w hw => done_any l a cap _ cape k (l.before k (l.hold k)) w hok hn (hx.st w hw) (he.st w hw) (by omega) hbs))) ?_
    apply P_newS _ (by rfl) (by rfl) (by rfl) (Over_nil (y_alloc Tryd.zeroValue63 (by rfl)))
    refine P_st 6 0 (by rfl) (by rfl) (by rfl) (by rfl) (by rfl) (Over_nil (st_new (fun _ => by rfl) Tryd.sizeOf63 (by rfl) (by rfl) (by first | decide | exact Nat.le_of_ble_eq_true rfl | simp))) ?_
    refine PW_end (by rfl) ?_
    refine OverAll_cons (fun w6 l6 => ?_)
    refine OverAll_nil ?_
    rintro ⟨-, h6⟩
    obtain ⟨b3, rfl, rfl⟩ := h6
    refine Then_normal ?_
    refine W_seq ?_
    refine W_seq ?_
    refine W_region_lit (fun ds => ?_)
    refine WS_det hF (by rfl) (y_loadN (by rfl) Tryd.isAgg63 Tryd.sizeOf63 (Mem.own (us := [.int .i64 _, .int .i64 _]) 0 (by rfl) (by rfl)) (by rfl)) ?_
    refine WS_det hF (by rfl) (y_callL (by rfl) (by rfl) Tryd.call195 (fun w hw => none_any _ _ w)) ?_
    refine WS_nil ?_
    refine Then_normal ?_
    refine W_cond (by rfl) (fun c6 => ?_) (fun c6 => ?_)
    ·
      try simp only [Bool.not_eq_true', Bool.not_eq_false', decide_eq_true_eq, decide_eq_false_iff_not, ne_eq, Classical.not_not, Int.not_lt, Int.not_le] at c6
      refine W_seq ?_
      refine W_region_lit (fun ds => ?_)
      refine WS_det hF (by rfl) (y_move (c := .slice _ _ _) (by rfl)) ?_
      refine WS_det hF (by rfl) (y_assign (c := .slice _ _ _) (by rfl)) ?_
      refine WS_det hF (by rfl) (y_assign (c := .bool _) (by rfl)) ?_
      refine WS_nil ?_
      refine Then_normal ?_
      refine W_ret ?_
      refine Then_ret ?_
      refine InB_ret ?_
      refine Then_ret ?_
      refine Loop_ret ?_
      refine InB_ret ?_
      refine Then_ret ?_
      refine Fin_ret [.slice _ _ _, .bool _] [(fb, _)] Tryd.results169 ⟨by rfl, by rfl, trivial⟩ (HSub.sub (by repeat (first | exact List.nil_sublist _ | apply List.Sublist.cons_cons | apply List.Sublist.cons))) ?_
      have hB : l.holdsB = false := by
        cases hb : l.holdsB with
        | false => rfl
        | true =>
          have := l.holdsB_iff.1 hb (k + 1) (by omega)
          have h2 : decide ((l.tk.forth (l.e k) (l.before k (l.hold k))).hi < (l.tk.forth (l.e k) (l.before k (l.hold k))).lo) = false := this
          simp only [decide_eq_false_iff_not] at h2
          omega
      exact ⟨fb, k + 1, fcap, junk, l.hold, by rw [hB]; rfl, rfl, fun h => by rw [hB] at h; cases h⟩
    ·
      try simp only [Bool.not_eq_true', Bool.not_eq_false', decide_eq_true_eq, decide_eq_false_iff_not, ne_eq, Classical.not_not, Int.not_lt, Int.not_le] at c6
      refine W_skip ?_
      refine Then_normal ?_
      refine W_region_lit (fun ds => ?_)
      refine WS_det hF (by rfl) (y_move (c := .slice _ _ _) (by rfl)) ?_
      refine WS_det hF (by rfl) (y_loadN (by rfl) Tryd.isAgg63 Tryd.sizeOf63 (Mem.own (us := [.int .i64 _, .int .i64 _]) 0 (by rfl) (by rfl)) (by rfl)) ?_
      refine WS_newS hF (by rfl) (y_buildSliceL bs179_1_0 (by rfl)) (fun b4 => ?_)
      refine WS_append hF (H1 := [_, _]) (Hn := [(fb, CB (snRow l.hold (k + 1) ++ junk) 63)]) (by rfl) (by rfl) (by rfl) Tryd.underlying179 infSpan (by rfl) (by rfl) (.inr ⟨fb, junk, rfl, rfl, by rw [rowOf_len sn_len], hlen, hcap⟩) (.inr ⟨_, _, rfl, Mem.own (us := [.int _ _, .int _ _]) 0 (by rfl) (by rfl)⟩) (by rfl) (by rfl) (by omega) (by omega) ?_
      intro fa2 fcap2 Hf2 hrow2
      have hrow3 : Row 63 2 fa2 (k + 1 + 1) fcap2 (snRow l.hold (k + 1 + 1)) Hf2 := by rw [snRow, rowOf_succ]; exact hrow2
      have hne2 : ∀ j, j ≤ k + 1 → (l.hold j).empty = false := fun j hj => by
        obtain hj | rfl : j ≤ k ∨ j = k + 1 := by omega
        · exact hne j hj
        · show decide ((l.tk.forth (l.e k) (l.before k (l.hold k))).hi < (l.tk.forth (l.e k) (l.before k (l.hold k))).lo) = false
          simp only [decide_eq_false_iff_not]; omega
      obtain ⟨_, h0, _⟩ | ⟨fb2, junk2, rfl, rfl, hl1, hlen2, hcap2⟩ := hrow3
      · omega
      refine WS_det hF (by rfl) (y_assign (c := .slice _ _ _) (by rfl)) ?_
      refine WS_nil ?_
      refine InB_normal ?_
      refine Then_normal ?_
      refine W_region_lit (fun ds => ?_)
      refine WS_det hF (by rfl) (y_move (c := .int .i64 _) (by rfl)) ?_
      refine WS_det hF (by rfl) (y_add (by rfl) (by rfl) (by unfold I64; omega)) ?_
      refine WS_det hF (by rfl) (y_assign (c := .int .i64 _) (by rfl)) ?_
      refine WS_nil ?_
      exact Loop_next (k + 1, fb2, fcap2, junk2) ⟨by omega, hlen2, hcap2, hne2⟩ (by repeat (first | exact trivial | refine ⟨by rfl, ?_⟩)) (by repeat (first | exact List.Sublist.refl _ | exact List.nil_sublist _ | apply List.Sublist.cons_cons | apply List.Sublist.cons)) (by simp only; omega)
  ·
    try simp only [Bool.not_eq_true', Bool.not_eq_false', decide_eq_true_eq, decide_eq_false_iff_not, ne_eq, Classical.not_not, Int.not_lt, Int.not_le] at c3
    refine W_exit ?_
    refine Then_exit ?_
    refine Loop_exit ?_
    refine InB_same ?_
    refine Then_normal ?_
    refine W_seq ?_
    refine W_region_lit (fun ds => ?_)
    refine WS_det hF (by rfl) (y_move (c := .slice _ _ _) (by rfl)) ?_
    refine WS_det hF (by rfl) (y_assign (c := .slice _ _ _) (by rfl)) ?_
    refine WS_det hF (by rfl) (y_assign (c := .bool _) (by rfl)) ?_
    refine WS_nil ?_
    refine Then_normal ?_
    refine W_ret ?_
    refine Fin_ret [.slice _ _ _, .bool _] [(fb, _)] Tryd.results169 ⟨by rfl, by rfl, trivial⟩ (HSub.sub (by repeat (first | exact List.nil_sublist _ | apply List.Sublist.cons_cons | apply List.Sublist.cons))) ?_
    obtain rfl : k = l.es.length := by omega
    have hB : l.holdsB = true := l.holdsB_iff.2 hne
    exact ⟨fb, l.es.length + 1, fcap, junk, l.hold, by rw [hB]; rfl, rfl, fun _ => ⟨rfl, rfl⟩⟩
theorem holding_ref (l : Lg) (a : Option Addr) (cap : Nat) (ae : Option Addr) (cape : Nat) (w : World) (hok : l.Ok) (hn : l.tk.n ≤ 1000000) (hx : Ints w a l.tk.n cap l.tk.pints) (he : Ens w ae l.es.length cape l.es) : Ct Tryd.prog 140 #[.agg #[.slice a l.tk.n cap, .int .i64 l.tk.leak, .int .i64 l.tk.foot, .int .i64 l.start.lo, .int .i64 l.start.hi, .slice ae l.es.length cape]] w fun v _ => v = .bool l.holdsB := by
  have hF := wide_wide
  refine Ct_start (args := [_]) Tryd.func140 (by rfl) Tryd.ntmps140 (by rfl) ?_
  refine W_seq ?_
  refine W_region_lit (fun ds => ?_)
  refine WS_new hF (by rfl) (y_box (by rfl)) (fun b1 => ?_)
  refine WS_det hF (by rfl) (y_assign (c := .bool _) (by rfl)) ?_
  refine WS_nil ?_
  refine Then_normal ?_
  refine W_seq ?_
  refine W_region_lit (fun ds => ?_)
  refine WS_det hF (by rfl) (y_loadN (by rfl) Tryd.isAgg66 Tryd.sizeOf66 (Mem.own (us := [.slice _ _ _, .int .i64 _, .int .i64 _, .int .i64 _, .int .i64 _, .slice _ _ _]) 0 (by rfl) (by rfl)) (by rfl)) ?_
  refine WS_gen hF (by rfl) (y_callL (by rfl) (by rfl) Tryd.call169 (fun w hw => forth_any l a cap ae cape w hok hn (hx.st w hw) (he.st w hw))) ?_
  rintro _ _ ⟨fb, m, fcap, junk, f, rfl, rfl, _⟩
  refine WS_det hF (by rfl) (y_move (c := .tuple _) (by rfl)) ?_
  refine WS_det hF (by rfl) (y_extract (c := .slice _ _ _) (by rfl) (by rfl)) ?_
  refine WS_det hF (by rfl) (y_extract (c := .bool _) (by rfl) (by rfl)) ?_
  refine WS_det hF (by rfl) (y_assign (c := .slice _ _ _) (by rfl)) ?_
  refine WS_det hF (by rfl) (y_assign (c := .bool _) (by rfl)) ?_
  refine WS_nil ?_
  refine Then_normal ?_
  refine W_seq ?_
  refine W_region_lit (fun ds => ?_)
  refine WS_det hF (by rfl) (y_move (c := .bool _) (by rfl)) ?_
  refine WS_det hF (by rfl) (y_assign (c := .bool _) (by rfl)) ?_
  refine WS_nil ?_
  refine Then_normal ?_
  refine W_ret ?_
  refine Fin_ret [.bool _] [] Tryd.results140 ⟨by rfl, trivial⟩ HSub.nil ?_
  rfl
theorem rasked_any (l : Lg) (a : Option Addr) (cap : Nat) (ae : Option Addr) (cape : Nat) (w : World) (hn : l.tk.n ≤ 1000000) (hx : Ints w a l.tk.n cap l.tk.pints) (he : Ens w ae l.es.length cape l.es) : Ct Tryd.prog 113 #[.agg #[.slice a l.tk.n cap, .int .i64 l.tk.leak, .int .i64 l.tk.foot, .int .i64 l.start.lo, .int .i64 l.start.hi, .slice ae l.es.length cape]] w fun v _ => v = .int .i64 l.aerr := by
  have hF := wide_wide
  refine Ct_start (args := [_]) Tryd.func113 (by rfl) Tryd.ntmps113 (by rfl) ?_
  refine W_seq ?_
  refine W_region_lit (fun ds => ?_)
  refine WS_new hF (by rfl) (y_box (by rfl)) (fun b1 => ?_)
  refine WS_det hF (by rfl) (y_assign (c := .int .i64 _) (by rfl)) ?_
  refine WS_nil ?_
  refine Then_normal ?_
  refine W_seq ?_
  refine W_seq ?_
  refine W_region_lit (fun ds => ?_)
  refine WS_det hF (by rfl) (y_loadN (by rfl) Tryd.isAgg66 Tryd.sizeOf66 (Mem.own (us := [.slice _ _ _, .int .i64 _, .int .i64 _, .int .i64 _, .int .i64 _, .slice _ _ _]) 0 (by rfl) (by rfl)) (by rfl)) ?_
  refine WS_det hF (by rfl) (y_callL (by rfl) (by rfl) Tryd.call83 (fun w hw => rvalid_any l a cap ae cape w hn (hx.st w hw) (he.st w hw))) ?_
  refine WS_det hF (by rfl) (y_assign (c := .int .i64 _) (by rfl)) ?_
  refine WS_nil ?_
  refine Then_normal ?_
  refine W_seq ?_
  refine W_region_lit (fun ds => ?_)
  refine WS_det hF (by rfl) (y_move (c := .int .i64 _) (by rfl)) ?_
  refine WS_det hF (by rfl) (y_neq (by rfl) (by rfl)) ?_
  refine WS_nil ?_
  refine Then_normal ?_
  refine W_cond (by rfl) (fun c2 => ?_) (fun c2 => ?_)
  ·
    try simp only [Bool.not_eq_true', Bool.not_eq_false', decide_eq_true_eq, decide_eq_false_iff_not, ne_eq, Classical.not_not, Int.not_lt, Int.not_le] at c2
    refine W_seq ?_
    refine W_region_lit (fun ds => ?_)
    refine WS_det hF (by rfl) (y_move (c := .int .i64 _) (by rfl)) ?_
    refine WS_det hF (by rfl) (y_assign (c := .int .i64 _) (by rfl)) ?_
    refine WS_nil ?_
    refine Then_normal ?_
    refine W_ret ?_
    refine Then_ret ?_
    refine Fin_ret [.int .i64 _] [] Tryd.results113 ⟨by rfl, trivial⟩ HSub.nil ?_
    show Value.int _ _ = _
    unfold Lg.aerr; rw [if_neg c2]
  ·
    try simp only [Bool.not_eq_true', Bool.not_eq_false', decide_eq_true_eq, decide_eq_false_iff_not, ne_eq, Classical.not_not, Int.not_lt, Int.not_le] at c2
    refine W_skip ?_
    refine Then_normal ?_
    refine W_seq ?_
    refine W_seq ?_
    refine W_region_lit (fun ds => ?_)
    refine WS_det hF (by rfl) (y_loadN (by rfl) Tryd.isAgg66 Tryd.sizeOf66 (Mem.own (us := [.slice _ _ _, .int .i64 _, .int .i64 _, .int .i64 _, .int .i64 _, .slice _ _ _]) 0 (by rfl) (by rfl)) (by rfl)) ?_
    refine WS_det hF (by rfl) (y_callL (by rfl) (by rfl) Tryd.call140 (fun w hw => holding_ref l a cap ae cape w (l.ok_of c2) hn (hx.st w hw) (he.st w hw))) ?_
    refine WS_det hF (by rfl) (y_not (by rfl)) ?_
    refine WS_nil ?_
    refine Then_normal ?_
    refine W_cond (by rfl) (fun c4 => ?_) (fun c4 => ?_)
    ·
      try simp only [Bool.not_eq_true', Bool.not_eq_false', decide_eq_true_eq, decide_eq_false_iff_not, ne_eq, Classical.not_not, Int.not_lt, Int.not_le] at c4
      refine W_seq ?_
      refine W_region_lit (fun ds => ?_)
      refine WS_det hF (by rfl) (y_assign (c := .int .i64 _) (by rfl)) ?_
      refine WS_nil ?_
      refine Then_normal ?_
      refine W_ret ?_
      refine Then_ret ?_
      refine Fin_ret [.int .i64 _] [] Tryd.results113 ⟨by rfl, trivial⟩ HSub.nil ?_
      show Value.int _ _ = _
      unfold Lg.aerr; rw [if_pos c2, c4]; rfl
    ·
      try simp only [Bool.not_eq_true', Bool.not_eq_false', decide_eq_true_eq, decide_eq_false_iff_not, ne_eq, Classical.not_not, Int.not_lt, Int.not_le] at c4
      refine W_skip ?_
      refine Then_normal ?_
      refine W_seq ?_
      refine W_region_lit (fun ds => ?_)
      refine WS_det hF (by rfl) (y_assign (c := .int .i64 _) (by rfl)) ?_
      refine WS_nil ?_
      refine Then_normal ?_
      refine W_ret ?_
      refine Fin_ret [.int .i64 _] [] Tryd.results113 ⟨by rfl, trivial⟩ HSub.nil ?_
      show Value.int _ _ = _
      unfold Lg.aerr; rw [if_pos c2, c4]; rfl
def RBackV (l : Lg) (v : Value) (Hn : List Blk) : Prop := ∃ ab, v = .slice (some ⟨ab, 0, none⟩) (l.es.length + 1) (l.es.length + 1) ∧ Hn = [(ab, CB (snRow l.aft (l.es.length + 1)) 63)]
theorem rback_any (l : Lg) (a : Option Addr) (cap : Nat) (ae : Option Addr) (cape : Nat) (w : World) (hok : l.Ok) (hn : l.tk.n ≤ 1000000) (hx : Ints w a l.tk.n cap l.tk.pints) (he : Ens w ae l.es.length cape l.es) : Ct Tryd.prog 171 #[.agg #[.slice a l.tk.n cap, .int .i64 l.tk.leak, .int .i64 l.tk.foot, .int .i64 l.start.lo, .int .i64 l.start.hi, .slice ae l.es.length cape]] w (RBackV l) := by
  have hn12 := hok.n12
  have hn2 := hok.tk.n2
  have hfull := hok.tk.full_bd
  have hF := wide_wide
  refine Ct_start (args := [_]) Tryd.func171 (by rfl) Tryd.ntmps171 (by rfl) ?_
  refine W_seq ?_
  refine W_region_lit (fun ds => ?_)
  refine WS_new hF (by rfl) (y_box (by rfl)) (fun b1 => ?_)
  refine WS_det hF (by rfl) (y_assign (c := .slice _ _ _) (by rfl)) ?_
  refine WS_nil ?_
  refine Then_normal ?_
  refine W_seq ?_
  refine W_region_lit (fun ds => ?_)
  refine WS_det hF (by rfl) (y_fieldAddr (by rfl) fa66_2) ?_
  refine WS_det hF (by rfl) (y_load1 (by rfl) Tryd.isAgg64 (Mem.own1 0 (by rfl) (by rfl))) ?_
  refine WS_det hF (by rfl) (y_len (by rfl) Tryd.runUnderlying64) ?_
  refine WS_det hF (by rfl) (y_assign (c := .int .i64 _) (by rfl)) ?_
  refine WS_nil ?_
  refine Then_normal ?_
  refine W_seq ?_
  refine W_region_lit (fun ds => ?_)
  refine WS_det hF (by rfl) (y_move (c := .int .i64 _) (by rfl)) ?_
  refine WS_det hF (by rfl) (y_add (by rfl) (by rfl) (by unfold I64; omega)) ?_
  refine WS_newS hF (by rfl) (y_makeSlice (n := l.es.length + 1) (by rfl) (by rfl) (by omega) (by omega) Tryd.underlying179 infSpan (by rfl) (by rfl) (by omega) (by omega)) (fun b2 => ?_)
  refine WS_det hF (by rfl) (y_assign (c := .slice _ _ _) (by rfl)) ?_
  refine WS_nil ?_
  refine Then_normal ?_
  refine W_seq ?_
  refine W_region_lit (fun ds => ?_)
  refine WS_det hF (by rfl) (y_move (c := .slice _ _ _) (by rfl)) ?_
  refine WS_det hF (by rfl) (y_move (c := .int .i64 _) (by rfl)) ?_
  refine WS_det hF (by rfl) (y_loadN (by rfl) Tryd.isAgg66 Tryd.sizeOf66 (Mem.own (us := [.slice _ _ _, .int .i64 _, .int .i64 _, .int .i64 _, .int .i64 _, .slice _ _ _]) 1 (by rfl) (by rfl)) (by rfl)) ?_
  refine WS_det hF (by rfl) (y_callL (by rfl) (by rfl) Tryd.call196 (fun w hw => all_any l a cap ae cape w hok.tk hn (hx.st w hw) (he.st w hw))) ?_
  refine WS_det hF (by rfl) (y_index (k := l.es.length) (by rfl) (by rfl) (by first | rfl | omega) (by first | decide | omega) Tryd.runUnderlying179 Tryd.sizeOf63) ?_
  refine WS_store hF (i := 0) (by rfl) (by rfl) Tryd.sizeOf63 (by rfl) (by rfl) (by rfl) (by show 0 + l.es.length * 2 + 2 ≤ (snRow (fun _ => Sn.z) (l.es.length + 1)).length; rw [rowOf_len sn_len]; omega) ?_
  refine WS_nil ?_
  refine Then_normal ?_
  refine W_seq ?_
  refine W_seq ?_
  refine W_region_lit (fun ds => ?_)
  refine WS_det hF (by rfl) (y_move (c := .int .i64 _) (by rfl)) ?_
  refine WS_det hF (by rfl) (y_assign (c := .int .i64 _) (by rfl)) ?_
  refine WS_nil ?_
  refine Then_normal ?_
  refine W_block ?_
  refine W_loop (γ := Nat) (fun k => k ≤ l.es.length) (fun k => [(1, .pointer (some ⟨b1, 0, none⟩)), (4, .slice (some ⟨b2, 0, none⟩) (l.es.length + 1) (l.es.length + 1)), (5, .int .i64 ((l.es.length : Int) - (k : Int)))]) (fun k => [(b2, CB (snRow (l.af k) (l.es.length + 1)) 63), (b1, CB [.slice a l.tk.n cap, .int .i64 l.tk.leak, .int .i64 l.tk.foot, .int .i64 l.start.lo, .int .i64 l.start.hi, .slice ae l.es.length cape] 66)]) (fun k => l.es.length - k) (0) (Nat.zero_le _) ((by repeat (first | exact trivial | refine ⟨by rfl, ?_⟩ | refine ⟨congrArg (Value.int _) (by first | omega | (simp only; omega) | (push_cast; omega)), ?_⟩))) ((by have h := l.af_zero; rw [← Nat.zero_add (l.es.length * 2)] at h; rw [← h]; exact List.Sublist.refl _)) ?_
  intro k e hk
  refine W_seq ?_
  refine W_seq ?_
  refine W_region_lit (fun ds => ?_)
  refine WS_det hF (by rfl) (y_move (c := .int .i64 _) (by rfl)) ?_
  refine WS_det hF (by rfl) (y_gtr (by rfl) (by rfl)) ?_
  refine WS_nil ?_
  refine Then_normal ?_
  refine W_cond (by rfl) (fun c5 => ?_) (fun c5 => ?_)
  ·
    try simp only [Bool.not_eq_true', Bool.not_eq_false', decide_eq_true_eq, decide_eq_false_iff_not, ne_eq, Classical.not_not, Int.not_lt, Int.not_le] at c5
    obtain ⟨b, o, rfl, hc⟩ := he.cell (l.es.length - 1 - k) (by omega)
    change At w b _ (l.e (l.es.length - 1 - k)).cells at hc
    have hab := hok.aft_bd (i := l.es.length - 1 - k + 1) (by omega)
    have hhb := hok.ahd_bd (i := l.es.length - 1 - k) (by omega)
    have hdb := hok.drip_bd (i := l.es.length - 1 - k) (by omega)
    have hafe : l.af k (l.es.length - k) = l.aft (l.es.length - 1 - k + 1) := by unfold Lg.af; rw [if_pos (by omega), show l.es.length - k = l.es.length - 1 - k + 1 by omega]
    have h3 := l.af_succ (k := k) (by omega)
    refine W_skip ?_
    refine Then_normal ?_
    refine W_seq ?_
    refine W_block ?_
    refine W_seq ?_
    refine W_draw0 hF Trydmixed [6] (by decide +kernel) (fun ds => ?_)
    refine P_det (by rfl) (Over_nil (y_loadN (by rfl) Tryd.isAgg66 Tryd.sizeOf66 (Mem.own (us := [.slice _ _ _, .int .i64 _, .int .i64 _, .int .i64 _, .int .i64 _, .slice _ _ _]) 1 (by rfl) (by rfl)) (by rfl))) ?_
    refine P_det (by rfl) (Over_nil (y_fieldAddr (by rfl) fa66_2)) ?_
    refine P_det (by rfl) (Over_nil (y_load1 (by rfl) Tryd.isAgg64 (Mem.own1 1 (by rfl) (by rfl)))) ?_
    refine P_det (by rfl) (Over_nil (y_move (c := .int .i64 _) (by rfl))) ?_
    refine P_det (by rfl) (Over_nil (y_sub (by rfl) (by rfl) (by unfold I64; omega))) ?_
    refine P_det (by rfl) (Over_nil (y_index (k := l.es.length - 1 - k) (by rfl) (by rfl) (by first | rfl | omega) (by first | decide | omega) Tryd.runUnderlying64 Tryd.sizeOf77)) ?_
    refine P_det (by rfl) (Over_nil (y_loadN (by rfl) Tryd.isAgg77 Tryd.sizeOf77 (by first | exact Mem.old (by assumption) | exact Mem.oldAt (us := [.int .i64 _, .int .i64 _, .int .i64 _, .int .i64 _]) (by assumption) (by rfl) | exact Mem.oldAtL (us := [.int .i64 _, .int .i64 _, .int .i64 _, .int .i64 _]) (by assumption) (by rfl) (by rfl)) (by rfl))) ?_
    refine P_det (by rfl) (Over_nil (y_move (c := .slice _ _ _) (by rfl))) ?_
    refine P_det (by rfl) (Over_nil (y_move (c := .int .i64 _) (by rfl))) ?_
    refine P_det (by rfl) (Over_nil (y_index (k := l.es.length - k) (by rfl) (by rfl) (by first | rfl | omega) (by first | decide | omega) Tryd.runUnderlying179 Tryd.sizeOf63)) ?_
    refine P_det (by rfl) (Over_nil (y_loadN (by rfl) Tryd.isAgg63 Tryd.sizeOf63 (Mem.row sn_len 0 (by rfl) (k := l.es.length - k) (by omega) hafe (by omega)) (by rfl))) ?_
    refine P_det (by rfl) (Over_nil (y_callL (by rfl) (by rfl) Tryd.call197 (fun w hw => undone_any l a cap _ cape (l.es.length - 1 - k) (l.aft (l.es.length - 1 - k + 1)) w hok hn (hx.st w hw) (he.st w hw) (by omega) (by unfold Sn.Sm; omega)))) ?_
    apply P_newS _ (by rfl) (by rfl) (by rfl) (Over_nil (y_alloc Tryd.zeroValue63 (by rfl)))
    refine P_st 6 0 (by rfl) (by rfl) (by rfl) (by rfl) (by rfl) (Over_nil (st_new (fun _ => by rfl) Tryd.sizeOf63 (by rfl) (by rfl) (by first | decide | exact Nat.le_of_ble_eq_true rfl | simp))) ?_
    refine PW_end (by rfl) ?_
    refine OverAll_cons (fun w6 l6 => ?_)
    refine OverAll_nil ?_
    rintro ⟨-, h6⟩
    obtain ⟨bs, rfl, rfl⟩ := h6
    refine Then_normal ?_
    refine W_seq ?_
    refine W_seq ?_
    have hah : l.tk.back (l.e (l.es.length - 1 - k)) (l.aft (l.es.length - 1 - k + 1)) = l.ahd (l.es.length - 1 - k) := rfl
    rw [hah]
    refine W_region_lit (fun ds => ?_)
    refine WS_det hF (by rfl) (y_move (c := .int .i64 _) (by rfl)) ?_
    refine WS_det hF (by rfl) (y_gtr (by rfl) (by rfl)) ?_
    refine WS_nil ?_
    refine Then_normal ?_
    refine W_cond (by rfl) (fun c8 => ?_) (fun c8 => ?_)
    ·
      try simp only [Bool.not_eq_true', Bool.not_eq_false', decide_eq_true_eq, decide_eq_false_iff_not, ne_eq, Classical.not_not, Int.not_lt, Int.not_le] at c8
      have hs2 : splice (snRow (l.af k) (l.es.length + 1)) (0 + (l.es.length - 1 - k) * 2) [.int .i64 (l.ahd (l.es.length - 1 - k)).lo, .int .i64 (min ((l.ahd (l.es.length - 1 - k)).hi + l.drip (l.es.length - 1 - k)) l.tk.full)] = snRow (l.af (k + 1)) (l.es.length + 1) := by
        rw [Int.min_comm, Nat.zero_add]; exact h3
      apply W_drawMT 12 hF Trydmixed [] [] [] (by rfl) (by decide +kernel) (by decide) HSub.refl
      intro ds
      refine P_det (by rfl) (Over_nil (y_fieldAddr (by rfl) fa63_1)) ?_
      refine P_det (by rfl) (Over_nil (y_load1 (by rfl) Tryd.isAgg3 (Mem.own1 0 (by rfl) (by rfl)))) ?_
      refine P_det (by rfl) (Over_nil (y_loadN (by rfl) Tryd.isAgg66 Tryd.sizeOf66 (Mem.own (us := [.slice _ _ _, .int .i64 _, .int .i64 _, .int .i64 _, .int .i64 _, .slice _ _ _]) 2 (by rfl) (by rfl)) (by rfl))) ?_
      refine P_det (by rfl) (Over_nil (y_move (c := .int .i64 _) (by rfl))) ?_
      refine P_det (by rfl) (Over_nil (y_sub (by rfl) (by rfl) (by unfold I64; omega))) ?_
      refine P_det (by rfl) (Over_nil (y_callL (by rfl) (by rfl) Tryd.call198 (fun w hw => leak_any l a cap _ cape (l.es.length - 1 - k) _ w hok hn (hx.st w hw) (he.st w hw) (by omega) (by omega) (by omega)))) ?_
      refine P_det (by rfl) (Over_nil (y_add (by rfl) (by rfl) (by unfold I64; omega))) ?_
      refine P_det (by rfl) (Over_nil (y_fieldAddr (by rfl) fa66_0)) ?_
      refine P_det (by rfl) (Over_nil (y_loadN (by rfl) Tryd.isAgg61 Tryd.sizeOf61 (Mem.own (us := [.slice _ _ _, .int .i64 _, .int .i64 _]) 2 (by rfl) (by rfl)) (by rfl))) ?_
      refine P_det (by rfl) (Over_nil (y_callL (by rfl) (by rfl) Tryd.call151 (fun w hw => full_any l.tk a cap w hn (by omega) (hx.st w hw)))) ?_
      refine P_det (by rfl) (Over_nil (y_min (by rfl) (by rfl))) ?_
      refine P_det (by rfl) (Over_nil (y_fieldAddr (by rfl) fa63_1)) ?_
      refine PW_end (by rfl) ?_
      refine OverAll_nil ?_
      rintro -
      refine WS_store hF (i := 0) (by rfl) (by rfl) Tryd.sizeOf3 (by rfl) (by rfl) (by rfl) (by first | decide | exact Nat.le_of_ble_eq_true rfl | simp) ?_
      refine WS_nil ?_
      refine Then_normal ?_
      refine W_region_lit (fun ds => ?_)
      refine WS_det hF (by rfl) (y_move (c := .slice _ _ _) (by rfl)) ?_
      refine WS_det hF (by rfl) (y_move (c := .int .i64 _) (by rfl)) ?_
      refine WS_det hF (by rfl) (y_sub (by rfl) (by rfl) (by unfold I64; omega)) ?_
      refine WS_det hF (by rfl) (y_loadN (by rfl) Tryd.isAgg63 Tryd.sizeOf63 (Mem.own (us := [.int .i64 _, .int .i64 _]) 0 (by rfl) (by rfl)) (by rfl)) ?_
      refine WS_det hF (by rfl) (y_index (k := l.es.length - 1 - k) (by rfl) (by rfl) (by first | rfl | omega) (by first | decide | omega) Tryd.runUnderlying179 Tryd.sizeOf63) ?_
      refine WS_store hF (i := 1) (by rfl) (by rfl) Tryd.sizeOf63 (by rfl) (by rfl) (by rfl) (by show 0 + (l.es.length - 1 - k) * 2 + 2 ≤ (snRow (l.af k) (l.es.length + 1)).length; rw [rowOf_len sn_len]; omega) ?_
      refine WS_nil ?_
      refine InB_normal ?_
      refine Then_normal ?_
      refine W_region_lit (fun ds => ?_)
      refine WS_det hF (by rfl) (y_move (c := .int .i64 _) (by rfl)) ?_
      refine WS_det hF (by rfl) (y_sub (by rfl) (by rfl) (by unfold I64; omega)) ?_
      refine WS_det hF (by rfl) (y_assign (c := .int .i64 _) (by rfl)) ?_
      refine WS_nil ?_
      exact Loop_next (k + 1) (by omega) (by repeat (first | exact trivial | refine ⟨by rfl, ?_⟩ | refine ⟨congrArg (Value.int _) (by first | omega | (simp only; omega) | (push_cast; omega)), ?_⟩)) (by rw [← hs2]; repeat (first | exact List.Sublist.refl _ | exact List.nil_sublist _ | apply List.Sublist.cons_cons | apply List.Sublist.cons)) (by omega)
    ·
      try simp only [Bool.not_eq_true', Bool.not_eq_false', decide_eq_true_eq, decide_eq_false_iff_not, ne_eq, Classical.not_not, Int.not_lt, Int.not_le] at c8
      have hs2 : splice (snRow (l.af k) (l.es.length + 1)) (0 + (l.es.length - 1 - k) * 2) [.int .i64 (l.ahd (l.es.length - 1 - k)).lo, .int .i64 (l.ahd (l.es.length - 1 - k)).hi] = snRow (l.af (k + 1)) (l.es.length + 1) := by
        have hz : l.es.length - 1 - k = 0 := by omega
        rw [hz] at h3 hhb ⊢
        rw [show l.drip 0 = 0 from rfl, Int.add_zero, Int.min_eq_right hhb.2.1] at h3
        rw [Nat.zero_add]; exact h3
      refine W_skip ?_
      refine Then_normal ?_
      refine W_region_lit (fun ds => ?_)
      refine WS_det hF (by rfl) (y_move (c := .slice _ _ _) (by rfl)) ?_
      refine WS_det hF (by rfl) (y_move (c := .int .i64 _) (by rfl)) ?_
      refine WS_det hF (by rfl) (y_sub (by rfl) (by rfl) (by unfold I64; omega)) ?_
      refine WS_det hF (by rfl) (y_loadN (by rfl) Tryd.isAgg63 Tryd.sizeOf63 (Mem.own (us := [.int .i64 _, .int .i64 _]) 0 (by rfl) (by rfl)) (by rfl)) ?_
      refine WS_det hF (by rfl) (y_index (k := l.es.length - 1 - k) (by rfl) (by rfl) (by first | rfl | omega) (by first | decide | omega) Tryd.runUnderlying179 Tryd.sizeOf63) ?_
      refine WS_store hF (i := 1) (by rfl) (by rfl) Tryd.sizeOf63 (by rfl) (by rfl) (by rfl) (by show 0 + (l.es.length - 1 - k) * 2 + 2 ≤ (snRow (l.af k) (l.es.length + 1)).length; rw [rowOf_len sn_len]; omega) ?_
      refine WS_nil ?_
      refine InB_normal ?_
      refine Then_normal ?_
      refine W_region_lit (fun ds => ?_)
      refine WS_det hF (by rfl) (y_move (c := .int .i64 _) (by rfl)) ?_
      refine WS_det hF (by rfl) (y_sub (by rfl) (by rfl) (by unfold I64; omega)) ?_
      refine WS_det hF (by rfl) (y_assign (c := .int .i64 _) (by rfl)) ?_
      refine WS_nil ?_
      exact Loop_next (k + 1) (by omega) (by repeat (first | exact trivial | refine ⟨by rfl, ?_⟩ | refine ⟨congrArg (Value.int _) (by first | omega | (simp only; omega) | (push_cast; omega)), ?_⟩)) (by rw [← hs2]; repeat (first | exact List.Sublist.refl _ | exact List.nil_sublist _ | apply List.Sublist.cons_cons | apply List.Sublist.cons)) (by omega)
  ·
    try simp only [Bool.not_eq_true', Bool.not_eq_false', decide_eq_true_eq, decide_eq_false_iff_not, ne_eq, Classical.not_not, Int.not_lt, Int.not_le] at c5
    refine W_exit ?_
    refine Then_exit ?_
    refine Loop_exit ?_
    refine InB_same ?_
    refine Then_normal ?_
    refine W_seq ?_
    refine W_region_lit (fun ds => ?_)
    refine WS_det hF (by rfl) (y_move (c := .slice _ _ _) (by rfl)) ?_
    refine WS_det hF (by rfl) (y_assign (c := .slice _ _ _) (by rfl)) ?_
    refine WS_nil ?_
    refine Then_normal ?_
    refine W_ret ?_
    refine Fin_ret [.slice _ _ _] [(b2, _)] Tryd.results171 ⟨by rfl, trivial⟩ (HSub.sub (by repeat (first | exact List.nil_sublist _ | apply List.Sublist.cons_cons | apply List.Sublist.cons))) ?_
    obtain rfl : k = l.es.length := by omega
    exact ⟨b2, rfl, by rw [← l.af_end]⟩
end Go.Proofs.YtjekjehgmljbgaaDoor.T

/- The reference's asks: the walks. -/
namespace Go.Proofs.YtjekjehgmljbgaaDoor.T
open Go.RowKit Go.Proofs Go.Eng
set_option maxRecDepth 100000
set_option maxHeartbeats 1000000
set_option linter.unusedVariables false
set_option linter.unusedSimpArgs false



theorem rknown_any (l : Lg) (a : Option Addr) (cap : Nat) (ae : Option Addr) (cape : Nat) (i : Nat) (w : World) (hok : l.Ok) (hB : l.holdsB = true) (hn : l.tk.n ≤ 1000000) (hx : Ints w a l.tk.n cap l.tk.pints) (he : Ens w ae l.es.length cape l.es) (hi : i ≤ l.es.length) : Ct Tryd.prog 141 #[.agg #[.slice a l.tk.n cap, .int .i64 l.tk.leak, .int .i64 l.tk.foot, .int .i64 l.start.lo, .int .i64 l.start.hi, .slice ae l.es.length cape], .int .i64 (i : Int)] w fun v _ => v = .agg (l.at i).cells.toArray := by
  have hF := wide_wide
  refine Ct_start (args := [_, _]) Tryd.func141 (by rfl) Tryd.ntmps141 (by rfl) ?_
  refine W_seq ?_
  refine W_region_lit (fun ds => ?_)
  refine WS_new hF (by rfl) (y_box (by rfl)) (fun b1 => ?_)
  refine WS_new hF (by rfl) (y_alloc Tryd.zeroValue63 (by rfl)) (fun b2 => ?_)
  refine WS_nil ?_
  refine Then_normal ?_
  refine W_seq ?_
  refine W_region_lit (fun ds => ?_)
  refine WS_det hF (by rfl) (y_loadN (by rfl) Tryd.isAgg66 Tryd.sizeOf66 (Mem.own (us := [.slice _ _ _, .int .i64 _, .int .i64 _, .int .i64 _, .int .i64 _, .slice _ _ _]) 1 (by rfl) (by rfl)) (by rfl)) ?_
  refine WS_gen hF (by rfl) (y_callL (by rfl) (by rfl) Tryd.call169 (fun w hw => forth_any l a cap ae cape w hok hn (hx.st w hw) (he.st w hw))) ?_
  rintro _ _ ⟨fb, m, fcap, junk, f, rfl, rfl, hf⟩
  obtain ⟨rfl, rfl⟩ := hf hB
  refine WS_det hF (by rfl) (y_move (c := .tuple _) (by rfl)) ?_
  refine WS_det hF (by rfl) (y_extract (c := .slice _ _ _) (by rfl) (by rfl)) ?_
  refine WS_det hF (by rfl) (y_extract (c := .bool _) (by rfl) (by rfl)) ?_
  refine WS_det hF (by rfl) (y_assign (c := .slice _ _ _) (by rfl)) ?_
  refine WS_det hF (by rfl) (y_assign (c := .bool _) (by rfl)) ?_
  refine WS_nil ?_
  refine Then_normal ?_
  refine W_seq ?_
  apply W_draw1 hF Trydmixed [1000000] (i := 1) (by rfl) (by decide +kernel)
  intro ds
  refine P_det (by rfl) (Over_out (by rfl) (Over_nil (y_move (c := .slice _ _ _) (by rfl)))) ?_
  refine P_det (by rfl) (Over_out (by rfl) (Over_nil (y_move (c := .int .i64 _) (by rfl)))) ?_
  refine P_det (by rfl) (Over_out (by rfl) (Over_nil (y_index (k := i) (by rfl) (by rfl) (by first | rfl | omega) (by first | decide | omega) Tryd.runUnderlying179 Tryd.sizeOf63))) ?_
  refine P_det (by rfl) (Over_out (by rfl) (Over_nil (y_loadN (by rfl) Tryd.isAgg63 Tryd.sizeOf63 (Mem.rowJ sn_len 0 (by rfl) (k := i) (by omega) rfl (by omega)) (by rfl)))) ?_
  refine P_det (by rfl) (Over_out (by rfl) (Over_nil (y_loadN (by rfl) Tryd.isAgg66 Tryd.sizeOf66 (Mem.own (us := [.slice _ _ _, .int .i64 _, .int .i64 _, .int .i64 _, .int .i64 _, .slice _ _ _]) 1 (by rfl) (by rfl)) (by rfl)))) ?_
  refine P_new (by rfl) (by rfl) (Over_out (by rfl) (Over_nil (y_callL (by rfl) (by rfl) Tryd.call171 (fun w hw => rback_any l a cap ae cape w hok hn (hx.st w hw) (he.st w hw))))) ?_
  refine P_det (by rfl) (Over_out (by rfl) (Over_out (by rfl) (Over_nil (y_move (c := .int .i64 _) (by rfl))))) ?_
  refine P_ali [17] (fun e => slAt (e 17) (i * 2)) (by rfl) (by rfl) (by rfl) (fun _ _ h => congrArg (slAt · (i * 2)) (h 17 (List.mem_singleton.2 rfl))) (Over_in (by rfl) (Over_out (by rfl) (Over_nil (by intro vb4 l17 hb4; obtain ⟨ab, rfl, rfl⟩ := hb4; exact (YD0_of (y_index (k := i) (by rfl) (by rfl) (by first | rfl | omega) (by first | decide | omega) Tryd.runUnderlying179 Tryd.sizeOf63)))))) ?_
  refine P_det (by rfl) (Over_in (by rfl) (Over_in (by rfl) (Over_out (by rfl) (Over_nil (by intro vb6 l17 hb6; obtain ⟨ab, rfl, rfl⟩ := hb6; rintro vb7 _ ⟨hvb7, rfl⟩; replace hvb7 : vb7 = .pointer _ := hvb7; subst hvb7; exact (y_loadN (by rfl) Tryd.isAgg63 Tryd.sizeOf63 (Mem.row sn_len 0 (by rfl) (k := i) (by omega) rfl (by omega)) (by rfl))))))) ?_
  refine P_det (by rfl) (Over_out (by rfl) (Over_out (by rfl) (Over_out (by rfl) (Over_nil (y_callL (by rfl) (by rfl) Tryd.call170 (fun w hw => both_any _ _ _ _ w)))))) ?_
  refine P_st 1000000 2 (by rfl) (by rfl) (by rfl) (by rfl) (by rfl) (Over_out (by rfl) (Over_out (by rfl) (Over_nil (st_pre (fun _ => by rfl) (fun _ => by rfl) Tryd.sizeOf63 (by rfl) (by rfl) (by first | decide | exact Nat.le_of_ble_eq_true rfl | simp))))) ?_
  refine PW_end (by rfl) ?_
  refine OverAll_cons (fun w19 l19 => ?_)
  refine OverAll_cons (fun w17 l17 => ?_)
  refine OverAll_cons (fun w1000000 l1000000 => ?_)
  refine OverAll_nil ?_
  rintro ⟨⟨⟨-, h19⟩, h17⟩, h1000000⟩
  obtain ⟨ab, rfl, rfl⟩ := h17
  obtain ⟨h19, rfl⟩ := h19
  replace h19 : w19 = .pointer _ := h19
  subst h19
  obtain rfl := h1000000
  refine Then_normal ?_
  refine W_ret ?_
  refine Fin_ret [_] [] Tryd.results141 ⟨lvN (by rfl) Tryd.isAgg63 Tryd.sizeOf63 (Mem.own (us := [.int .i64 _, .int .i64 _]) 0 (by rfl) (by rfl)) (by rfl), trivial⟩ HSub.nil ?_
  rfl
theorem rlast_any (l : Lg) (a : Option Addr) (cap : Nat) (ae : Option Addr) (cape : Nat) (w : World) (h0 : l.aerr = 0) (hn : l.tk.n ≤ 1000000) (hx : Ints w a l.tk.n cap l.tk.pints) (he : Ens w ae l.es.length cape l.es) : Ct Tryd.prog 114 #[.agg #[.slice a l.tk.n cap, .int .i64 l.tk.leak, .int .i64 l.tk.foot, .int .i64 l.start.lo, .int .i64 l.start.hi, .slice ae l.es.length cape]] w fun v _ => v = .agg l.last.cells.toArray := by
  have hok := l.ok_of (l.aerr0 h0).1
  have hB := l.holdsB_iff.2 (l.aerr0 h0).2
  have hn12 := hok.n12
  have hF := wide_wide
  refine Ct_start (args := [_]) Tryd.func114 (by rfl) Tryd.ntmps114 (by rfl) ?_
  refine W_seq ?_
  refine W_region_lit (fun ds => ?_)
  refine WS_new hF (by rfl) (y_box (by rfl)) (fun b1 => ?_)
  refine WS_new hF (by rfl) (y_alloc Tryd.zeroValue63 (by rfl)) (fun b2 => ?_)
  refine WS_nil ?_
  refine Then_normal ?_
  refine W_seq ?_
  refine W_region_lit (fun ds => ?_)
  refine WS_det hF (by rfl) (y_loadN (by rfl) Tryd.isAgg66 Tryd.sizeOf66 (Mem.own (us := [.slice _ _ _, .int .i64 _, .int .i64 _, .int .i64 _, .int .i64 _, .slice _ _ _]) 1 (by rfl) (by rfl)) (by rfl)) ?_
  refine WS_det hF (by rfl) (y_fieldAddr (by rfl) fa66_2) ?_
  refine WS_det hF (by rfl) (y_load1 (by rfl) Tryd.isAgg64 (Mem.own1 1 (by rfl) (by rfl))) ?_
  refine WS_det hF (by rfl) (y_len (by rfl) Tryd.runUnderlying64) ?_
  refine WS_det hF (by rfl) (y_callL (by rfl) (by rfl) Tryd.call141 (fun w hw => rknown_any l a cap ae cape l.es.length w hok hB hn (hx.st w hw) (he.st w hw) (Nat.le_refl _))) ?_
  refine WS_store hF (i := 0) (by rfl) (by rfl) Tryd.sizeOf63 (by rfl) (by rfl) (by rfl) (by first | decide | exact Nat.le_of_ble_eq_true rfl | simp) ?_
  refine WS_nil ?_
  refine Then_normal ?_
  refine W_ret ?_
  refine Fin_ret [_] [] Tryd.results114 ⟨lvN (by rfl) Tryd.isAgg63 Tryd.sizeOf63 (Mem.own (us := [.int .i64 _, .int .i64 _]) 0 (by rfl) (by rfl)) (by rfl), trivial⟩ HSub.nil ?_
  rfl
theorem foots_any (l : Lg) (a : Option Addr) (cap : Nat) (ae : Option Addr) (cape : Nat) (w : World) (hok : l.tk.Ok) (hn : l.tk.n ≤ 1000000) (hx : Ints w a l.tk.n cap l.tk.pints) (he : Ens w ae l.es.length cape l.es) : Ct Tryd.prog 115 #[.agg #[.slice a l.tk.n cap, .int .i64 l.tk.leak, .int .i64 l.tk.foot]] w fun v _ => v = .int .i64 (l.tk.up l.tk.foot) := by
  have hf0 := hok.foot0
  have hf1 := hok.foot1
  have hfull := hok.full_bd
  have he8 := hok.eight_bd hf0 hf1
  have hF := wide_wide
  refine Ct_start (args := [_]) Tryd.func115 (by rfl) Tryd.ntmps115 (by rfl) ?_
  refine W_seq ?_
  refine W_region_lit (fun ds => ?_)
  refine WS_new hF (by rfl) (y_box (by rfl)) (fun b1 => ?_)
  refine WS_det hF (by rfl) (y_assign (c := .int .i64 _) (by rfl)) ?_
  refine WS_nil ?_
  refine Then_normal ?_
  refine W_seq ?_
  refine W_region_lit (fun ds => ?_)
  refine WS_det hF (by rfl) (y_loadN (by rfl) Tryd.isAgg61 Tryd.sizeOf61 (Mem.own (us := [.slice _ _ _, .int .i64 _, .int .i64 _]) 0 (by rfl) (by rfl)) (by rfl)) ?_
  refine WS_det hF (by rfl) (y_fieldAddr (by rfl) fa61_2) ?_
  refine WS_det hF (by rfl) (y_load1 (by rfl) Tryd.isAgg3 (Mem.own1 0 (by rfl) (by rfl))) ?_
  refine WS_det hF (by rfl) (y_callL (by rfl) (by rfl) Tryd.call142 (fun w hw => eight_any l.tk _ _ l.tk.foot w hn (hx.st w hw) hok hf0 hf1)) ?_
  refine WS_det hF (by rfl) (y_add (by rfl) (by rfl) (by unfold I64; omega)) ?_
  refine WS_det hF (by rfl) (y_quo (by rfl) (by rfl) (by omega) (by omega) (by unfold I64; omega)) ?_
  refine WS_det hF (by rfl) (y_assign (c := .int .i64 _) (by rfl)) ?_
  refine WS_nil ?_
  refine Then_normal ?_
  refine W_ret ?_
  refine Fin_ret [.int .i64 _] [] Tryd.results115 ⟨by rfl, trivial⟩ HSub.nil ?_
  rfl
theorem rready_any (l : Lg) (a : Option Addr) (cap : Nat) (ae : Option Addr) (cape : Nat) (w : World) (hn : l.tk.n ≤ 1000000) (hx : Ints w a l.tk.n cap l.tk.pints) (he : Ens w ae l.es.length cape l.es) : Ct Tryd.prog 79 #[.agg #[.slice a l.tk.n cap, .int .i64 l.tk.leak, .int .i64 l.tk.foot, .int .i64 l.start.lo, .int .i64 l.start.hi, .slice ae l.es.length cape]] w fun v _ => v = l.readyV := by
  have hF := wide_wide
  refine Ct_start (args := [_]) Tryd.func79 (by rfl) Tryd.ntmps79 (by rfl) ?_
  refine W_seq ?_
  refine W_region_lit (fun ds => ?_)
  refine WS_new hF (by rfl) (y_box (by rfl)) (fun b1 => ?_)
  refine WS_new hF (by rfl) (y_alloc Tryd.zeroValue63 (by rfl)) (fun b2 => ?_)
  refine WS_det hF (by rfl) (y_assign (c := .int .i64 _) (by rfl)) ?_
  refine WS_nil ?_
  refine Then_normal ?_
  refine W_seq ?_
  refine W_seq ?_
  refine W_region_lit (fun ds => ?_)
  refine WS_det hF (by rfl) (y_loadN (by rfl) Tryd.isAgg66 Tryd.sizeOf66 (Mem.own (us := [.slice _ _ _, .int .i64 _, .int .i64 _, .int .i64 _, .int .i64 _, .slice _ _ _]) 1 (by rfl) (by rfl)) (by rfl)) ?_
  refine WS_det hF (by rfl) (y_callL (by rfl) (by rfl) Tryd.call113 (fun w hw => rasked_any l a cap ae cape w hn (hx.st w hw) (he.st w hw))) ?_
  refine WS_det hF (by rfl) (y_assign (c := .int .i64 _) (by rfl)) ?_
  refine WS_nil ?_
  refine Then_normal ?_
  refine W_seq ?_
  refine W_region_lit (fun ds => ?_)
  refine WS_det hF (by rfl) (y_move (c := .int .i64 _) (by rfl)) ?_
  refine WS_det hF (by rfl) (y_neq (by rfl) (by rfl)) ?_
  refine WS_nil ?_
  refine Then_normal ?_
  refine W_cond (by rfl) (fun c2 => ?_) (fun c2 => ?_)
  ·
    try simp only [Bool.not_eq_true', Bool.not_eq_false', decide_eq_true_eq, decide_eq_false_iff_not, ne_eq, Classical.not_not, Int.not_lt, Int.not_le] at c2
    refine W_seq ?_
    refine W_region_lit (fun ds => ?_)
    refine WS_det hF (by rfl) (y_buildL bd63 (by rfl)) ?_
    refine WS_det hF (by rfl) (y_move (c := .int .i64 _) (by rfl)) ?_
    refine WS_store hF (i := 0) (by rfl) (by rfl) Tryd.sizeOf63 (by rfl) (by rfl) (by rfl) (by first | decide | exact Nat.le_of_ble_eq_true rfl | simp) ?_
    refine WS_det hF (by rfl) (y_assign (c := .int .i64 _) (by rfl)) ?_
    refine WS_nil ?_
    refine Then_normal ?_
    refine W_ret ?_
    refine Then_ret ?_
    refine Fin_ret [_, .int .i64 _] [] Tryd.results79 ⟨lvN (by rfl) Tryd.isAgg63 Tryd.sizeOf63 (Mem.own (us := [.int .i64 _, .int .i64 _]) 0 (by rfl) (by rfl)) (by rfl), by rfl, trivial⟩ HSub.nil ?_
    show Value.tuple _ = _
    unfold Lg.readyV
    rw [if_neg c2]; rfl
  ·
    try simp only [Bool.not_eq_true', Bool.not_eq_false', decide_eq_true_eq, decide_eq_false_iff_not, ne_eq, Classical.not_not, Int.not_lt, Int.not_le] at c2
    have hok := l.ok_of (l.aerr0 c2).1
    have hne := (l.aerr0 c2).2
    have hfull := hok.tk.full_bd
    have hlb := hok.last_bd hne
    have hf0 := hok.tk.foot0
    have hf1 := hok.tk.foot1
    have hup := hok.tk.eight_bd hf0 hf1
    have hfe : 0 ≤ l.tk.up l.tk.foot ∧ l.tk.up l.tk.foot ≤ 100000 := by unfold Tk.up; omega
    refine W_skip ?_
    refine Then_normal ?_
    refine W_seq ?_
    refine W_region_lit (fun ds => ?_)
    refine WS_det hF (by rfl) (y_loadN (by rfl) Tryd.isAgg66 Tryd.sizeOf66 (Mem.own (us := [.slice _ _ _, .int .i64 _, .int .i64 _, .int .i64 _, .int .i64 _, .slice _ _ _]) 1 (by rfl) (by rfl)) (by rfl)) ?_
    refine WS_det hF (by rfl) (y_callL (by rfl) (by rfl) Tryd.call114 (fun w hw => rlast_any l a cap ae cape w c2 hn (hx.st w hw) (he.st w hw))) ?_
    refine WS_new hF (by rfl) (y_alloc Tryd.zeroValue63 (by rfl)) (fun b3 => ?_)
    refine WS_store hF (i := 0) (by rfl) (by rfl) Tryd.sizeOf63 (by rfl) (by rfl) (by rfl) (by first | decide | exact Nat.le_of_ble_eq_true rfl | simp) ?_
    refine WS_nil ?_
    refine Then_normal ?_
    refine W_seq ?_
    apply W_draw1 hF Trydmixed [1000000] (i := 1) (by rfl) (by decide +kernel)
    intro ds
    refine P_det (by rfl) (Over_out (by rfl) (Over_nil (y_fieldAddr (by rfl) fa63_0))) ?_
    refine P_det (by rfl) (Over_out (by rfl) (Over_nil (y_load1 (by rfl) Tryd.isAgg3 (Mem.own1 0 (by rfl) (by rfl))))) ?_
    refine P_det (by rfl) (Over_out (by rfl) (Over_nil (y_fieldAddr (by rfl) fa66_0))) ?_
    refine P_det (by rfl) (Over_out (by rfl) (Over_nil (y_loadN (by rfl) Tryd.isAgg61 Tryd.sizeOf61 (Mem.own (us := [.slice _ _ _, .int .i64 _, .int .i64 _]) 1 (by rfl) (by rfl)) (by rfl)))) ?_
    refine P_det (by rfl) (Over_out (by rfl) (Over_nil (y_callL (by rfl) (by rfl) Tryd.call115 (fun w hw => foots_any l a cap ae cape w hok.tk hn (hx.st w hw) (he.st w hw))))) ?_
    refine P_det (by rfl) (Over_out (by rfl) (Over_nil (y_sub (by rfl) (by rfl) (by unfold I64; omega)))) ?_
    refine P_det (by rfl) (Over_out (by rfl) (Over_nil (y_max (by rfl) (by rfl)))) ?_
    refine P_det (by rfl) (Over_out (by rfl) (Over_nil (y_fieldAddr (by rfl) fa63_1))) ?_
    refine P_det (by rfl) (Over_out (by rfl) (Over_nil (y_load1 (by rfl) Tryd.isAgg3 (Mem.own1 0 (by rfl) (by rfl))))) ?_
    refine P_det (by rfl) (Over_out (by rfl) (Over_nil (y_fieldAddr (by rfl) fa66_0))) ?_
    refine P_det (by rfl) (Over_out (by rfl) (Over_nil (y_loadN (by rfl) Tryd.isAgg61 Tryd.sizeOf61 (Mem.own (us := [.slice _ _ _, .int .i64 _, .int .i64 _]) 1 (by rfl) (by rfl)) (by rfl)))) ?_
    refine P_det (by rfl) (Over_out (by rfl) (Over_nil (y_callL (by rfl) (by rfl) Tryd.call115 (fun w hw => foots_any l a cap ae cape w hok.tk hn (hx.st w hw) (he.st w hw))))) ?_
    refine P_det (by rfl) (Over_out (by rfl) (Over_nil (y_sub (by rfl) (by rfl) (by unfold I64; omega)))) ?_
    refine P_det (by rfl) (Over_out (by rfl) (Over_nil (y_max (by rfl) (by rfl)))) ?_
    refine P_det (by rfl) (Over_out (by rfl) (Over_nil (y_buildL bd63_0_1 (by rfl)))) ?_
    refine P_st 1000000 0 (by rfl) (by rfl) (by rfl) (by rfl) (by rfl) (Over_nil (st_pre (fun _ => by rfl) (fun _ => by rfl) Tryd.sizeOf63 (by rfl) (by rfl) (by first | decide | exact Nat.le_of_ble_eq_true rfl | simp))) ?_
    refine P_det (by rfl) (Over_out (by rfl) (Over_nil (y_assign (c := .int .i64 _) (by rfl)))) ?_
    refine PW_end (by rfl) ?_
    refine OverAll_cons (fun w1000000 l1000000 => ?_)
    refine OverAll_nil ?_
    rintro ⟨-, h1000000⟩
    obtain rfl := h1000000
    refine Then_normal ?_
    refine W_ret ?_
    refine Fin_ret [_, .int .i64 _] [] Tryd.results79 ⟨lvN (by rfl) Tryd.isAgg63 Tryd.sizeOf63 (Mem.own (us := [.int .i64 _, .int .i64 _]) 0 (by rfl) (by rfl)) (by rfl), by rfl, trivial⟩ HSub.nil ?_
    show Value.tuple _ = _
    unfold Lg.readyV
    rw [if_pos c2]; rfl
end Go.Proofs.YtjekjehgmljbgaaDoor.T

/- The reference's dip that tells most: the walks. -/
namespace Go.Proofs.YtjekjehgmljbgaaDoor.T
open Go.RowKit Go.Proofs Go.Eng
set_option maxRecDepth 100000
set_option maxHeartbeats 1000000
set_option linter.unusedVariables false
set_option linter.unusedSimpArgs false



end Go.Proofs.YtjekjehgmljbgaaDoor.T

/- Great, Twin, Same of logs: the walks; the law of asks. -/
namespace Go.Proofs.YtjekjehgmljbgaaDoor.T
open Go.RowKit Go.Proofs Go.Eng
set_option maxRecDepth 100000
set_option maxHeartbeats 1000000
set_option linter.unusedVariables false
set_option linter.unusedSimpArgs false

theorem a_ep63_0 {x_0 : Int} {x_1 : Int} : ∀ w, (part 3 #[.int .i64 x_0, .int .i64 x_1] 0).run Tryd.prog w = .ok (.int .i64 x_0) w := fun w => by kernel_rfl
theorem a_ep63_1 {x_0 : Int} {x_1 : Int} : ∀ w, (part 3 #[.int .i64 x_0, .int .i64 x_1] 1).run Tryd.prog w = .ok (.int .i64 x_1) w := fun w => by kernel_rfl
theorem a_ep77_0 {x_0 : Int} {x_1 : Int} {x_2 : Int} {x_3 : Int} : ∀ w, (part 3 #[.int .i64 x_0, .int .i64 x_1, .int .i64 x_2, .int .i64 x_3] 0).run Tryd.prog w = .ok (.int .i64 x_0) w := fun w => by kernel_rfl
theorem a_ep77_1 {x_0 : Int} {x_1 : Int} {x_2 : Int} {x_3 : Int} : ∀ w, (part 3 #[.int .i64 x_0, .int .i64 x_1, .int .i64 x_2, .int .i64 x_3] 1).run Tryd.prog w = .ok (.int .i64 x_1) w := fun w => by kernel_rfl
theorem a_ep77_2 {x_0 : Int} {x_1 : Int} {x_2 : Int} {x_3 : Int} : ∀ w, (part 63 #[.int .i64 x_0, .int .i64 x_1, .int .i64 x_2, .int .i64 x_3] 2).run Tryd.prog w = .ok (.agg #[.int .i64 x_2, .int .i64 x_3]) w := fun w => by kernel_rfl
theorem a_gneqA63 {x y : Operand} {x_0 : Int} {x_1 : Int} {y_0 : Int} {y_1 : Int} : ∀ w, (eqGuard .neq 63 x y (.agg #[.int .i64 x_0, .int .i64 x_1]) (.agg #[.int .i64 y_0, .int .i64 y_1])).run Tryd.prog w = .ok () w := fun w => by kernel_rfl
theorem a_gneqA77 {x y : Operand} {x_0 : Int} {x_1 : Int} {x_2 : Int} {x_3 : Int} {y_0 : Int} {y_1 : Int} {y_2 : Int} {y_3 : Int} : ∀ w, (eqGuard .neq 77 x y (.agg #[.int .i64 x_0, .int .i64 x_1, .int .i64 x_2, .int .i64 x_3]) (.agg #[.int .i64 y_0, .int .i64 y_1, .int .i64 y_2, .int .i64 y_3])).run Tryd.prog w = .ok () w := fun w => by kernel_rfl
theorem a_st63 : Tryd.prog.stoodInHeld 63 = false := by kernel_rfl
theorem a_st77 : Tryd.prog.stoodInHeld 77 = false := by kernel_rfl
theorem eq63_9999 {x_0 : Int} {x_1 : Int} {y_0 : Int} {y_1 : Int} : ∀ w, (Op.equalIn 9999 63 (.agg #[.int .i64 x_0, .int .i64 x_1]) (.agg #[.int .i64 y_0, .int .i64 y_1])).run Tryd.prog w = .ok (ieq x_0 y_0 && ieq x_1 y_1) w := fun w => by
  unfold Op.equalIn
  rw [Sem.run_bind, Tryd.runUnderlying63]
  simp [a_st63, a_ep63_0, eq_int (d := 9997) Tryd.runUnderlying3, a_ep63_1, eq_int (d := 9997) Tryd.runUnderlying3]
  generalize ieq x_0 y_0 = b0
  generalize ieq x_1 y_1 = b1
  cases b0 <;> cases b1 <;> simp
theorem bd66_0_1_2 {x0_0a : Option Addr} {x0_0l x0_0c : Nat} {x0_1 : Int} {x0_2 : Int} {x1_0 : Int} {x1_1 : Int} {x2a : Option Addr} {x2l x2c : Nat} : ∀ w, (Instr.build 66 #[(0, .agg #[.slice x0_0a x0_0l x0_0c, .int .i64 x0_1, .int .i64 x0_2]), (1, .agg #[.int .i64 x1_0, .int .i64 x1_1]), (2, .slice x2a x2l x2c)]).run Tryd.prog w = .ok (.agg #[.slice x0_0a x0_0l x0_0c, .int .i64 x0_1, .int .i64 x0_2, .int .i64 x1_0, .int .i64 x1_1, .slice x2a x2l x2c]) w := fun w => by kernel_rfl
theorem eq63 {x_0 : Int} {x_1 : Int} {y_0 : Int} {y_1 : Int} : ∀ w, (Op.equalIn Op.maxDepth 63 (.agg #[.int .i64 x_0, .int .i64 x_1]) (.agg #[.int .i64 y_0, .int .i64 y_1])).run Tryd.prog w = .ok (ieq x_0 y_0 && ieq x_1 y_1) w := fun w => by
  unfold Op.maxDepth Op.equalIn
  rw [Sem.run_bind, Tryd.runUnderlying63]
  simp [a_st63, a_ep63_0, eq_int (d := 9998) Tryd.runUnderlying3, a_ep63_1, eq_int (d := 9998) Tryd.runUnderlying3]
  generalize ieq x_0 y_0 = b0
  generalize ieq x_1 y_1 = b1
  cases b0 <;> cases b1 <;> simp
theorem eq77 {x_0 : Int} {x_1 : Int} {x_2 : Int} {x_3 : Int} {y_0 : Int} {y_1 : Int} {y_2 : Int} {y_3 : Int} : ∀ w, (Op.equalIn Op.maxDepth 77 (.agg #[.int .i64 x_0, .int .i64 x_1, .int .i64 x_2, .int .i64 x_3]) (.agg #[.int .i64 y_0, .int .i64 y_1, .int .i64 y_2, .int .i64 y_3])).run Tryd.prog w = .ok (ieq x_0 y_0 && ieq x_1 y_1 && ieq x_2 y_2 && ieq x_3 y_3) w := fun w => by
  unfold Op.maxDepth Op.equalIn
  rw [Sem.run_bind, Tryd.runUnderlying77]
  simp [a_st77, a_ep77_0, eq_int (d := 9998) Tryd.runUnderlying3, a_ep77_1, eq_int (d := 9998) Tryd.runUnderlying3, a_ep77_2, eq63_9999]
  generalize ieq x_0 y_0 = b0
  generalize ieq x_1 y_1 = b1
  generalize ieq x_2 y_2 = b2
  generalize ieq x_3 y_3 = b3
  cases b0 <;> cases b1 <;> cases b2 <;> cases b3 <;> simp
theorem bs64_0  : ∀ w, (Instr.buildSlice 64 0 #[]).run Tryd.prog w = .ok (.slice (some ⟨w.heap.size, 0, none⟩) 0 0) (w.alloc (CB [] 77)) := fun w => by kernel_rfl
theorem neqA63 {x y : Operand} {x_0 : Int} {x_1 : Int} {y_0 : Int} {y_1 : Int} : ∀ w, ((do eqGuard .neq 63 x y (.agg #[.int .i64 x_0, .int .i64 x_1]) (.agg #[.int .i64 y_0, .int .i64 y_1]); binOp .neq 63 (.agg #[.int .i64 x_0, .int .i64 x_1]) (.agg #[.int .i64 y_0, .int .i64 y_1])) : Sem Value).run Tryd.prog w = .ok (.bool (!(ieq x_0 y_0 && ieq x_1 y_1))) w := eq_topN a_gneqA63 eq63
theorem neqA77 {x y : Operand} {x_0 : Int} {x_1 : Int} {x_2 : Int} {x_3 : Int} {y_0 : Int} {y_1 : Int} {y_2 : Int} {y_3 : Int} : ∀ w, ((do eqGuard .neq 77 x y (.agg #[.int .i64 x_0, .int .i64 x_1, .int .i64 x_2, .int .i64 x_3]) (.agg #[.int .i64 y_0, .int .i64 y_1, .int .i64 y_2, .int .i64 y_3]); binOp .neq 77 (.agg #[.int .i64 x_0, .int .i64 x_1, .int .i64 x_2, .int .i64 x_3]) (.agg #[.int .i64 y_0, .int .i64 y_1, .int .i64 y_2, .int .i64 y_3])) : Sem Value).run Tryd.prog w = .ok (.bool (!(ieq x_0 y_0 && ieq x_1 y_1 && ieq x_2 y_2 && ieq x_3 y_3))) w := eq_topN a_gneqA77 eq77

theorem en_len (x : En) : x.cells.length = 4 := rfl
theorem infEntry : (Tryd.prog.info? 77).map (fun i => (i.zero, i.size, i.bytes)) = some (some (.agg #[.int .i64 0, .int .i64 0, .int .i64 0, .int .i64 0]), 4, 32) := by kernel_rfl

theorem great_any (l : Lg) (a : Option Addr) (cap : Nat) (ae : Option Addr) (cape : Nat) (w : World) :
    Ct Tryd.prog 30 #[.agg #[.slice a l.tk.n cap, .int .i64 l.tk.leak, .int .i64 l.tk.foot, .int .i64 l.start.lo, .int .i64 l.start.hi, .slice ae l.es.length cape]] w fun v _ => v = .bool (decide ((l.tk.n : Int) > 40) || decide ((l.es.length : Int) > 24)) := by
  have hF := wide_wide
  refine Ct_start (args := [_]) Tryd.func30 (by rfl) Tryd.ntmps30 (by rfl) ?_
  refine W_seq ?_
  refine W_region_lit (fun ds => ?_)
  refine WS_new hF (by rfl) (y_box (by rfl)) (fun b1 => ?_)
  refine WS_det hF (by rfl) (y_assign (c := .bool _) (by rfl)) ?_
  refine WS_nil ?_
  refine Then_normal ?_
  refine W_seq ?_
  refine W_region_lit (fun ds => ?_)
  refine WS_det hF (by rfl) (y_fieldAddr (by rfl) fa66_0) ?_
  refine WS_det hF (by rfl) (y_loadN (by rfl) Tryd.isAgg61 Tryd.sizeOf61 (Mem.own (us := [.slice _ _ _, .int .i64 _, .int .i64 _]) 0 (by rfl) (by rfl)) (by rfl)) ?_
  refine WS_det hF (by rfl) (y_callL (by rfl) (by rfl) Tryd.call75 (fun w hw => greatTank_any l.tk a cap w)) ?_
  refine WS_det hF (by rfl) (y_move (c := .bool _) (by rfl)) ?_
  refine WS_split 6 (by rfl) (fun g1_3 => ?_) (fun g1_3 => ?_)
  ·
    try simp only [Bool.not_eq_true', Bool.not_eq_false', decide_eq_true_eq, decide_eq_false_iff_not, ne_eq, Classical.not_not, Int.not_lt, Int.not_le] at g1_3
    refine WS_no hF (by rfl) ?_
    refine WS_no hF (by rfl) ?_
    refine WS_no hF (by rfl) ?_
    refine WS_no hF (by rfl) ?_
    refine WS_det hF (by rfl) (by first | exact y_pick_t (c := .bool _) (by rfl) (by rfl) | exact y_pick_f (c := .bool _) (by rfl) (by rfl)) ?_
    refine WS_det hF (by rfl) (y_assign (c := .bool _) (by rfl)) ?_
    refine WS_nil ?_
    refine Then_normal ?_
    refine W_ret ?_
    refine Fin_ret [.bool _] [] Tryd.results30 ⟨by rfl, trivial⟩ HSub.nil ?_
    show Value.bool _ = _
    simp [*] <;> omega
  ·
    try simp only [Bool.not_eq_true', Bool.not_eq_false', decide_eq_true_eq, decide_eq_false_iff_not, ne_eq, Classical.not_not, Int.not_lt, Int.not_le] at g1_3
    refine WS_det hF (by rfl) (y_fieldAddr (by rfl) fa66_2) ?_
    refine WS_det hF (by rfl) (y_load1 (by rfl) Tryd.isAgg64 (Mem.own1 0 (by rfl) (by rfl))) ?_
    refine WS_det hF (by rfl) (y_len (by rfl) Tryd.runUnderlying64) ?_
    refine WS_det hF (by rfl) (y_gtr (by rfl) (by rfl)) ?_
    refine WS_det hF (by rfl) (by first | exact y_pick_t (c := .bool _) (by rfl) (by rfl) | exact y_pick_f (c := .bool _) (by rfl) (by rfl)) ?_
    refine WS_det hF (by rfl) (y_assign (c := .bool _) (by rfl)) ?_
    refine WS_nil ?_
    refine Then_normal ?_
    refine W_ret ?_
    refine Fin_ret [.bool _] [] Tryd.results30 ⟨by rfl, trivial⟩ HSub.nil ?_
    show Value.bool _ = _
    simp [*] <;> omega
/-- A log in new memory. -/
def TwinL (l : Lg) (v : Value) (Hn : List Blk) : Prop :=
  ∃ a cap ae cape H1 H2, v = .agg #[.slice a l.tk.n cap, .int .i64 l.tk.leak, .int .i64 l.tk.foot, .int .i64 l.start.lo, .int .i64 l.start.hi, .slice ae l.es.length cape] ∧ NewRow 3 1 l.tk.n (iv l.tk.pints) (.slice a l.tk.n cap) H1 ∧ NewRow 77 4 l.es.length (rowOf En.cells l.e l.es.length) (.slice ae l.es.length cape) H2 ∧ Hn = H1 ++ H2
theorem twin_any (l : Lg) (a : Option Addr) (cap : Nat) (ae : Option Addr) (cape : Nat) (w : World) (hnes : l.es.length ≤ 1000000) (hn : l.tk.n ≤ 1000000) (hx : Ints w a l.tk.n cap l.tk.pints) (he : Ens w ae l.es.length cape l.es) : Ct Tryd.prog 31 #[.agg #[.slice a l.tk.n cap, .int .i64 l.tk.leak, .int .i64 l.tk.foot, .int .i64 l.start.lo, .int .i64 l.start.hi, .slice ae l.es.length cape]] w (TwinL l) := by
  have hlen : (rowOf En.cells l.e l.es.length).length = l.es.length * 4 := rowOf_len en_len _ _
  have hF := wide_wide
  refine Ct_start (args := [_]) Tryd.func31 (by rfl) Tryd.ntmps31 (by rfl) ?_
  refine W_seq ?_
  refine W_region_lit (fun ds => ?_)
  refine WS_new hF (by rfl) (y_box (by rfl)) (fun b1 => ?_)
  refine WS_new hF (by rfl) (y_alloc Tryd.zeroValue66 (by rfl)) (fun b2 => ?_)
  refine WS_nil ?_
  refine Then_normal ?_
  refine W_seq ?_
  apply W_draw1D hF Trydmixed [1000000] 12 _ (i := 0) (by rfl) (by decide +kernel)
  intro ds
  refine P_det (by rfl) (Over_out (by rfl) (Over_nil (y_fieldAddr (by rfl) fa66_0))) ?_
  refine P_det (by rfl) (Over_out (by rfl) (Over_nil (y_loadN (by rfl) Tryd.isAgg61 Tryd.sizeOf61 (Mem.own (us := [.slice _ _ _, .int .i64 _, .int .i64 _]) 0 (by rfl) (by rfl)) (by rfl)))) ?_
  refine P_new (by rfl) (by rfl) (Over_out (by rfl) (Over_nil (y_callL (by rfl) (by rfl) Tryd.call76 (fun w hw => twinTank_any l.tk a cap w hn (hx.st w hw))))) ?_
  refine P_det (by rfl) (Over_out (by rfl) (Over_out (by rfl) (Over_nil (y_fieldAddr (by rfl) fa66_1)))) ?_
  refine P_det (by rfl) (Over_out (by rfl) (Over_out (by rfl) (Over_nil (y_loadN (by rfl) Tryd.isAgg63 Tryd.sizeOf63 (Mem.own (us := [.int .i64 _, .int .i64 _]) 0 (by rfl) (by rfl)) (by rfl))))) ?_
  refine P_new (by rfl) (by rfl) (Over_out (by rfl) (Over_out (by rfl) (Over_nil (y_buildSliceL bs64_0 (by rfl))))) ?_
  refine P_det (by rfl) (Over_out (by rfl) (Over_out (by rfl) (Over_out (by rfl) (Over_nil (y_fieldAddr (by rfl) fa66_2))))) ?_
  refine P_det (by rfl) (Over_out (by rfl) (Over_out (by rfl) (Over_out (by rfl) (Over_nil (y_load1 (by rfl) Tryd.isAgg64 (Mem.own1 0 (by rfl) (by rfl))))))) ?_
  refine P_new (by rfl) (by rfl) (Over_in (by rfl) (Over_out (by rfl) (Over_out (by rfl) (Over_nil (by rintro _ _ ⟨b5, rfl, rfl⟩; exact (y_append0 (by rfl) (by rfl) Tryd.underlying64 infEntry (by rfl) (Rws.src en_len he) hlen (by omega) (by omega))))))) ?_
  refine P_ali [11, 5] (aggC [.inr 5, .inl _, .inl _, .inr 11]) (by rfl) (by rfl) (by rfl) (aggC_congr (by rfl)) (Over_in (by rfl) (Over_out (by rfl) (Over_in (by rfl) (Over_out (by rfl) (Over_nil (by intro vb7 l5 hb7; obtain ⟨at1, capt1, rfl, hrt1⟩ := hb7; rintro _ l11 ⟨ab8, cb8, rfl, hleb8, hrowb8⟩; exact (YD0_of (y_buildL bd66_0_1_2 (by rfl))))))))) ?_
  refine P_st 1000000 4 (by rfl) (by rfl) (by rfl) (by rfl) (by rfl) (Over_in (by rfl) (Over_in (by rfl) (Over_out (by rfl) (Over_in (by rfl) (Over_nil (by intro vb10 l5 hb10; obtain ⟨at1, capt1, rfl, hrt1⟩ := hb10; rintro _ l11 ⟨ab11, cb11, rfl, hleb11, hrowb11⟩; rintro vb12 _ ⟨hvb12, rfl⟩; replace hvb12 : vb12 = .agg #[.slice _ _ _, .int .i64 _, .int .i64 _, .int .i64 _, .int .i64 _, .slice _ _ _] := hvb12; subst hvb12; exact (st_preD (fun _ => by rfl) (by rfl) (by rfl) Tryd.sizeOf66 (by rfl) (by rfl) (by first | decide | exact Nat.le_of_ble_eq_true rfl | simp)))))))) ?_
  refine PW_end (by rfl) ?_
  refine OverAll_cons (fun w12 l12 => ?_)
  refine OverAll_cons (fun w11 l11 => ?_)
  refine OverAll_cons (fun w8 l8 => ?_)
  refine OverAll_cons (fun w5 l5 => ?_)
  refine OverAll_cons (fun w1000000 l1000000 => ?_)
  refine OverAll_nil ?_
  rintro ⟨⟨⟨⟨⟨-, h12⟩, h11⟩, h8⟩, h5⟩, h1000000⟩
  obtain ⟨at1, capt1, rfl, hrt1⟩ := h5
  obtain ⟨b4, rfl, rfl⟩ := h8
  obtain ⟨ab6, cb6, rfl, hleb6, hrowb6⟩ := h11
  obtain ⟨h12, rfl⟩ := h12
  replace h12 : w12 = .agg #[.slice _ _ _, .int .i64 _, .int .i64 _, .int .i64 _, .int .i64 _, .slice _ _ _] := h12
  subst h12
  obtain rfl := h1000000
  refine Then_normal ?_
  refine W_ret ?_
  refine Fin_ret [_] (l5 ++ l11) Tryd.results31 ⟨lvN (by rfl) Tryd.isAgg66 Tryd.sizeOf66 (Mem.own (us := [.slice _ _ _, .int .i64 _, .int .i64 _, .int .i64 _, .int .i64 _, .slice _ _ _]) 0 (by rfl) (by rfl)) (by rfl), trivial⟩ (HSub.sub (by refine List.Sublist.cons _ ?_; show List.Sublist (l5 ++ l11) (l5 ++ (_ :: (l11 ++ _))); exact List.Sublist.append_left (List.Sublist.cons _ (List.sublist_append_left _ _)) _)) ?_
  exact ⟨at1, capt1, _, _, l5, l11, rfl, hrt1, ⟨_, _, rfl, by assumption, by assumption⟩, rfl⟩
theorem same_any (l : Lg) (a : Option Addr) (cap : Nat) (ae : Option Addr) (cape : Nat) (a' : Option Addr) (cap' : Nat) (ae' : Option Addr) (cape' : Nat) (w : World) (hnes : l.es.length ≤ 1000000) (hn : l.tk.n ≤ 1000000) (hx : Ints w a l.tk.n cap l.tk.pints) (he : Ens w ae l.es.length cape l.es) (hx' : Ints w a' l.tk.n cap' l.tk.pints) (he' : Ens w ae' l.es.length cape' l.es) :
    Ct Tryd.prog 36 #[.agg #[.slice a' l.tk.n cap', .int .i64 l.tk.leak, .int .i64 l.tk.foot, .int .i64 l.start.lo, .int .i64 l.start.hi, .slice ae' l.es.length cape'], .agg #[.slice a l.tk.n cap, .int .i64 l.tk.leak, .int .i64 l.tk.foot, .int .i64 l.start.lo, .int .i64 l.start.hi, .slice ae l.es.length cape]] w fun v _ => v = .bool true := by
  have hF := wide_wide
  refine Ct_start (args := [_, _]) Tryd.func36 (by rfl) Tryd.ntmps36 (by rfl) ?_
  refine W_seq ?_
  refine W_region_lit (fun ds => ?_)
  refine WS_new hF (by rfl) (y_box (by rfl)) (fun b1 => ?_)
  refine WS_new hF (by rfl) (y_box (by rfl)) (fun b2 => ?_)
  refine WS_det hF (by rfl) (y_assign (c := .bool _) (by rfl)) ?_
  refine WS_nil ?_
  refine Then_normal ?_
  refine W_seq ?_
  refine W_seq ?_
  refine W_region_lit (fun ds => ?_)
  refine WS_det hF (by rfl) (y_fieldAddr (by rfl) fa66_0) ?_
  refine WS_det hF (by rfl) (y_fieldAddr (by rfl) fa61_0) ?_
  refine WS_det hF (by rfl) (y_load1 (by rfl) Tryd.isAgg22 (Mem.own1 1 (by rfl) (by rfl))) ?_
  refine WS_det hF (by rfl) (y_fieldAddr (by rfl) fa66_0) ?_
  refine WS_det hF (by rfl) (y_fieldAddr (by rfl) fa61_0) ?_
  refine WS_det hF (by rfl) (y_load1 (by rfl) Tryd.isAgg22 (Mem.own1 0 (by rfl) (by rfl))) ?_
  refine WS_det hF (by rfl) (y_callL (by rfl) (by rfl) Tryd.call85 (fun w hw => Ct_eq (c' := .bool true) (sameInts_any a' a l.tk.n l.tk.n cap' cap l.tk.pints l.tk.pints w hn (hx'.st w hw) (hx.st w hw)) (by simp))) ?_
  refine WS_det hF (by rfl) (y_not (by rfl)) ?_
  refine WS_det hF (by rfl) (y_move (c := .bool _) (by rfl)) ?_
  refine WS_det hF (by rfl) (y_fieldAddr (by rfl) fa66_0) ?_
  refine WS_det hF (by rfl) (y_fieldAddr (by rfl) fa61_1) ?_
  refine WS_det hF (by rfl) (y_load1 (by rfl) Tryd.isAgg3 (Mem.own1 1 (by rfl) (by rfl))) ?_
  refine WS_det hF (by rfl) (y_fieldAddr (by rfl) fa66_0) ?_
  refine WS_det hF (by rfl) (y_fieldAddr (by rfl) fa61_1) ?_
  refine WS_det hF (by rfl) (y_load1 (by rfl) Tryd.isAgg3 (Mem.own1 0 (by rfl) (by rfl))) ?_
  refine WS_det hF (by rfl) (y_neqF (by rfl) (by rfl)) ?_
  refine WS_det hF (by rfl) (by first | exact y_pick_t (c := .bool _) (by rfl) (by rfl) | exact y_pick_f (c := .bool _) (by rfl) (by rfl)) ?_
  refine WS_det hF (by rfl) (y_move (c := .bool _) (by rfl)) ?_
  refine WS_det hF (by rfl) (y_fieldAddr (by rfl) fa66_0) ?_
  refine WS_det hF (by rfl) (y_fieldAddr (by rfl) fa61_2) ?_
  refine WS_det hF (by rfl) (y_load1 (by rfl) Tryd.isAgg3 (Mem.own1 1 (by rfl) (by rfl))) ?_
  refine WS_det hF (by rfl) (y_fieldAddr (by rfl) fa66_0) ?_
  refine WS_det hF (by rfl) (y_fieldAddr (by rfl) fa61_2) ?_
  refine WS_det hF (by rfl) (y_load1 (by rfl) Tryd.isAgg3 (Mem.own1 0 (by rfl) (by rfl))) ?_
  refine WS_det hF (by rfl) (y_neqF (by rfl) (by rfl)) ?_
  refine WS_det hF (by rfl) (by first | exact y_pick_t (c := .bool _) (by rfl) (by rfl) | exact y_pick_f (c := .bool _) (by rfl) (by rfl)) ?_
  refine WS_det hF (by rfl) (y_move (c := .bool _) (by rfl)) ?_
  refine WS_det hF (by rfl) (y_fieldAddr (by rfl) fa66_1) ?_
  refine WS_det hF (by rfl) (y_loadN (by rfl) Tryd.isAgg63 Tryd.sizeOf63 (Mem.own (us := [.int .i64 _, .int .i64 _]) 1 (by rfl) (by rfl)) (by rfl)) ?_
  refine WS_det hF (by rfl) (y_fieldAddr (by rfl) fa66_1) ?_
  refine WS_det hF (by rfl) (y_loadN (by rfl) Tryd.isAgg63 Tryd.sizeOf63 (Mem.own (us := [.int .i64 _, .int .i64 _]) 0 (by rfl) (by rfl)) (by rfl)) ?_
  refine WS_det hF (by rfl) (y_neqlAF (by rfl) (by rfl) neqA63 (by simp only [ieq_self, Bool.and_self, Bool.not_true])) ?_
  refine WS_det hF (by rfl) (by first | exact y_pick_t (c := .bool _) (by rfl) (by rfl) | exact y_pick_f (c := .bool _) (by rfl) (by rfl)) ?_
  refine WS_det hF (by rfl) (y_move (c := .bool _) (by rfl)) ?_
  refine WS_det hF (by rfl) (y_fieldAddr (by rfl) fa66_2) ?_
  refine WS_det hF (by rfl) (y_load1 (by rfl) Tryd.isAgg64 (Mem.own1 1 (by rfl) (by rfl))) ?_
  refine WS_det hF (by rfl) (y_len (by rfl) Tryd.runUnderlying64) ?_
  refine WS_det hF (by rfl) (y_fieldAddr (by rfl) fa66_2) ?_
  refine WS_det hF (by rfl) (y_load1 (by rfl) Tryd.isAgg64 (Mem.own1 0 (by rfl) (by rfl))) ?_
  refine WS_det hF (by rfl) (y_len (by rfl) Tryd.runUnderlying64) ?_
  refine WS_det hF (by rfl) (y_neqF (by rfl) (by rfl)) ?_
  refine WS_det hF (by rfl) (by first | exact y_pick_t (c := .bool _) (by rfl) (by rfl) | exact y_pick_f (c := .bool _) (by rfl) (by rfl)) ?_
  refine WS_nil ?_
  refine Then_normal ?_
  refine W_cond (by rfl) (fun c1 => ?_) (fun c1 => ?_)
  · cases c1
  ·
    try simp only [Bool.not_eq_true', Bool.not_eq_false', decide_eq_true_eq, decide_eq_false_iff_not, ne_eq, Classical.not_not, Int.not_lt, Int.not_le] at c1
    refine W_skip ?_
    refine Then_normal ?_
    refine W_seq ?_
    refine W_seq ?_
    refine W_region_lit (fun ds => ?_)
    refine WS_det hF (by rfl) (y_assign (c := .int .i64 _) (by rfl)) ?_
    refine WS_nil ?_
    refine Then_normal ?_
    refine W_block ?_
    refine W_loop (γ := Nat) (fun k => k ≤ l.es.length) (fun k => [(2, .pointer (some ⟨b1, 0, none⟩)), (3, .pointer (some ⟨b2, 0, none⟩)), (5, .int .i64 (k : Int))]) (fun _ => _) (fun k => l.es.length - k) (0) (Nat.zero_le _) (by repeat (first | exact trivial | refine ⟨by rfl, ?_⟩)) (List.Sublist.refl _) ?_
    intro k e hk
    refine W_seq ?_
    refine W_seq ?_
    refine W_region_lit (fun ds => ?_)
    refine WS_det hF (by rfl) (y_move (c := .int .i64 _) (by rfl)) ?_
    refine WS_det hF (by rfl) (y_fieldAddr (by rfl) fa66_2) ?_
    refine WS_det hF (by rfl) (y_load1 (by rfl) Tryd.isAgg64 (Mem.own1 1 (by rfl) (by rfl))) ?_
    refine WS_det hF (by rfl) (y_len (by rfl) Tryd.runUnderlying64) ?_
    refine WS_det hF (by rfl) (y_lss (by rfl) (by rfl)) ?_
    refine WS_nil ?_
    refine Then_normal ?_
    refine W_cond (by rfl) (fun c4 => ?_) (fun c4 => ?_)
    ·
      try simp only [Bool.not_eq_true', Bool.not_eq_false', decide_eq_true_eq, decide_eq_false_iff_not, ne_eq, Classical.not_not, Int.not_lt, Int.not_le] at c4
      obtain ⟨b, o, rfl, hc⟩ := he.cell k (by omega)
      change At w b _ (l.e k).cells at hc
      obtain ⟨bz, oz, rfl, hcz⟩ := he'.cell k (by omega)
      change At w bz _ (l.e k).cells at hcz
      refine W_skip ?_
      refine Then_normal ?_
      refine W_seq ?_
      refine W_block ?_
      refine W_seq ?_
      refine W_draw0 hF Trydmixed [] (by decide +kernel) (fun ds => ?_)
      refine P_det (by rfl) (Over_nil (y_fieldAddr (by rfl) fa66_2)) ?_
      refine P_det (by rfl) (Over_nil (y_load1 (by rfl) Tryd.isAgg64 (Mem.own1 1 (by rfl) (by rfl)))) ?_
      refine P_det (by rfl) (Over_nil (y_move (c := .int .i64 _) (by rfl))) ?_
      refine P_det (by rfl) (Over_nil (y_index (k := k) (by rfl) (by rfl) (by first | rfl | omega) (by first | decide | omega) Tryd.runUnderlying64 Tryd.sizeOf77)) ?_
      refine P_det (by rfl) (Over_nil (y_loadN (by rfl) Tryd.isAgg77 Tryd.sizeOf77 (by first | exact Mem.old (by assumption) | exact Mem.oldAt (us := [.int .i64 _, .int .i64 _, .int .i64 _, .int .i64 _]) (by assumption) (by rfl) | exact Mem.oldAtL (us := [.int .i64 _, .int .i64 _, .int .i64 _, .int .i64 _]) (by assumption) (by rfl) (by rfl)) (by rfl))) ?_
      refine P_det (by rfl) (Over_nil (y_fieldAddr (by rfl) fa66_2)) ?_
      refine P_det (by rfl) (Over_nil (y_load1 (by rfl) Tryd.isAgg64 (Mem.own1 0 (by rfl) (by rfl)))) ?_
      refine P_det (by rfl) (Over_nil (y_move (c := .int .i64 _) (by rfl))) ?_
      refine P_det (by rfl) (Over_nil (y_index (k := k) (by rfl) (by rfl) (by first | rfl | omega) (by first | decide | omega) Tryd.runUnderlying64 Tryd.sizeOf77)) ?_
      refine P_det (by rfl) (Over_nil (y_loadN (by rfl) Tryd.isAgg77 Tryd.sizeOf77 (by first | exact Mem.old (by assumption) | exact Mem.oldAt (us := [.int .i64 _, .int .i64 _, .int .i64 _, .int .i64 _]) (by assumption) (by rfl) | exact Mem.oldAtL (us := [.int .i64 _, .int .i64 _, .int .i64 _, .int .i64 _]) (by assumption) (by rfl) (by rfl)) (by rfl))) ?_
      refine P_det (by rfl) (Over_nil (y_neqlAF (by rfl) (by rfl) neqA77 (by simp only [ieq_self, Bool.and_self, Bool.not_true]))) ?_
      refine PW_end (by rfl) ?_
      refine OverAll_nil ?_
      rintro -
      refine Then_normal ?_
      refine W_cond (by rfl) (fun c6 => ?_) (fun c6 => ?_)
      · cases c6
      ·
        try simp only [Bool.not_eq_true', Bool.not_eq_false', decide_eq_true_eq, decide_eq_false_iff_not, ne_eq, Classical.not_not, Int.not_lt, Int.not_le] at c6
        refine W_skip ?_
        refine InB_normal ?_
        refine Then_normal ?_
        refine W_region_lit (fun ds => ?_)
        refine WS_det hF (by rfl) (y_move (c := .int .i64 _) (by rfl)) ?_
        refine WS_det hF (by rfl) (y_add (by rfl) (by rfl) (by unfold I64; omega)) ?_
        refine WS_det hF (by rfl) (y_assign (c := .int .i64 _) (by rfl)) ?_
        refine WS_nil ?_
        exact Loop_next (k + 1) (by omega) (by repeat (first | exact trivial | refine ⟨by rfl, ?_⟩)) (by repeat (first | exact List.Sublist.refl _ | exact List.nil_sublist _ | apply List.Sublist.cons_cons | apply List.Sublist.cons)) (by omega)
    ·
      try simp only [Bool.not_eq_true', Bool.not_eq_false', decide_eq_true_eq, decide_eq_false_iff_not, ne_eq, Classical.not_not, Int.not_lt, Int.not_le] at c4
      refine W_exit ?_
      refine Then_exit ?_
      refine Loop_exit ?_
      refine InB_same ?_
      refine Then_normal ?_
      refine W_seq ?_
      refine W_region_lit (fun ds => ?_)
      refine WS_det hF (by rfl) (y_assign (c := .bool _) (by rfl)) ?_
      refine WS_nil ?_
      refine Then_normal ?_
      refine W_ret ?_
      refine Fin_ret [.bool _] [] Tryd.results36 ⟨by rfl, trivial⟩ HSub.nil ?_
      rfl
end Go.Proofs.YtjekjehgmljbgaaDoor.T

/- The law of asks, walked. -/
namespace Go.Proofs.YtjekjehgmljbgaaDoor.T
open Go.RowKit Go.Proofs Go.Eng
set_option maxRecDepth 100000
set_option maxHeartbeats 1000000
set_option linter.unusedVariables false
set_option linter.unusedSimpArgs false



end Go.Proofs.YtjekjehgmljbgaaDoor.T

/- What the tank holds, the first truth, what was moved, what leaks behind a time: the walks. -/
namespace Go.Proofs.YtjekjehgmljbgaaDoor.T
open Go.RowKit Go.Proofs Go.Eng
set_option maxRecDepth 100000
set_option maxHeartbeats 1000000
set_option linter.unusedVariables false
set_option linter.unusedSimpArgs false



def Lg.holdsV (l : Lg) (i : Int) : Value :=
  if l.aerr = 0 then if inB 0 l.es.length [i] then .tuple #[.agg (l.at i.toNat).cells.toArray, .int .i64 0] else .tuple #[.agg Sn.z.cells.toArray, .int .i64 2] else .tuple #[.agg Sn.z.cells.toArray, .int .i64 l.aerr]
def Lg.moved (l : Lg) (k : Nat) : Sn := if (l.e k).kind = 2 then (l.e k).size.met ((l.before k (l.hold k)).sub (l.aft (k + 1))) else (l.e k).size.met ((l.aft (k + 1)).sub (l.before k (l.hold k)))
def Lg.movedV (l : Lg) (i : Int) : Value :=
  if l.aerr = 0 then if inB 1 l.es.length [i] && !decide ((l.e (i - 1).toNat).kind = 3) then .tuple #[.agg (l.moved (i - 1).toNat).cells.toArray, .int .i64 0] else .tuple #[.agg Sn.z.cells.toArray, .int .i64 2] else .tuple #[.agg Sn.z.cells.toArray, .int .i64 l.aerr]
def Lg.lostV (l : Lg) (i : Int) : Value :=
  if l.aerr = 0 then if inB 1 ((l.es.length : Int) - 1) [i] then .tuple #[.agg ((Sn.met ⟨0, l.drip i.toNat⟩ ((l.hold i.toNat).sub (l.ahd i.toNat)))).cells.toArray, .int .i64 0] else .tuple #[.agg Sn.z.cells.toArray, .int .i64 2] else .tuple #[.agg Sn.z.cells.toArray, .int .i64 l.aerr]
def Lg.tr (l : Lg) : Nat → Int
  | 0 => (l.at 0).lo
  | k + 1 => max (l.after k ⟨l.tr k, l.tr k⟩).lo (l.aft (k + 1)).lo
def iEnc (x : Int) : List Value := [.int .i64 x]
theorem ii_len (x : Int) : (iEnc x).length = 1 := rfl
abbrev iRow (f : Nat → Int) (n : Nat) : List Value := rowOf iEnc f n
def TruthV (l : Lg) (v : Value) (Hn : List Blk) : Prop :=
  (l.aerr ≠ 0 → v = .tuple #[.slice none 0 0, .int .i64 l.aerr] ∧ Hn = []) ∧ (l.aerr = 0 → ∃ tb cap junk, v = .tuple #[.slice (some ⟨tb, 0, none⟩) (l.es.length + 1) cap, .int .i64 0] ∧ l.es.length + 1 ≤ cap ∧ Hn = [(tb, CB (iRow l.tr (l.es.length + 1) ++ junk) 3)])
end Go.Proofs.YtjekjehgmljbgaaDoor.T

/- bits.Mul of one and a number, slices.Repeat of one number, slices.Max: the walks. -/
namespace Go.Proofs.YtjekjehgmljbgaaDoor.T
open Go.RowKit Go.Proofs Go.Eng
set_option maxRecDepth 100000
set_option maxHeartbeats 1000000
set_option linter.unusedVariables false
set_option linter.unusedSimpArgs false



def maxN (f : Nat → Int) : Nat → Int
  | 0 => f 0
  | k + 1 => max (maxN f k) (f k)
theorem At.iRow {w : World} {b : Nat} {f : Nat → Int} {n k o : Nat} (h : At w b 0 (iRow f n)) (hk : k < n) (ho : o = k * 1) : At w b o [.int .i64 (f k)] := At.rowOf (enc := iEnc) ii_len h hk ho
def fillF (v0 : Int) (f i : Nat) : Int := if i < f then v0 else 0
section
variable {C : Ctx} {e : Env} {H : List Blk} {d : Option Tmp} {ty : TypeId} {pos : String} {af : Array Edge} {g : Option (Nat × Bool)}
end
end Go.Proofs.YtjekjehgmljbgaaDoor.T

/- What leaks altogether: the closure that moves all sums. -/
namespace Go.Proofs.YtjekjehgmljbgaaDoor.T
open Go.RowKit Go.Proofs Go.Eng
set_option maxRecDepth 100000
set_option maxHeartbeats 1000000
set_option linter.unusedVariables false
set_option linter.unusedSimpArgs false



def never : Int := -1099511627776
def mxF (g : Nat → Int) (a : Nat) : Nat → Int
  | 0 => never
  | n + 1 => max (mxF g a n) (g (a + n))
def mvA (hi : Int) (t : Nat) : Nat := (max 0 ((t : Int) - hi)).toNat
def mvN (F : Nat) (lo hi : Int) (t : Nat) : Nat := (min (F : Int) ((t : Int) - lo) - max 0 ((t : Int) - hi) + 1).toNat
def mvG (wo : Int) (best : Nat → Int) (t : Nat) (v : Nat) : Int := best v + wo * ((v : Int) - (t : Int))
def mv (F : Nat) (lo hi wo : Int) (best : Nat → Int) (t : Nat) : Int := mxF (mvG wo best t) (mvA hi t) (mvN F lo hi t)
def nxF (F : Nat) (lo hi wo : Int) (best : Nat → Int) (t c j : Nat) : Int := if j < t then mv F lo hi wo best j else if j = t then mxF (mvG wo best t) (mvA hi t) c else never
end Go.Proofs.YtjekjehgmljbgaaDoor.T

/- What leaks altogether: the walks. -/
namespace Go.Proofs.YtjekjehgmljbgaaDoor.T
open Go.RowKit Go.Proofs Go.Eng
set_option maxRecDepth 100000
set_option maxHeartbeats 1000000
set_option linter.unusedVariables false
set_option linter.unusedSimpArgs false



theorem WS_sub {C : Ctx} {F : Fence} {n : Nat} {ds : List Deferred} {all : Array Oper} {Q : Exit → Env → List Blk → Prop} {rest : List Oper} {e : Env} {H H' : List Blk} (hs : HSub H H') (k : WS C F n ds all Q rest e H') : WS C F n ds all Q rest e H :=
  fun w hw a ha => k w ⟨hw.1, hs _ _ hw.2, hw.3⟩ a ha
def dipF (d : Sn) (best : Nat → Int) (v : Nat) : Int := if inB d.lo d.hi [(v : Int)] then best v else never
def Lg.best0 (l : Lg) (v : Nat) : Int := if l.start.lo ≤ (v : Int) ∧ (v : Int) ≤ l.start.hi then 0 else never
def Lg.bstep (l : Lg) (F : Nat) (sign : Int) (k : Nat) (best : Nat → Int) : Nat → Int :=
  if (l.e k).kind = 1 then mv F (l.e k).size.lo (l.e k).size.hi 0 (mv F (-l.drip k) 0 sign best)
  else if (l.e k).kind = 2 then mv F (-(l.e k).size.hi) (-(l.e k).size.lo) 0 (mv F (-l.drip k) 0 sign best)
  else dipF (l.tk.dip (l.e k).size) (mv F (-l.drip k) 0 sign best)
def Lg.bestK (l : Lg) (F : Nat) (sign : Int) : Nat → Nat → Int
  | 0 => l.best0
  | k + 1 => l.bstep F sign k (l.bestK F sign k)
def Lg.lostI (l : Lg) (sign : Int) : Int := maxN (l.bestK l.tk.full.toNat sign l.es.length) (l.tk.full.toNat + 1)
def stF (lo : Int) (c v : Nat) : Int := if lo ≤ (v : Int) ∧ (v : Int) < lo + (c : Int) then 0 else never
def dpF (d : Sn) (best : Nat → Int) (j v : Nat) : Int := if v < j then dipF d best v else best v

def Lg.leakedV (l : Lg) : Value := if l.aerr = 0 then .tuple #[.agg (Sn.cells ⟨-l.lostI (-1), l.lostI 1⟩).toArray, .int .i64 0] else .tuple #[.agg Sn.z.cells.toArray, .int .i64 l.aerr]
end Go.Proofs.YtjekjehgmljbgaaDoor.T

/- The reference: what the tank holds, the first truth, what was moved, what leaks behind a time: the walks. -/
namespace Go.Proofs.YtjekjehgmljbgaaDoor.T
open Go.RowKit Go.Proofs Go.Eng
set_option maxRecDepth 100000
set_option maxHeartbeats 1000000
set_option linter.unusedVariables false
set_option linter.unusedSimpArgs false



end Go.Proofs.YtjekjehgmljbgaaDoor.T

/- The reference: sums that leak, arrays of 601 spans: the walks of nothing, with and passed. -/
namespace Go.Proofs.YtjekjehgmljbgaaDoor.T
open Go.RowKit Go.Proofs Go.Eng
set_option maxRecDepth 100000
set_option maxHeartbeats 1000000
set_option linter.unusedVariables false
set_option linter.unusedSimpArgs false



def Sn.no : Sn := ⟨1, 0⟩
def noF (c j : Nat) : Sn := if j < c then Sn.no else Sn.z
def Sn.wth (s way : Sn) : Sn := if s.hi < s.lo then way else ⟨min s.lo way.lo, max s.hi way.hi⟩
def cw (cb : Bool) (x : Int) : Int := if cb = true then x else 0
def psN (S : Nat → Sn) (lo hi : Int) (v : Nat) : Nat := if (S v).hi < (S v).lo then 0 else (hi - lo + 1).toNat
def psI (S : Nat → Sn) (F : Nat) (cb : Bool) (lo : Int) (v c : Nat) (out : Nat → Sn) (t : Nat) : Sn :=
  if lo ≤ (t : Int) - (v : Int) ∧ (t : Int) - (v : Int) < lo + (c : Int) ∧ t ≤ F then (out t).wth ⟨(S v).lo - cw cb ((t : Int) - (v : Int)), (S v).hi - cw cb ((t : Int) - (v : Int))⟩ else out t
def psO (S : Nat → Sn) (F : Nat) (cb : Bool) (lo hi : Int) : Nat → Nat → Sn
  | 0 => fun _ => Sn.no
  | v + 1 => psI S F cb lo v (psN S lo hi v) (psO S F cb lo hi v)
end Go.Proofs.YtjekjehgmljbgaaDoor.T

/- The reference: sums that leak: what the arrays say of the least and the greatest sums; plain facts. -/
namespace Go.Proofs.YtjekjehgmljbgaaDoor.T
open Go.RowKit Go.Proofs Go.Eng
set_option maxRecDepth 100000
set_option maxHeartbeats 1000000
set_option linter.unusedVariables false
set_option linter.unusedSimpArgs false

theorem never_eq : never = -1099511627776 := rfl
/-- A span of sums, the greatest sum, and the least one turned round. -/
def Rep (M : Int) (s : Sn) (p m : Int) : Prop := (s = Sn.no ∧ p ≤ never + M ∧ m ≤ never + M) ∨ (0 ≤ s.lo ∧ s.lo ≤ s.hi ∧ s.hi ≤ M ∧ p = s.hi ∧ m = -s.lo)
theorem Rep.wth {M : Int} {a b : Sn} {p m q r : Int} (hM : M ≤ 1000000) (h : Rep M a p m) (h0 : 0 ≤ b.lo) (h1 : b.lo ≤ b.hi) (h2 : b.hi ≤ M) (hq : q = b.hi) (hr : r = -b.lo) : Rep M (a.wth b) (max p q) (max m r) := by
  have hn := never_eq
  subst hq hr
  refine .inr ?_
  unfold Sn.wth
  obtain ⟨rfl, hp, hm⟩ | ⟨g0, g1, g2, rfl, rfl⟩ := h
  · rw [if_pos (by decide)]; omega
  · rw [if_neg (by omega)]; refine ⟨?_, ?_, ?_, ?_, ?_⟩ <;> simp only <;> omega
theorem Rep.skip {M : Int} {a : Sn} {p m q r : Int} (hM : M ≤ 1000000) (h : Rep M a p m) (hq : q ≤ never + M) (hr : r ≤ never + M) : Rep M a (max p q) (max m r) := by
  have hn := never_eq
  obtain ⟨rfl, hp, hm⟩ | ⟨g0, g1, g2, rfl, rfl⟩ := h
  · exact .inl ⟨rfl, by omega, by omega⟩
  · exact .inr ⟨g0, g1, g2, by omega, by omega⟩
theorem Rep.mono {M N : Int} {a : Sn} {p m : Int} (h : Rep M a p m) (hMN : M ≤ N) : Rep N a p m := by
  obtain ⟨rfl, hp, hm⟩ | ⟨g0, g1, g2, g3, g4⟩ := h
  · exact .inl ⟨rfl, by omega, by omega⟩
  · exact .inr ⟨g0, g1, by omega, g3, g4⟩
theorem Rep.bd {M : Int} {a : Sn} {p m : Int} (h : Rep M a p m) (hM : 0 ≤ M ∧ M ≤ 1000000) : 0 ≤ a.lo ∧ a.lo ≤ 1000000 ∧ 0 ≤ a.hi ∧ a.hi ≤ 1000000 := by
  obtain ⟨rfl, hp, hm⟩ | ⟨g0, g1, g2, g3, g4⟩ := h
  · decide
  · omega
def wmx (g : Nat → Int) (a n : Nat) : Nat → Int
  | 0 => never
  | V + 1 => if a ≤ V ∧ V < a + n then max (wmx g a n V) (g V) else wmx g a n V
/-! ### The sums of a log, time by time -/
def stS (lo : Int) (c t : Nat) : Sn := if lo ≤ (t : Int) ∧ (t : Int) < lo + (c : Int) then Sn.z else Sn.no
def Lg.sum0 (l : Lg) (t : Nat) : Sn := if l.start.lo ≤ (t : Int) ∧ (t : Int) ≤ l.start.hi then Sn.z else Sn.no
def Lg.sum1 (l : Lg) (F k : Nat) (S : Nat → Sn) : Nat → Sn := if 0 < k then psO S F true (-(min (F : Int) (l.drip k))) 0 (F + 1) else S
def dpS (d : Sn) (S : Nat → Sn) (j t : Nat) : Sn := if t < j ∧ inB d.lo d.hi [(t : Int)] = false then Sn.no else S t
def Lg.sum2 (l : Lg) (F k : Nat) (S : Nat → Sn) : Nat → Sn :=
  if (l.e k).kind = 1 then psO S F false (l.e k).size.lo (l.e k).size.hi (F + 1)
  else if (l.e k).kind = 2 then psO S F false (-(l.e k).size.hi) (-(l.e k).size.lo) (F + 1)
  else dpS (l.tk.dip (l.e k).size) S (F + 1)
def Lg.sumK (l : Lg) (F : Nat) : Nat → Nat → Sn
  | 0 => l.sum0
  | k + 1 => l.sum2 F k (l.sum1 F k (l.sumK F k))
def outS (S : Nat → Sn) : Nat → Sn
  | 0 => Sn.no
  | V + 1 => if (S V).hi < (S V).lo then outS S V else (outS S V).wth (S V)
end Go.Proofs.YtjekjehgmljbgaaDoor.T

/- The reference: sums that leak: the walk. -/
namespace Go.Proofs.YtjekjehgmljbgaaDoor.T
open Go.RowKit Go.Proofs Go.Eng
set_option maxRecDepth 100000
set_option maxHeartbeats 800000
set_option linter.unusedVariables false
set_option linter.unusedSimpArgs false



end Go.Proofs.YtjekjehgmljbgaaDoor.T

/- A log without entries: the walk of without, and holds. -/
namespace Go.Proofs.YtjekjehgmljbgaaDoor.T
open Go.RowKit Go.Proofs Go.Eng
set_option maxRecDepth 100000
set_option maxHeartbeats 1000000
set_option linter.unusedVariables false
set_option linter.unusedSimpArgs false

theorem bs64_1_0 {x0_0 : Int} {x0_1 : Int} {x0_2 : Int} {x0_3 : Int} : ∀ w, (Instr.buildSlice 64 1 #[(0, .agg #[.int .i64 x0_0, .int .i64 x0_1, .int .i64 x0_2, .int .i64 x0_3])]).run Tryd.prog w = .ok (.slice (some ⟨w.heap.size, 0, none⟩) 1 1) (w.alloc (CB [.int .i64 x0_0, .int .i64 x0_1, .int .i64 x0_2, .int .i64 x0_3] 77)) := fun w => by kernel_rfl

def kpB (D : List Int) (i : Nat) : Bool := !(D.contains ((i : Int) + 1))
def kpK (D : List Int) (i : Nat) : List Nat := (List.range i).filter (kpB D)
/-- The log without the entries at some times. -/
def Lg.woK (l : Lg) (D : List Int) (i : Nat) : Lg := ⟨l.tk, l.start, (kpK D i).map l.e⟩
def Lg.wo (l : Lg) (D : List Int) : Lg := l.woK D l.es.length
def Lg.ent (l : Lg) (i : Nat) : Ent := ((i : Int) + 1, .agg (l.e i).cells.toArray, i)
theorem kpK_succ (D : List Int) (i : Nat) : kpK D (i + 1) = if kpB D i then kpK D i ++ [i] else kpK D i := by
  unfold kpK
  rw [List.range_succ, List.filter_append]
  by_cases h : kpB D i = true
  · rw [if_pos h]; simp [h]
  · rw [if_neg h]; simp [h]
theorem ent_key (l : Lg) (i : Nat) (k : Int) : hasK k (l.ent i) = decide ((i : Int) + 1 = k) := by
  unfold hasK Lg.ent
  simp only []
  by_cases h : (i : Int) + 1 = k <;> simp [h]
theorem find_ent (l : Lg) (p : Nat → Bool) (i : Nat) : ∀ m, (((List.range m).filter p).map l.ent).find? (hasK ((i : Int) + 1)) = if i < m ∧ p i = true then some (l.ent i) else none
  | 0 => by simp
  | m + 1 => by
    rw [List.range_succ, List.filter_append, List.map_append, List.find?_append, find_ent l p i m]
    by_cases h : i < m ∧ p i = true
    · rw [if_pos h, if_pos ⟨by omega, h.2⟩]; rfl
    · rw [if_neg h, Option.none_or]
      by_cases hp : p m = true
      · simp only [List.filter_cons, hp, if_true, List.filter_nil, List.map_cons, List.map_nil, List.find?_cons, ent_key]
        by_cases he : m = i
        · subst he
          simp [hp]
        · rw [if_neg (fun h2 => h ⟨by omega, h2.2⟩)]
          have : ¬ ((m : Int) + 1 = (i : Int) + 1) := by omega
          simp [this]
      · have hz : (List.filter p [m]).map l.ent = [] := by simp [hp]
        rw [hz, if_neg (fun h2 => by
          obtain ⟨h3, h4⟩ := h2
          by_cases he : m = i
          · subst he; exact hp h4
          · exact h ⟨by omega, h4⟩)]
        rfl
theorem erase_ent (l : Lg) (p : Nat → Bool) (t : Int) : ∀ m, (((List.range m).filter p).map l.ent).eraseP (hasK t) = ((List.range m).filter fun i => p i && !decide ((i : Int) + 1 = t)).map l.ent
  | 0 => by simp
  | m + 1 => by
    have ih := erase_ent l p t m
    rw [List.range_succ, List.filter_append, List.filter_append, List.map_append, List.map_append]
    by_cases hany : ∃ x ∈ ((List.range m).filter p).map l.ent, hasK t x = true
    · obtain ⟨x, hx, hk⟩ := hany
      rw [List.eraseP_append_left hk _ hx, ih]
      congr 1
      obtain ⟨i, hi, rfl⟩ := List.mem_map.1 hx
      rw [ent_key, decide_eq_true_eq] at hk
      have him : i < m := by simpa using (List.mem_filter.1 hi).1
      have hne : ¬ ((m : Int) + 1 = t) := by omega
      by_cases hp : p m = true <;> simp [hp, hne]
    · have hall : ∀ b ∈ ((List.range m).filter p).map l.ent, ¬ hasK t b = true := fun b hb hk => hany ⟨b, hb, hk⟩
      rw [List.eraseP_append_right _ (by simpa using hall)]
      rw [List.eraseP_of_forall_not (by simpa using hall)] at ih
      rw [← ih]
      congr 1
      by_cases hp : p m = true
      · simp only [List.filter_cons, hp, if_true, List.filter_nil, List.map_cons, List.map_nil, Bool.true_and]
        by_cases ht : (m : Int) + 1 = t
        · simp [ht, ent_key]
        · simp [ht, ent_key]
      · simp [hp]
theorem kpB_snoc (D : List Int) (d : Int) (i : Nat) : kpB (D ++ [d]) i = (kpB D i && !decide ((i : Int) + 1 = d)) := by
  unfold kpB
  rw [Bool.eq_iff_iff]
  simp
theorem take_snoc {D : List Int} {j : Nat} (h : j < D.length) : D.take (j + 1) = D.take j ++ [D.getD j 0] := by
  rw [List.take_succ_eq_append_getElem h]
  simp [List.getD_eq_getElem?_getD, h]
theorem erase_kp (l : Lg) (D : List Int) {j : Nat} (h : j < D.length) (m : Nat) : ((kpK (D.take j) m).map l.ent).eraseP (hasK (D.getD j 0)) = (kpK (D.take (j + 1)) m).map l.ent := by
  unfold kpK
  rw [erase_ent, take_snoc h]
  congr 1
  exact List.filter_congr fun i _ => (kpB_snoc _ _ _).symm
theorem Lg.woK_len (l : Lg) (D : List Int) (i : Nat) : (l.woK D i).es.length = (kpK D i).length := List.length_map _
theorem Lg.woK_e (l : Lg) (D : List Int) (i : Nat) : rowOf En.cells (l.woK D (i + 1)).e (l.woK D (i + 1)).es.length = if kpB D i then rowOf En.cells (l.woK D i).e (l.woK D i).es.length ++ (l.e i).cells else rowOf En.cells (l.woK D i).e (l.woK D i).es.length := by
  rw [l.woK_len, l.woK_len]
  by_cases h : kpB D i = true
  · rw [if_pos h, kpK_succ, if_pos h, List.length_append, List.length_singleton, rowOf_succ]
    have he : ∀ j, j < (kpK D i).length → (l.woK D (i + 1)).e j = (l.woK D i).e j := fun j hj => by
      unfold Lg.woK Lg.e
      simp only
      rw [kpK_succ, if_pos h, List.map_append]
      simp [List.getD_eq_getElem?_getD, List.getElem?_append_left, hj]
    rw [rowOf_congr _ he]
    congr 1
    unfold Lg.woK Lg.e
    simp only
    rw [kpK_succ, if_pos h, List.map_append]
    simp [List.getD_eq_getElem?_getD]
  · rw [if_neg h]
    unfold Lg.woK Lg.e
    simp only
    rw [kpK_succ, if_neg h]
theorem kpK_le (D : List Int) (i : Nat) : (kpK D i).length ≤ i := by
  have := List.length_filter_le (kpB D) (List.range i)
  rw [List.length_range] at this
  exact this
def WoV (l : Lg) (D : List Int) (g : Nat) (a : Option Addr) (cap : Nat) (v : Value) (Hn : List Blk) : Prop :=
  ∃ cb ae cape H2, v = .pointer (some ⟨cb, 0, none⟩) ∧ Hn = (cb, CB (bookCells g (l.wo D) a cap ae cape) 189) :: H2 ∧ Row 77 4 ae (l.wo D).es.length cape (rowOf En.cells (l.wo D).e (l.wo D).es.length) H2

theorem without_any (bk g : Nat) (l : Lg) (a : Option Addr) (cap : Nat) (ae : Option Addr) (cape : Nat) (ta : Option Addr) (tn tcap : Nat) (D : List Int) (w : World) (hok : l.Ok) (h1 : At w bk 0 (bookCells g l a cap ae cape)) (he : Ens w ae l.es.length cape l.es) (hD : Ints w ta tn tcap D) (htn : tn ≤ 1000000) :
    Ct Tryd.prog 119 #[.pointer (some ⟨bk, 0, none⟩), .slice ta tn tcap] w (WoV l D g a cap) := by
  have hn12 := hok.n12
  have hlenD := hD.len
  have hF := wide_wide
  refine Ct_start (args := [_, _]) Tryd.func119 (by rfl) Tryd.ntmps119 (by rfl) ?_
  refine W_seq ?_
  refine W_region_lit (fun ds => ?_)
  refine WS_det hF (by rfl) (y_assign (c := .pointer _) (by rfl)) ?_
  refine WS_nil ?_
  refine Then_normal ?_
  refine W_seq ?_
  refine W_region_lit (fun ds => ?_)
  refine WS_newM hF (by rfl) y_makeMap (fun mb => ?_)
  refine WS_det hF (by rfl) (y_assign (c := .map _) (by rfl)) ?_
  refine WS_nil ?_
  refine Then_normal ?_
  refine W_seq ?_
  refine W_seq ?_
  refine W_region_lit (fun ds => ?_)
  refine WS_det hF (by rfl) (y_move (c := .pointer _) (by rfl)) ?_
  refine WS_det hF (by rfl) (by first | exact y_nilCheck (by rfl) | exact y_nilCheckF (by rfl)) ?_
  refine WS_det hF (by rfl) (y_fieldAddr (by rfl) fa189_1) ?_
  refine WS_det hF (by rfl) (y_fieldAddr (by rfl) fa66_2) ?_
  refine WS_det hF (by rfl) (y_load1 (by rfl) Tryd.isAgg64 (by first | exact Mem.old1 (by assumption) | exact Mem.oldAt1 (by assumption) (by rfl) | exact Mem.old (by assumption) | exact Mem.oldAtL1 (by assumption) (by rfl) (by rfl))) ?_
  refine WS_det hF (by rfl) (y_len (by rfl) Tryd.runUnderlying64) ?_
  refine WS_det hF (by rfl) (y_move (c := .int .i64 _) (by rfl)) ?_
  refine WS_nil ?_
  refine Then_normal ?_
  refine W_block ?_
  refine W_loop (γ := Nat) (fun k => k ≤ l.es.length) (fun k => [(0, .pointer (some ⟨bk, 0, none⟩)), (1, .slice ta tn tcap), (5, .map (some mb)), (19, .slice ae l.es.length cape), (20, .int .i64 (l.es.length : Int)), (21, .int .i64 (k : Int))]) (fun k => [(mb, MO ((kpK [] k).map l.ent) k)]) (fun k => l.es.length - k) (0) (Nat.zero_le _) (by repeat (first | exact trivial | refine ⟨by rfl, ?_⟩)) (List.Sublist.refl _) ?_
  intro k e hk
  refine W_seq ?_
  refine W_region_lit (fun ds => ?_)
  refine WS_det hF (by rfl) (y_lss (by rfl) (by rfl)) ?_
  refine WS_nil ?_
  refine Then_normal ?_
  refine W_seq ?_
  refine W_cond (by rfl) (fun c3 => ?_) (fun c3 => ?_)
  ·
    try simp only [Bool.not_eq_true', Bool.not_eq_false', decide_eq_true_eq, decide_eq_false_iff_not, ne_eq, Classical.not_not, Int.not_lt, Int.not_le] at c3
    obtain ⟨b, o, rfl, hc⟩ := he.cell k (by omega)
    change At w b _ (l.e k).cells at hc
    have hmk : (kpK [] (k + 1)).map l.ent = (kpK [] k).map l.ent ++ [((k : Int) + 1, .agg (l.e k).cells.toArray, k)] := by rw [kpK_succ, if_pos (show kpB [] k = true from rfl), List.map_append]; rfl
    have hfind : ((kpK [] k).map l.ent).find? (hasK ((k : Int) + 1)) = none := by
      have := find_ent l (kpB []) k k
      rw [if_neg (by omega)] at this
      exact this
    refine W_skip ?_
    refine Then_normal ?_
    refine W_seq ?_
    refine W_block ?_
    refine W_seq ?_
    refine W_region_lit (fun ds => ?_)
    refine WS_det hF (by rfl) (y_move (c := .int .i64 _) (by rfl)) ?_
    refine WS_det hF (by rfl) (y_index (k := k) (by rfl) (by rfl) (by first | rfl | omega) (by first | decide | omega) Tryd.runUnderlying64 Tryd.sizeOf77) ?_
    refine WS_det hF (by rfl) (y_loadN (by rfl) Tryd.isAgg77 Tryd.sizeOf77 (by first | exact Mem.old (by assumption) | exact Mem.oldAt (us := [.int .i64 _, .int .i64 _, .int .i64 _, .int .i64 _]) (by assumption) (by rfl) | exact Mem.oldAtL (us := [.int .i64 _, .int .i64 _, .int .i64 _, .int .i64 _]) (by assumption) (by rfl) (by rfl)) (by rfl)) ?_
    refine WS_new hF (by rfl) (y_alloc Tryd.zeroValue77 (by rfl)) (fun b1 => ?_)
    refine WS_det hF (by rfl) (y_assign (c := .int .i64 _) (by rfl)) ?_
    refine WS_store hF (i := 0) (by rfl) (by rfl) Tryd.sizeOf77 (by rfl) (by rfl) (by rfl) (by first | decide | exact Nat.le_of_ble_eq_true rfl | simp) ?_
    refine WS_nil ?_
    refine Then_normal ?_
    refine W_region_lit (fun ds => ?_)
    refine WS_det hF (by rfl) (y_move (c := .map _) (by rfl)) ?_
    refine WS_det hF (by rfl) (y_move (c := .int .i64 _) (by rfl)) ?_
    refine WS_det hF (by rfl) (y_add (by rfl) (by rfl) (by unfold I64; omega)) ?_
    refine WS_det hF (by rfl) (y_loadN (by rfl) Tryd.isAgg77 Tryd.sizeOf77 (Mem.own (us := [.int .i64 _, .int .i64 _, .int .i64 _, .int .i64 _]) 0 (by rfl) (by rfl)) (by rfl)) ?_
    refine WS_mapUpd hF (i := 1) (by rfl) (by rfl) (by rfl) Tryd.underlying222 Tryd.underlying3 (by rfl) hfind ?_
    refine WS_nil ?_
    refine InB_normal ?_
    refine Then_normal ?_
    refine W_region_lit (fun ds => ?_)
    refine WS_det hF (by rfl) (y_add (by rfl) (by rfl) (by unfold I64; omega)) ?_
    refine WS_det hF (by rfl) (y_move (c := .int .i64 _) (by rfl)) ?_
    refine WS_nil ?_
    exact Loop_next (k + 1) (by omega) (by repeat (first | exact trivial | refine ⟨by rfl, ?_⟩)) (by rw [hmk]; exact (by repeat (first | exact List.Sublist.refl _ | exact List.nil_sublist _ | apply List.Sublist.cons_cons | apply List.Sublist.cons))) (by omega)
  ·
    try simp only [Bool.not_eq_true', Bool.not_eq_false', decide_eq_true_eq, decide_eq_false_iff_not, ne_eq, Classical.not_not, Int.not_lt, Int.not_le] at c3
    refine W_exit ?_
    refine Then_exit ?_
    refine Loop_exit ?_
    refine InB_same ?_
    refine Then_normal ?_
    refine W_seq ?_
    refine W_seq ?_
    refine W_region_lit (fun ds => ?_)
    refine WS_det hF (by rfl) (y_move (c := .slice _ _ _) (by rfl)) ?_
    refine WS_det hF (by rfl) (y_len (by rfl) Tryd.runUnderlying22) ?_
    refine WS_det hF (by rfl) (y_move (c := .int .i64 _) (by rfl)) ?_
    refine WS_nil ?_
    refine Then_normal ?_
    refine W_block ?_
    refine W_loop (γ := Nat) (fun j => j ≤ tn) (fun j => [(0, .pointer (some ⟨bk, 0, none⟩)), (5, .map (some mb)), (31, .slice ta tn tcap), (32, .int .i64 (tn : Int)), (33, .int .i64 (j : Int))]) (fun j => [(mb, MO ((kpK (D.take j) l.es.length).map l.ent) l.es.length)]) (fun j => tn - j) (0) (Nat.zero_le _) (by repeat (first | exact trivial | refine ⟨by rfl, ?_⟩)) ((by obtain rfl : k = l.es.length := (by omega); exact (by repeat (first | exact List.Sublist.refl _ | exact List.nil_sublist _ | apply List.Sublist.cons_cons | apply List.Sublist.cons)))) ?_
    intro j e hj
    refine W_seq ?_
    refine W_region_lit (fun ds => ?_)
    refine WS_det hF (by rfl) (y_lss (by rfl) (by rfl)) ?_
    refine WS_nil ?_
    refine Then_normal ?_
    refine W_seq ?_
    refine W_cond (by rfl) (fun c8 => ?_) (fun c8 => ?_)
    ·
      try simp only [Bool.not_eq_true', Bool.not_eq_false', decide_eq_true_eq, decide_eq_false_iff_not, ne_eq, Classical.not_not, Int.not_lt, Int.not_le] at c8
      obtain ⟨bt, ot, rfl, hct⟩ := hD.cell j (by omega)
      refine W_skip ?_
      refine Then_normal ?_
      refine W_seq ?_
      refine W_block ?_
      refine W_seq ?_
      refine W_region_lit (fun ds => ?_)
      refine WS_det hF (by rfl) (y_index (k := j) (by rfl) (by rfl) (by first | rfl | omega) (by first | decide | omega) Tryd.runUnderlying22 Tryd.sizeOf3) ?_
      refine WS_det hF (by rfl) (y_load1 (by rfl) Tryd.isAgg3 (by first | exact Mem.old1 (by assumption) | exact Mem.oldAt1 (by assumption) (by rfl) | exact Mem.old (by assumption) | exact Mem.oldAtL1 (by assumption) (by rfl) (by rfl))) ?_
      refine WS_det hF (by rfl) (y_assign (c := .int .i64 _) (by rfl)) ?_
      refine WS_nil ?_
      refine Then_normal ?_
      refine W_region_lit (fun ds => ?_)
      refine WS_det hF (by rfl) (y_move (c := .map _) (by rfl)) ?_
      refine WS_det hF (by rfl) (y_move (c := .int .i64 _) (by rfl)) ?_
      refine WS_delete hF (i := 0) (by rfl) (by rfl) Tryd.underlying222 Tryd.underlying3 (by rfl) ?_
      refine WS_nil ?_
      refine InB_normal ?_
      refine Then_normal ?_
      refine W_region_lit (fun ds => ?_)
      refine WS_det hF (by rfl) (y_add (by rfl) (by rfl) (by unfold I64; omega)) ?_
      refine WS_det hF (by rfl) (y_move (c := .int .i64 _) (by rfl)) ?_
      refine WS_nil ?_
      exact Loop_next (j + 1) (by omega) (by repeat (first | exact trivial | refine ⟨by rfl, ?_⟩)) (by rw [← erase_kp l D (j := j) (by omega)]; exact (by repeat (first | exact List.Sublist.refl _ | exact List.nil_sublist _ | apply List.Sublist.cons_cons | apply List.Sublist.cons))) (by omega)
    ·
      try simp only [Bool.not_eq_true', Bool.not_eq_false', decide_eq_true_eq, decide_eq_false_iff_not, ne_eq, Classical.not_not, Int.not_lt, Int.not_le] at c8
      refine W_exit ?_
      refine Then_exit ?_
      refine Loop_exit ?_
      refine InB_same ?_
      refine Then_normal ?_
      refine W_seq ?_
      refine W_region_lit (fun ds => ?_)
      refine WS_det hF (by rfl) (y_move (c := .pointer _) (by rfl)) ?_
      refine WS_det hF (by rfl) (by first | exact y_nilCheck (by rfl) | exact y_nilCheckF (by rfl)) ?_
      refine WS_det hF (by rfl) (y_loadN (by rfl) Tryd.isAgg189 Tryd.sizeOf189 (by first | exact Mem.old (by assumption) | exact Mem.oldAt (us := [.pointer _, .slice _ _ _, .int .i64 _, .int .i64 _, .int .i64 _, .int .i64 _, .slice _ _ _, _, _, _, _, _, _, _, _, _, _, _, _]) (by assumption) (by rfl) | exact Mem.oldAtL (us := [.pointer _, .slice _ _ _, .int .i64 _, .int .i64 _, .int .i64 _, .int .i64 _, .slice _ _ _, _, _, _, _, _, _, _, _, _, _, _, _]) (by assumption) (by rfl) (by rfl)) (by rfl)) ?_
      refine WS_new hF (by rfl) (y_alloc Tryd.zeroValue189 (by rfl)) (fun cb => ?_)
      refine WS_store hF (i := 0) (by rfl) (by rfl) Tryd.sizeOf189 (by rfl) (by rfl) (by rfl) (by first | decide | exact Nat.le_of_ble_eq_true rfl | simp) ?_
      refine WS_nil ?_
      refine Then_normal ?_
      refine W_seq ?_
      refine W_region_lit (fun ds => ?_)
      refine WS_det hF (by rfl) (y_fieldAddr (by rfl) fa189_1) ?_
      refine WS_det hF (by rfl) (y_fieldAddr (by rfl) fa66_2) ?_
      refine WS_store hF (i := 0) (by rfl) (by rfl) Tryd.sizeOf64 (by rfl) (by rfl) (by rfl) (by first | decide | exact Nat.le_of_ble_eq_true rfl | simp) ?_
      refine WS_nil ?_
      refine Then_normal ?_
      refine W_seq ?_
      refine W_seq ?_
      refine W_region_lit (fun ds => ?_)
      refine WS_det hF (by rfl) (y_move (c := .pointer _) (by rfl)) ?_
      refine WS_det hF (by rfl) (by first | exact y_nilCheck (by rfl) | exact y_nilCheckF (by rfl)) ?_
      refine WS_det hF (by rfl) (y_fieldAddr (by rfl) fa189_1) ?_
      refine WS_det hF (by rfl) (y_fieldAddr (by rfl) fa66_2) ?_
      refine WS_det hF (by rfl) (y_load1 (by rfl) Tryd.isAgg64 (by first | exact Mem.old1 (by assumption) | exact Mem.oldAt1 (by assumption) (by rfl) | exact Mem.old (by assumption) | exact Mem.oldAtL1 (by assumption) (by rfl) (by rfl))) ?_
      refine WS_det hF (by rfl) (y_len (by rfl) Tryd.runUnderlying64) ?_
      refine WS_det hF (by rfl) (y_move (c := .int .i64 _) (by rfl)) ?_
      refine WS_nil ?_
      refine Then_normal ?_
      refine W_block ?_
      refine W_loop (γ := Nat × Option Addr × Nat × List Blk) (fun p => p.1 ≤ l.es.length ∧ Row 77 4 p.2.1 (l.woK D p.1).es.length p.2.2.1 (rowOf En.cells (l.woK D p.1).e (l.woK D p.1).es.length) p.2.2.2) (fun p => [(5, .map (some mb)), (10, .pointer (some ⟨cb, 0, none⟩)), (50, .int .i64 (l.es.length : Int)), (51, .int .i64 (p.1 : Int))]) (fun p => (cb, CB (bookCells g (l.woK D p.1) a cap p.2.1 p.2.2.1) 189) :: (mb, MO ((kpK D l.es.length).map l.ent) l.es.length) :: p.2.2.2) (fun p => l.es.length - p.1) ((0, none, 0, [])) ⟨Nat.zero_le _, Row.nil 77 4⟩ (by repeat (first | exact trivial | refine ⟨by rfl, ?_⟩)) ((by obtain rfl : j = tn := (by omega); rw [List.take_of_length_le (show D.length ≤ j by omega)]; exact (by repeat (first | exact List.Sublist.refl _ | exact List.nil_sublist _ | apply List.Sublist.cons_cons | apply List.Sublist.cons)))) ?_
      rintro ⟨i, ra, rcap, Hf⟩ e ⟨hi, hrow⟩
      refine W_seq ?_
      refine W_region_lit (fun ds => ?_)
      refine WS_det hF (by rfl) (y_lss (by rfl) (by rfl)) ?_
      refine WS_nil ?_
      refine Then_normal ?_
      refine W_seq ?_
      refine W_cond (by rfl) (fun c15 => ?_) (fun c15 => ?_)
      ·
        try simp only [Bool.not_eq_true', Bool.not_eq_false', decide_eq_true_eq, decide_eq_false_iff_not, ne_eq, Classical.not_not, Int.not_lt, Int.not_le] at c15
        have hin : i < l.es.length := by omega
        have hkl : (l.woK D i).es.length ≤ i := by rw [l.woK_len]; exact kpK_le D i
        have hlk : lookV (.agg #[.int .i64 0, .int .i64 0, .int .i64 0, .int .i64 0]) ((((kpK D l.es.length).map l.ent).find? (hasK ((i : Int) + 1))).map (·.2.1)) = .tuple #[.agg (if kpB D i then l.e i else En.z).cells.toArray, .bool (kpB D i)] := by
          rw [show ((kpK D l.es.length).map l.ent).find? (hasK ((i : Int) + 1)) = _ from find_ent l (kpB D) i l.es.length]
          by_cases h : kpB D i = true
          · rw [if_pos ⟨hin, h⟩, if_pos h, h]; rfl
          · rw [if_neg (fun h2 => h h2.2), if_neg h, Bool.eq_false_iff.2 h]; rfl
        refine W_skip ?_
        refine Then_normal ?_
        refine W_seq ?_
        refine W_block ?_
        refine W_seq ?_
        refine W_region_lit (fun ds => ?_)
        refine WS_det hF (by rfl) (y_move (c := .int .i64 _) (by rfl)) ?_
        refine WS_det hF (by rfl) (y_assign (c := .int .i64 _) (by rfl)) ?_
        refine WS_nil ?_
        refine Then_normal ?_
        refine W_seq ?_
        refine W_region_lit (fun ds => ?_)
        refine WS_det hF (by rfl) (y_move (c := .map _) (by rfl)) ?_
        refine WS_det hF (by rfl) (y_move (c := .int .i64 _) (by rfl)) ?_
        refine WS_det hF (by rfl) (y_add (by rfl) (by rfl) (by unfold I64; omega)) ?_
        refine WS_det hF (by rfl) (y_lookupE (i := 1) (by rfl) (by rfl) Tryd.underlying222 Tryd.underlying3 Tryd.zeroValue77 (by rfl) hlk) ?_
        refine WS_det hF (by rfl) (y_move (c := .tuple _) (by rfl)) ?_
        refine WS_det hF (by rfl) (y_extract (c := .agg _) (by rfl) (by rfl)) ?_
        refine WS_det hF (by rfl) (y_extract (c := .bool _) (by rfl) (by rfl)) ?_
        refine WS_new hF (by rfl) (y_alloc Tryd.zeroValue77 (by rfl)) (fun bz => ?_)
        refine WS_store hF (i := 0) (by rfl) (by rfl) Tryd.sizeOf77 (by rfl) (by rfl) (by rfl) (by first | decide | exact Nat.le_of_ble_eq_true rfl | simp) ?_
        refine WS_det hF (by rfl) (y_assign (c := .bool _) (by rfl)) ?_
        refine WS_nil ?_
        refine Then_normal ?_
        refine W_seq ?_
        refine W_region_lit (fun ds => ?_)
        refine WS_det hF (by rfl) (y_move (c := .bool _) (by rfl)) ?_
        refine WS_nil ?_
        refine Then_normal ?_
        refine W_cond (by rfl) (fun c18 => ?_) (fun c18 => ?_)
        ·
          try simp only [Bool.not_eq_true', Bool.not_eq_false', decide_eq_true_eq, decide_eq_false_iff_not, ne_eq, Classical.not_not, Int.not_lt, Int.not_le] at c18
          refine W_region_lit (fun ds => ?_)
          refine WS_det hF (by rfl) (y_fieldAddr (by rfl) fa189_1) ?_
          refine WS_det hF (by rfl) (y_fieldAddr (by rfl) fa66_2) ?_
          refine WS_det hF (by rfl) (y_load1 (by rfl) Tryd.isAgg64 (Mem.own1 1 (by rfl) (by rfl))) ?_
          refine WS_det hF (by rfl) (y_loadN (by rfl) Tryd.isAgg77 Tryd.sizeOf77 (Mem.own (us := [.int .i64 _, .int .i64 _, .int .i64 _, .int .i64 _]) 0 (by rfl) (by rfl)) (by rfl)) ?_
          refine WS_newS hF (by rfl) (y_buildSliceL bs64_1_0 (by rfl)) (fun b2 => ?_)
          refine WS_appendE hF (n' := (l.woK D i).es.length) (H1 := [_, _, _, _]) (by rfl) (by rfl) (by rfl) Tryd.underlying64 infEntry (by rfl) (by rfl) hrow (.inr ⟨_, _, rfl, Mem.own (us := [.int _ _, .int _ _, .int _ _, .int _ _]) 0 (by rfl) (by rfl)⟩) (by rfl) (by rfl) (by omega) (by omega) ?_
          intro ra2 rcap2 Hf2 hrow2
          have hle : (l.woK D (i + 1)).es.length = (l.woK D i).es.length + 1 := by rw [l.woK_len, l.woK_len, kpK_succ, if_pos c18, List.length_append]; rfl
          have hrow3 : Row 77 4 ra2 (l.woK D (i + 1)).es.length rcap2 (rowOf En.cells (l.woK D (i + 1)).e (l.woK D (i + 1)).es.length) Hf2 := by
            rw [l.woK_e, if_pos c18, hle]
            have he2 : (if kpB D i then l.e i else En.z) = l.e i := if_pos c18
            rw [← he2]
            exact hrow2
          refine WS_det hF (by rfl) (y_fieldAddr (by rfl) fa189_1) ?_
          refine WS_det hF (by rfl) (y_fieldAddr (by rfl) fa66_2) ?_
          refine WS_store hF (i := 2) (by rfl) (by rfl) Tryd.sizeOf64 (by rfl) (by rfl) (by rfl) (by first | decide | exact Nat.le_of_ble_eq_true rfl | simp) ?_
          refine WS_nil ?_
          refine InB_normal ?_
          refine Then_normal ?_
          refine W_region_lit (fun ds => ?_)
          refine WS_det hF (by rfl) (y_add (by rfl) (by rfl) (by unfold I64; omega)) ?_
          refine WS_det hF (by rfl) (y_move (c := .int .i64 _) (by rfl)) ?_
          refine WS_nil ?_
          exact Loop_next (i + 1, ra2, rcap2, Hf2) ⟨by omega, hrow3⟩ (by repeat (first | exact trivial | refine ⟨by rfl, ?_⟩)) (by unfold bookCells; rw [hle]; exact (by repeat (first | exact List.Sublist.refl _ | exact List.nil_sublist _ | apply List.Sublist.cons_cons | apply List.Sublist.cons))) (by simp only; omega)
        ·
          try simp only [Bool.not_eq_true', Bool.not_eq_false', decide_eq_true_eq, decide_eq_false_iff_not, ne_eq, Classical.not_not, Int.not_lt, Int.not_le] at c18
          have hkk : kpK D (i + 1) = kpK D i := by rw [kpK_succ, if_neg (by rw [c18]; exact Bool.false_ne_true)]
          have hww : l.woK D (i + 1) = l.woK D i := by unfold Lg.woK; rw [hkk]
          refine W_skip ?_
          refine InB_normal ?_
          refine Then_normal ?_
          refine W_region_lit (fun ds => ?_)
          refine WS_det hF (by rfl) (y_add (by rfl) (by rfl) (by unfold I64; omega)) ?_
          refine WS_det hF (by rfl) (y_move (c := .int .i64 _) (by rfl)) ?_
          refine WS_nil ?_
          exact Loop_next (i + 1, ra, rcap, Hf) ⟨by omega, by rw [hww]; exact hrow⟩ (by repeat (first | exact trivial | refine ⟨by rfl, ?_⟩)) (by rw [hww]; exact (by repeat (first | exact List.Sublist.refl _ | exact List.nil_sublist _ | apply List.Sublist.cons_cons | apply List.Sublist.cons))) (by simp only; omega)
      ·
        try simp only [Bool.not_eq_true', Bool.not_eq_false', decide_eq_true_eq, decide_eq_false_iff_not, ne_eq, Classical.not_not, Int.not_lt, Int.not_le] at c15
        refine W_exit ?_
        refine Then_exit ?_
        refine Loop_exit ?_
        refine InB_same ?_
        refine Then_normal ?_
        refine W_seq ?_
        refine W_region_lit (fun ds => ?_)
        refine WS_det hF (by rfl) (y_assign (c := .pointer _) (by rfl)) ?_
        refine WS_nil ?_
        refine Then_normal ?_
        refine W_ret ?_
        refine Fin_ret [.pointer _] ((cb, _) :: Hf) Tryd.results119 ⟨by rfl, trivial⟩ ((SubP.hsub (SubP.pick 0 (by rfl) (by exact SubP.drop (SubP.refl))))) ?_
        obtain rfl : i = l.es.length := by have : i ≤ l.es.length := hi; omega
        exact ⟨cb, ra, rcap, Hf, rfl, rfl, hrow⟩
end Go.Proofs.YtjekjehgmljbgaaDoor.T

/- Whether a log has a truth: the walk of holds. -/
namespace Go.Proofs.YtjekjehgmljbgaaDoor.T
open Go.RowKit Go.Proofs Go.Eng
set_option maxRecDepth 100000
set_option maxHeartbeats 1000000
set_option linter.unusedVariables false
set_option linter.unusedSimpArgs false



theorem kp_sorted {l : Lg} (h : l.Ok) (D : List Int) : ∀ i, i ≤ l.es.length → (∀ j, j < (l.woK D i).es.length → ∃ m, m < i ∧ (l.woK D i).e j = l.e m) ∧ ∀ j, j + 1 < (l.woK D i).es.length → ((l.woK D i).e j).day ≤ ((l.woK D i).e (j + 1)).day
  | 0, _ => ⟨fun j hj => by simp [Lg.woK, kpK] at hj, fun j hj => by simp [Lg.woK, kpK] at hj⟩
  | i + 1, hi => by
    obtain ⟨h1, h2⟩ := kp_sorted h D i (by omega)
    have hdm : ∀ a b, a ≤ b → b < l.es.length → (l.e a).day ≤ (l.e b).day := by
      intro a b hab
      induction b with
      | zero => intro _; obtain rfl : a = 0 := (by omega); exact Int.le_refl _
      | succ b ih =>
        intro hb
        by_cases hx : a = b + 1
        · subst hx; exact Int.le_refl _
        · exact Int.le_trans (ih (by omega) (by omega)) (h.mono b hb)
    by_cases hk : kpB D i = true
    · have hlen : (l.woK D (i + 1)).es.length = (l.woK D i).es.length + 1 := by rw [l.woK_len, l.woK_len, kpK_succ, if_pos hk, List.length_append]; rfl
      have he : ∀ j, j < (l.woK D i).es.length → (l.woK D (i + 1)).e j = (l.woK D i).e j := fun j hj => by
        rw [l.woK_len] at hj
        unfold Lg.woK Lg.e
        simp only
        rw [kpK_succ, if_pos hk, List.map_append]
        simp [List.getD_eq_getElem?_getD, List.getElem?_append_left, hj]
      have hl : (l.woK D (i + 1)).e (l.woK D i).es.length = l.e i := by
        rw [l.woK_len]
        unfold Lg.woK Lg.e
        simp only
        rw [kpK_succ, if_pos hk, List.map_append]
        simp [List.getD_eq_getElem?_getD]
      refine ⟨fun j hj => ?_, fun j hj => ?_⟩
      · by_cases hjl : j < (l.woK D i).es.length
        · obtain ⟨m, hm, hme⟩ := h1 j hjl
          exact ⟨m, by omega, (he j hjl).trans hme⟩
        · obtain rfl : j = (l.woK D i).es.length := by omega
          exact ⟨i, by omega, hl⟩
      · by_cases hjl : j + 1 < (l.woK D i).es.length
        · rw [he j (by omega), he (j + 1) hjl]; exact h2 j hjl
        · have hje : j + 1 = (l.woK D i).es.length := by omega
          obtain ⟨m, hm, hme⟩ := h1 j (by omega)
          rw [he j (by omega), hje, hl, hme]
          exact hdm m i (by omega) (by omega)
    · have hw : l.woK D (i + 1) = l.woK D i := by unfold Lg.woK; rw [kpK_succ, if_neg hk]
      rw [hw]
      exact ⟨fun j hj => by obtain ⟨m, hm, hme⟩ := h1 j hj; exact ⟨m, by omega, hme⟩, h2⟩
theorem Lg.Ok.wo {l : Lg} (h : l.Ok) (D : List Int) : (l.wo D).Ok := by
  obtain ⟨h1, h2⟩ := kp_sorted h D l.es.length (Nat.le_refl _)
  have hl := kpK_le D l.es.length
  have hn := h.n12
  refine ⟨h.tk, h.start, by show (l.woK D _).es.length ≤ 12; rw [l.woK_len]; omega, fun k hk => ?_, fun k hk => h2 k hk, fun k hk => ?_, fun k hk => ?_⟩
  · obtain ⟨m, hm, he⟩ := h1 k hk
    show 0 ≤ ((l.woK D _).e k).day ∧ _ ≤ _
    rw [show (l.wo D).e k = l.e m from he, he]; exact h.day m hm
  · obtain ⟨m, hm, he⟩ := h1 k hk
    rw [show (l.wo D).e k = l.e m from he]; exact h.kind m hm
  · obtain ⟨m, hm, he⟩ := h1 k hk
    rw [show (l.wo D).e k = l.e m from he]; exact h.size m hm
end Go.Proofs.YtjekjehgmljbgaaDoor.T

/- Dips that must be false: the walks of the closures. -/
namespace Go.Proofs.YtjekjehgmljbgaaDoor.T
open Go.RowKit Go.Proofs Go.Eng
set_option maxRecDepth 100000
set_option maxHeartbeats 1000000
set_option linter.unusedVariables false
set_option linter.unusedSimpArgs false



theorem clone_any (ta : Option Addr) (tn tcap : Nat) (D : List Int) (w : World) (hD : Ints w ta tn tcap D) (htn : tn ≤ 1000000) (hnil : ta = none ∧ tn = 0 ∨ ta ≠ none ∧ 0 < tn) :
    Ct Tryd.prog 78 #[.slice ta tn tcap] w fun v Hn => ∃ a' cap', v = .slice a' tn cap' ∧ Row 3 1 a' tn cap' (iv D) Hn ∧ (a' = none ∧ tn = 0 ∨ a' ≠ none ∧ 0 < tn) := by
  have hlen : (iv D).length = tn * 1 := by rw [Nat.mul_one]; exact (List.length_map _).trans hD.len
  have hF := wide_wide
  refine Ct_start (args := [_]) Tryd.func78 (by rfl) Tryd.ntmps78 (by rfl) ?_
  refine W_seq ?_
  refine W_region_lit (fun ds => ?_)
  refine WS_det hF (by rfl) (y_assign (c := .slice _ _ _) (by rfl)) ?_
  refine WS_nil ?_
  refine Then_normal ?_
  refine W_seq ?_
  refine W_seq ?_
  refine W_region_lit (fun ds => ?_)
  refine WS_det hF (by rfl) (y_move (c := .slice _ _ _) (by rfl)) ?_
  refine WS_det hF (by rfl) (y_eqlNil (by rfl) (by rfl) Tryd.runUnderlying22) ?_
  refine WS_nil ?_
  refine Then_normal ?_
  refine W_cond (by rfl) (fun c1 => ?_) (fun c1 => ?_)
  ·
    try simp only [Bool.not_eq_true', Bool.not_eq_false', decide_eq_true_eq, decide_eq_false_iff_not, ne_eq, Classical.not_not, Int.not_lt, Int.not_le] at c1
    have ht : ta = none ∧ tn = 0 := by
      rcases hnil with h | h
      · exact h
      · cases ta with
        | none => exact absurd rfl h.1
        | some _ => cases c1
    obtain ⟨rfl, rfl⟩ := ht
    obtain rfl : D = [] := List.length_eq_zero_iff.1 hD.len
    refine W_seq ?_
    refine W_region_lit (fun ds => ?_)
    refine WS_det hF (by rfl) (y_assign (c := .slice _ _ _) (by rfl)) ?_
    refine WS_nil ?_
    refine Then_normal ?_
    refine W_ret ?_
    refine Then_ret ?_
    refine Fin_ret [.slice _ _ _] [] Tryd.results78 ⟨by rfl, trivial⟩ HSub.nil ?_
    exact ⟨none, 0, rfl, Row.nil 3 1, .inl ⟨rfl, rfl⟩⟩
  ·
    try simp only [Bool.not_eq_true', Bool.not_eq_false', decide_eq_true_eq, decide_eq_false_iff_not, ne_eq, Classical.not_not, Int.not_lt, Int.not_le] at c1
    have ht : ta ≠ none ∧ 0 < tn := by
      rcases hnil with h | h
      · rw [h.1] at c1; cases c1
      · exact h
    refine W_skip ?_
    refine Then_normal ?_
    refine W_seq ?_
    refine W_region_lit (fun ds => ?_)
    refine WS_newS hF (by rfl) (y_buildSliceL bs22_0 (by rfl)) (fun b1 => ?_)
    refine WS_det hF (by rfl) (y_move (c := .slice _ _ _) (by rfl)) ?_
    refine WS_gen hF (by rfl) (y_append0 (by rfl) (by rfl) Tryd.underlying22 infInt (by rfl) hD.src hlen (by omega) (by omega)) ?_
    rintro _ Hc hrow
    obtain ⟨a', cap', rfl, hle, ⟨hm, b, junk, rfl, rfl, hl2⟩ | ⟨h0, _⟩⟩ := hrow
    case inr => omega
    refine WS_det hF (by rfl) (y_assign (c := .slice _ _ _) (by rfl)) ?_
    refine WS_nil ?_
    refine Then_normal ?_
    refine W_ret ?_
    refine Fin_ret [.slice _ _ _] [(b, _)] Tryd.results78 ⟨by rfl, trivial⟩ (HSub.sub (by repeat (first | exact List.Sublist.refl _ | exact List.sublist_append_left _ _ | exact List.nil_sublist _ | apply List.Sublist.cons_cons | apply List.Sublist.cons | refine List.Sublist.trans ?_ (List.sublist_append_right _ _)))) ?_
    exact ⟨_, _, rfl, .inr ⟨b, junk, rfl, rfl, hlen, hl2, hle⟩, .inr ⟨by simp, hm⟩⟩
end Go.Proofs.YtjekjehgmljbgaaDoor.T

/- Dips that must be false: the walk of strike. -/
namespace Go.Proofs.YtjekjehgmljbgaaDoor.T
open Go.RowKit Go.Proofs Go.Eng
set_option maxRecDepth 100000
set_option maxHeartbeats 1000000
set_option linter.unusedVariables false
set_option linter.unusedSimpArgs false



theorem Row.mem {C : Ctx} {H Hn : List Blk} {T : TypeId} {b o n cap k : Nat} {xs : List Int} (h : Row T 1 (some ⟨b, o, none⟩) n cap (iv xs) Hn) (hl : xs.length = n) (hs : Hn.Sublist H) (hk : k < n) : Mem C H b (o + k * 1) [.int .i64 (xs.getD k 0)] :=
  fun w hw => (Row.ints h hl hs w hw).at hk
def firstSome {β : Type} (f : Nat → Option β) (a : Nat) : Nat → Option β
  | 0 => none
  | n + 1 => match f a with
    | some r => some r
    | none => firstSome f (a + 1) n
def frD (D : List Int) : Nat := (D.getD (D.length - 1) 0).toNat
/-- The first list of so many dips more without which there is a truth. -/
def Lg.stk (l : Lg) : Nat → List Int → Option (List Int)
  | 0, D => if (l.wo D).holdsB then some D else none
  | m + 1, D => firstSome (fun i => if (l.e i).kind = 3 then l.stk m (D ++ [(i : Int) + 1]) else none) (frD D) (l.es.length - frD D)
def Lg.stkF (l : Lg) (m : Nat) (D : List Int) (i : Nat) : Option (List Int) := if (l.e i).kind = 3 then l.stk m (D ++ [(i : Int) + 1]) else none
def StkV (base : Value → List Blk → List Blk) (r : Option (List Int)) (L : List Blk) (v : Value) (H' : List Blk) : Prop :=
  ∃ bb s L', v = .bool bb ∧ H' = base s L' ∧ (bb = true → r = none ∧ L' = L) ∧ (bb = false → ∃ R fa fn fcap Hf, r = some R ∧ s = .slice fa fn fcap ∧ Row 3 1 fa fn fcap (iv R) Hf ∧ R.length = fn ∧ Hf.Sublist L')
end Go.Proofs.YtjekjehgmljbgaaDoor.T

/- Dips that must be false; whether a log is valid: the walks. -/
namespace Go.Proofs.YtjekjehgmljbgaaDoor.T
open Go.RowKit Go.Proofs Go.Eng
set_option maxRecDepth 100000
set_option maxHeartbeats 1000000
set_option linter.unusedVariables false
set_option linter.unusedSimpArgs false



def Lg.wr (l : Lg) : Option (List Int) := firstSome (fun n => l.stk n []) 0 (l.es.length + 1)
def WrongV (l : Lg) (v : Value) (Hn : List Blk) : Prop :=
  (l.err ≠ 0 → v = .tuple #[.slice none 0 0, .int .i64 l.err] ∧ Hn = []) ∧
  (l.err = 0 → (∀ R, l.wr = some R → ∃ fa fn fcap, v = .tuple #[.slice fa fn fcap, .int .i64 0] ∧ Row 3 1 fa fn fcap (iv R) Hn ∧ R.length = fn) ∧ (l.wr = none → v = .tuple #[.slice none 0 0, .int .i64 6] ∧ Hn = []))
theorem valid_any (l : Lg) (a : Option Addr) (cap : Nat) (ae : Option Addr) (cape : Nat) (w : World) (hn : l.tk.n ≤ 1000000) (hx : Ints w a l.tk.n cap l.tk.pints) (he : Ens w ae l.es.length cape l.es) : Ct Tryd.prog 80 #[.agg #[.slice a l.tk.n cap, .int .i64 l.tk.leak, .int .i64 l.tk.foot, .int .i64 l.start.lo, .int .i64 l.start.hi, .slice ae l.es.length cape]] w fun v _ => v = .int .i64 l.err := by
  have hF := wide_wide
  refine Ct_start (args := [_]) Tryd.func80 (by rfl) Tryd.ntmps80 (by rfl) ?_
  refine W_seq ?_
  refine W_region_lit (fun ds => ?_)
  refine WS_new hF (by rfl) (y_box (by rfl)) (fun b1 => ?_)
  refine WS_det hF (by rfl) (y_assign (c := .int .i64 _) (by rfl)) ?_
  refine WS_nil ?_
  refine Then_normal ?_
  refine W_seq ?_
  refine W_region_lit (fun ds => ?_)
  refine WS_det hF (by rfl) (y_loadN (by rfl) Tryd.isAgg66 Tryd.sizeOf66 (Mem.own (us := [.slice _ _ _, .int .i64 _, .int .i64 _, .int .i64 _, .int .i64 _, .slice _ _ _]) 0 (by rfl) (by rfl)) (by rfl)) ?_
  refine WS_gen hF (by rfl) (y_callL (by rfl) (by rfl) Tryd.call116 (fun w hw => opened_any l a cap ae cape w hn (hx.st w hw) (he.st w hw))) ?_
  rintro _ Hg ⟨p, rfl, hg1, hg2⟩
  refine WS_det hF (by rfl) (y_move (c := .tuple _) (by rfl)) ?_
  refine WS_det hF (by rfl) (y_extract (c := .pointer _) (by rfl) (by rfl)) ?_
  refine WS_det hF (by rfl) (y_extract (c := .int .i64 _) (by rfl) (by rfl)) ?_
  refine WS_det hF (by rfl) (y_assign (c := .pointer _) (by rfl)) ?_
  refine WS_det hF (by rfl) (y_assign (c := .int .i64 _) (by rfl)) ?_
  refine WS_nil ?_
  refine Then_normal ?_
  refine W_seq ?_
  refine W_region_lit (fun ds => ?_)
  refine WS_det hF (by rfl) (y_move (c := .int .i64 _) (by rfl)) ?_
  refine WS_det hF (by rfl) (y_assign (c := .int .i64 _) (by rfl)) ?_
  refine WS_nil ?_
  refine Then_normal ?_
  refine W_ret ?_
  refine Fin_ret [.int .i64 _] [] Tryd.results80 ⟨by rfl, trivial⟩ HSub.nil ?_
  rfl
end Go.Proofs.YtjekjehgmljbgaaDoor.T

namespace Go.Proofs.YtjekjehgmljbgaaDoor.T
open Go.RowKit Go.Proofs Go.Eng
set_option maxRecDepth 100000
set_option maxHeartbeats 800000
set_option linter.unusedVariables false
set_option linter.unusedSimpArgs false



def Lg.trs (l : Lg) : List Int := if l.aerr = 0 then (List.range (l.es.length + 1)).map l.tr else []
end Go.Proofs.YtjekjehgmljbgaaDoor.T
