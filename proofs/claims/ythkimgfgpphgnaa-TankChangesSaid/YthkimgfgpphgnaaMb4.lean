/- Proved: for every input, with no condition, the law TankChanges returns true and the input reads as it did (Rows.TankChangesSaid). -/
import Derived.Test.YthkimgfgpphgnaaMb3
import Derived.Laws.Bits64b
import Derived.Test.YthkimgfgpphgnaaMb2
set_option linter.unusedVariables false
set_option linter.unusedSimpArgs false
/- The reference's changes: the walks of Add, without, Strike and Before. -/
namespace Go.Proofs.Ythkimgfgpphgnaa.T
open Go.RowKit Go.Proofs Go.Eng
set_option maxRecDepth 100000
set_option linter.unusedVariables false
set_option linter.unusedSimpArgs false



theorem radd_any (l : Lg) (a : Option Addr) (cap : Nat) (ae : Option Addr) (cape : Nat) (x : En) (w : World) (hn : l.tk.n ≤ 1000000) (hx : Ints w a l.tk.n cap l.tk.pints) (he : Ens w ae l.es.length cape l.es) : Ct Try.prog 27 #[.agg #[.slice a l.tk.n cap, .int .i64 l.tk.leak, .int .i64 l.tk.foot, .int .i64 l.start.lo, .int .i64 l.start.hi, .slice ae l.es.length cape], .agg x.cells.toArray] w (AddV l x) := by
  have hF := wide_wide
  refine Ct_start (args := [_, _]) Try.func27 (by rfl) Try.ntmps27 (by rfl) ?_
  refine W_seq ?_
  refine W_region_lit (fun ds => ?_)
  refine WS_new hF (by rfl) (y_box (by rfl)) (fun b1 => ?_)
  refine WS_new hF (by rfl) (y_box (by rfl)) (fun b2 => ?_)
  refine WS_new hF (by rfl) (y_alloc Try.zeroValue46 (by rfl)) (fun b3 => ?_)
  refine WS_det hF (by rfl) (y_assign (c := .int .i64 _) (by rfl)) ?_
  refine WS_nil ?_
  refine Then_normal ?_
  refine W_seq ?_
  refine W_seq ?_
  refine W_region_lit (fun ds => ?_)
  refine WS_det hF (by rfl) (y_loadN (by rfl) Try.isAgg46 Try.sizeOf46 (Mem.own (us := [.slice _ _ _, .int .i64 _, .int .i64 _, .int .i64 _, .int .i64 _, .slice _ _ _]) 2 (by rfl) (by rfl)) (by rfl)) ?_
  refine WS_det hF (by rfl) (y_callL (by rfl) (by rfl) Try.call46 (fun w hw => rvalid_any l a cap ae cape w hn (hx.st w hw) (he.st w hw))) ?_
  refine WS_det hF (by rfl) (y_assign (c := .int .i64 _) (by rfl)) ?_
  refine WS_nil ?_
  refine Then_normal ?_
  refine W_seq ?_
  refine W_region_lit (fun ds => ?_)
  refine WS_det hF (by rfl) (y_move (c := .int .i64 _) (by rfl)) ?_
  refine WS_det hF (by rfl) (y_neq (by rfl) (by rfl)) ?_
  refine WS_nil ?_
  refine Then_normal ?_
  refine W_cond (by rfl) (fun c2 => ?_) (fun c2 => ?_)
  ·
    try simp only [Bool.not_eq_true', Bool.not_eq_false', decide_eq_true_eq, decide_eq_false_iff_not, ne_eq, Classical.not_not, Int.not_lt, Int.not_le] at c2
    refine W_seq ?_
    refine W_region_lit (fun ds => ?_)
    refine WS_det hF (by rfl) (y_buildL bd46 (by rfl)) ?_
    refine WS_det hF (by rfl) (y_move (c := .int .i64 _) (by rfl)) ?_
    refine WS_store hF (i := 0) (by rfl) (by rfl) Try.sizeOf46 (by rfl) (by rfl) (by rfl) (by first | decide | exact Nat.le_of_ble_eq_true rfl | simp) ?_
    refine WS_det hF (by rfl) (y_assign (c := .int .i64 _) (by rfl)) ?_
    refine WS_nil ?_
    refine Then_normal ?_
    refine W_ret ?_
    refine Then_ret ?_
    refine Fin_ret [_, .int .i64 _] [] Try.results27 ⟨lvN (by rfl) Try.isAgg46 Try.sizeOf46 (Mem.own (us := [.slice _ _ _, .int .i64 _, .int .i64 _, .int .i64 _, .int .i64 _, .slice _ _ _]) 0 (by rfl) (by rfl)) (by rfl), by rfl, trivial⟩ HSub.nil ?_
    have hE : l.addE x = l.err := if_neg c2
    exact ⟨zeroLg, by rw [hE]; rfl, fun _ => ⟨rfl, rfl⟩, fun h => absurd (hE ▸ h) c2⟩
  ·
    try simp only [Bool.not_eq_true', Bool.not_eq_false', decide_eq_true_eq, decide_eq_false_iff_not, ne_eq, Classical.not_not, Int.not_lt, Int.not_le] at c2
    have hok := l.ok_of c2
    have hn12 := hok.n12
    have hn2 := hok.tk.n2
    refine W_skip ?_
    refine Then_normal ?_
    refine W_seq ?_
    refine W_seq ?_
    refine W_region_lit (fun ds => ?_)
    refine WS_det hF (by rfl) (y_fieldAddr (by rfl) fa46_2) ?_
    refine WS_det hF (by rfl) (y_load1 (by rfl) Try.isAgg44 (Mem.own1 2 (by rfl) (by rfl))) ?_
    refine WS_det hF (by rfl) (y_len (by rfl) Try.runUnderlying44) ?_
    refine WS_det hF (by rfl) (y_eql (by rfl) (by rfl)) ?_
    refine WS_nil ?_
    refine Then_normal ?_
    refine W_cond (by rfl) (fun c4 => ?_) (fun c4 => ?_)
    ·
      try simp only [Bool.not_eq_true', Bool.not_eq_false', decide_eq_true_eq, decide_eq_false_iff_not, ne_eq, Classical.not_not, Int.not_lt, Int.not_le] at c4
      refine W_seq ?_
      refine W_region_lit (fun ds => ?_)
      refine WS_det hF (by rfl) (y_buildL bd46 (by rfl)) ?_
      refine WS_store hF (i := 0) (by rfl) (by rfl) Try.sizeOf46 (by rfl) (by rfl) (by rfl) (by first | decide | exact Nat.le_of_ble_eq_true rfl | simp) ?_
      refine WS_det hF (by rfl) (y_assign (c := .int .i64 _) (by rfl)) ?_
      refine WS_nil ?_
      refine Then_normal ?_
      refine W_ret ?_
      refine Then_ret ?_
      refine Fin_ret [_, .int .i64 _] [] Try.results27 ⟨lvN (by rfl) Try.isAgg46 Try.sizeOf46 (Mem.own (us := [.slice _ _ _, .int .i64 _, .int .i64 _, .int .i64 _, .int .i64 _, .slice _ _ _]) 0 (by rfl) (by rfl)) (by rfl), by rfl, trivial⟩ HSub.nil ?_
      have hE : l.addE x = 9 := by unfold Lg.addE; rw [if_pos c2, if_pos (by omega)]
      exact ⟨zeroLg, by rw [hE]; rfl, fun _ => ⟨rfl, rfl⟩, fun h => absurd (hE ▸ h) (by decide)⟩
    ·
      try simp only [Bool.not_eq_true', Bool.not_eq_false', decide_eq_true_eq, decide_eq_false_iff_not, ne_eq, Classical.not_not, Int.not_lt, Int.not_le] at c4
      refine W_skip ?_
      refine Then_normal ?_
      refine W_seq ?_
      refine W_region_lit (fun ds => ?_)
      refine WS_det hF (by rfl) (y_loadN (by rfl) Try.isAgg46 Try.sizeOf46 (Mem.own (us := [.slice _ _ _, .int .i64 _, .int .i64 _, .int .i64 _, .int .i64 _, .slice _ _ _]) 2 (by rfl) (by rfl)) (by rfl)) ?_
      refine WS_gen hF (by rfl) (y_callL (by rfl) (by rfl) Try.call23 (fun w hw => twin_any l a cap ae cape w (by omega) hn (hx.st w hw) (he.st w hw))) ?_
      rintro _ _ ⟨a1, cap1, a2, cap2, H1, H2, rfl, hr1, hr2, rfl⟩
      refine WS_back ?_
      refine WS_new hF (by rfl) (y_alloc Try.zeroValue46 (by rfl)) (fun bo => ?_)
      refine WS_store hF (i := 0) (by rfl) (by rfl) Try.sizeOf46 (by rfl) (by rfl) (by rfl) (by first | decide | exact Nat.le_of_ble_eq_true rfl | simp) ?_
      refine WS_nil ?_
      refine Then_normal ?_
      refine W_seq ?_
      refine W_region_lit (fun ds => ?_)
      refine WS_det hF (by rfl) (y_fieldAddr (by rfl) fa46_2) ?_
      refine WS_det hF (by rfl) (y_load1 (by rfl) Try.isAgg44 (Mem.own1 0 (by rfl) (by rfl))) ?_
      refine WS_det hF (by rfl) (y_loadN (by rfl) Try.isAgg48 Try.sizeOf48 (Mem.own (us := [.int .i64 _, .int .i64 _, .int .i64 _, .int .i64 _]) 2 (by rfl) (by rfl)) (by rfl)) ?_
      refine WS_newS hF (by rfl) (y_buildSliceL bs44_1_0 (by rfl)) (fun b4 => ?_)
      refine WS_appendN hF (H1 := (_ :: _ :: _ :: _ :: _ :: H1)) (Hn := H2) (by rfl) (by rfl) (by rfl) Try.underlying44 infEntry (by rfl) (by rfl) hr2 (rowOf_len en_len _ _) (.inr ⟨_, _, rfl, Mem.own (us := [.int _ _, .int _ _, .int _ _, .int _ _]) 0 (by rfl) (by rfl)⟩) (by rfl) (by rfl) (by omega) (by omega) (by omega) ?_
      intro a3 cap3 H3 hr3
      have hr4 : NewRow 48 4 (l.put x).es.length (rowOf En.cells (l.put x).e (l.put x).es.length) (.slice a3 (l.put x).es.length cap3) H3 := by
        rw [l.put_len, l.put_row]; exact hr3
      rw [show l.es.length + 1 = (l.put x).es.length from (l.put_len x).symm]
      refine WS_det hF (by rfl) (y_fieldAddr (by rfl) fa46_2) ?_
      refine WS_store hF (i := 1) (by rfl) (by rfl) Try.sizeOf44 (by rfl) (by rfl) (by rfl) (by first | decide | exact Nat.le_of_ble_eq_true rfl | simp) ?_
      refine WS_nil ?_
      refine Then_normal ?_
      refine W_seq ?_
      refine W_seq ?_
      refine W_region_lit (fun ds => ?_)
      refine WS_det hF (by rfl) (y_loadN (by rfl) Try.isAgg46 Try.sizeOf46 (Mem.own (us := [.slice _ _ _, .int .i64 _, .int .i64 _, .int .i64 _, .int .i64 _, .slice _ _ _]) 1 (by rfl) (by rfl)) (by rfl)) ?_
      refine WS_det hF (by rfl) (y_callL (by rfl) (by rfl) Try.call87 (fun w hw => rlog_any (l.put x) a1 cap1 a3 cap3 w hn (NewRow.ints hr1 hx.len (by repeat (first | exact List.Sublist.refl _ | exact List.sublist_append_left _ _ | exact List.nil_sublist _ | apply List.Sublist.cons_cons | apply List.Sublist.cons | refine List.Sublist.trans ?_ (List.sublist_append_right _ _))) w hw) (NewRow.rws en_len hr4 rfl (by repeat (first | exact List.Sublist.refl _ | exact List.sublist_append_left _ _ | exact List.nil_sublist _ | apply List.Sublist.cons_cons | apply List.Sublist.cons | refine List.Sublist.trans ?_ (List.sublist_append_right _ _))) w hw))) ?_
      refine WS_det hF (by rfl) (y_not (by rfl)) ?_
      refine WS_nil ?_
      refine Then_normal ?_
      refine W_cond (by rfl) (fun c8 => ?_) (fun c8 => ?_)
      ·
        try simp only [Bool.not_eq_true', Bool.not_eq_false', decide_eq_true_eq, decide_eq_false_iff_not, ne_eq, Classical.not_not, Int.not_lt, Int.not_le] at c8
        refine W_seq ?_
        refine W_region_lit (fun ds => ?_)
        refine WS_det hF (by rfl) (y_buildL bd46 (by rfl)) ?_
        refine WS_store hF (i := 2) (by rfl) (by rfl) Try.sizeOf46 (by rfl) (by rfl) (by rfl) (by first | decide | exact Nat.le_of_ble_eq_true rfl | simp) ?_
        refine WS_det hF (by rfl) (y_assign (c := .int .i64 _) (by rfl)) ?_
        refine WS_nil ?_
        refine Then_normal ?_
        refine W_ret ?_
        refine Then_ret ?_
        refine Fin_ret [_, .int .i64 _] [] Try.results27 ⟨lvN (by rfl) Try.isAgg46 Try.sizeOf46 (Mem.own (us := [.slice _ _ _, .int .i64 _, .int .i64 _, .int .i64 _, .int .i64 _, .slice _ _ _]) 2 (by rfl) (by rfl)) (by rfl), by rfl, trivial⟩ HSub.nil ?_
        have hP : (l.put x).err ≠ 0 := by
          unfold Lg.err
          rw [Bool.and_eq_false_iff] at c8
          rcases c8 with h | h
          · rw [if_neg (by rw [h]; exact Bool.false_ne_true)]; decide
          · split
            · rw [if_neg (by rw [h]; exact Bool.false_ne_true)]; decide
            · decide
        have hE : l.addE x = 32 := by unfold Lg.addE; rw [if_pos c2, if_neg (by omega), if_neg hP]
        exact ⟨zeroLg, by rw [hE]; rfl, fun _ => ⟨rfl, rfl⟩, fun h => absurd (hE ▸ h) (by decide)⟩
      ·
        try simp only [Bool.not_eq_true', Bool.not_eq_false', decide_eq_true_eq, decide_eq_false_iff_not, ne_eq, Classical.not_not, Int.not_lt, Int.not_le] at c8
        refine W_skip ?_
        refine Then_normal ?_
        refine W_seq ?_
        refine W_region_lit (fun ds => ?_)
        refine WS_det hF (by rfl) (y_loadN (by rfl) Try.isAgg46 Try.sizeOf46 (Mem.own (us := [.slice _ _ _, .int .i64 _, .int .i64 _, .int .i64 _, .int .i64 _, .slice _ _ _]) 1 (by rfl) (by rfl)) (by rfl)) ?_
        refine WS_store hF (i := 2) (by rfl) (by rfl) Try.sizeOf46 (by rfl) (by rfl) (by rfl) (by first | decide | exact Nat.le_of_ble_eq_true rfl | simp) ?_
        refine WS_det hF (by rfl) (y_assign (c := .int .i64 _) (by rfl)) ?_
        refine WS_nil ?_
        refine Then_normal ?_
        refine W_ret ?_
        refine Fin_ret [_, .int .i64 _] (H1 ++ H3) Try.results27 ⟨lvN (by rfl) Try.isAgg46 Try.sizeOf46 (Mem.own (us := [.slice _ _ _, .int .i64 _, .int .i64 _, .int .i64 _, .int .i64 _, .slice _ _ _]) 2 (by rfl) (by rfl)) (by rfl), by rfl, trivial⟩ (HSub.sub (by repeat (first | exact List.Sublist.refl _ | exact List.sublist_append_left _ _ | exact List.nil_sublist _ | apply List.Sublist.cons_cons | apply List.Sublist.cons | refine List.Sublist.trans ?_ (List.sublist_append_right _ _)))) ?_
        have hP : (l.put x).err = 0 := by
          unfold Lg.err
          rw [Bool.and_eq_true] at c8
          rw [if_pos c8.1, if_pos c8.2]
        have hE : l.addE x = 0 := by unfold Lg.addE; rw [if_pos c2, if_neg (by omega), if_pos hP]
        exact ⟨_, by rw [hE]; rfl, fun h => absurd hE h, fun _ => ⟨a1, cap1, a3, cap3, H1, H3, rfl, hr1, hr4, rfl⟩⟩
theorem rwithout_any (l : Lg) (a : Option Addr) (cap : Nat) (ae : Option Addr) (cape : Nat) (ta : Option Addr) (tn tcap : Nat) (D : List Int) (w : World) (hnes : l.es.length ≤ 1000000) (htn : tn ≤ 1000000) (hD : Ints w ta tn tcap D) (hn : l.tk.n ≤ 1000000) (hx : Ints w a l.tk.n cap l.tk.pints) (he : Ens w ae l.es.length cape l.es) : Ct Try.prog 85 #[.agg #[.slice a l.tk.n cap, .int .i64 l.tk.leak, .int .i64 l.tk.foot, .int .i64 l.start.lo, .int .i64 l.start.hi, .slice ae l.es.length cape], .slice ta tn tcap] w (TwinL (l.wo D)) := by
  have hDl := hD.len
  have hF := wide_wide
  refine Ct_start (args := [_, _]) Try.func85 (by rfl) Try.ntmps85 (by rfl) ?_
  refine W_seq ?_
  refine W_region_lit (fun ds => ?_)
  refine WS_new hF (by rfl) (y_box (by rfl)) (fun b1 => ?_)
  refine WS_new hF (by rfl) (y_alloc Try.zeroValue46 (by rfl)) (fun b2 => ?_)
  refine WS_nil ?_
  refine Then_normal ?_
  refine W_seq ?_
  refine W_region_lit (fun ds => ?_)
  refine WS_det hF (by rfl) (y_loadN (by rfl) Try.isAgg46 Try.sizeOf46 (Mem.own (us := [.slice _ _ _, .int .i64 _, .int .i64 _, .int .i64 _, .int .i64 _, .slice _ _ _]) 1 (by rfl) (by rfl)) (by rfl)) ?_
  refine WS_gen hF (by rfl) (y_callL (by rfl) (by rfl) Try.call23 (fun w hw => twin_any l a cap ae cape w hnes hn (hx.st w hw) (he.st w hw))) ?_
  rintro _ _ ⟨a1, cap1, a2, cap2, H1, H2, rfl, hr1, hr2, rfl⟩
  refine WS_back ?_
  refine WS_new hF (by rfl) (y_alloc Try.zeroValue46 (by rfl)) (fun b3 => ?_)
  refine WS_store hF (i := 0) (by rfl) (by rfl) Try.sizeOf46 (by rfl) (by rfl) (by rfl) (by first | decide | exact Nat.le_of_ble_eq_true rfl | simp) ?_
  refine WS_nil ?_
  refine Then_normal ?_
  refine W_seq ?_
  refine W_region_lit (fun ds => ?_)
  refine WS_det hF (by rfl) (y_fieldAddr (by rfl) fa46_2) ?_
  refine WS_store hF (i := 0) (by rfl) (by rfl) Try.sizeOf44 (by rfl) (by rfl) (by rfl) (by first | decide | exact Nat.le_of_ble_eq_true rfl | simp) ?_
  refine WS_nil ?_
  refine Then_normal ?_
  refine W_seq ?_
  refine W_seq ?_
  refine W_region_lit (fun ds => ?_)
  refine WS_det hF (by rfl) (y_assign (c := .int .i64 _) (by rfl)) ?_
  refine WS_nil ?_
  refine Then_normal ?_
  refine W_block ?_
  refine W_loop (γ := Nat × Option Addr × Nat × List Blk) (fun p => p.1 ≤ l.es.length ∧ NewRow 48 4 (l.woK D p.1).es.length (rowOf En.cells (l.woK D p.1).e (l.woK D p.1).es.length) (.slice p.2.1 (l.woK D p.1).es.length p.2.2.1) p.2.2.2) (fun p => [(1, .slice ta tn tcap), (2, .pointer (some ⟨b1, 0, none⟩)), (4, .pointer (some ⟨b2, 0, none⟩)), (5, .pointer (some ⟨b3, 0, none⟩)), (6, .int .i64 (p.1 : Int))]) (fun p => (b3, CB [.slice a1 l.tk.n cap1, .int .i64 l.tk.leak, .int .i64 l.tk.foot, .int .i64 l.start.lo, .int .i64 l.start.hi, .slice p.2.1 (l.woK D p.1).es.length p.2.2.1] 46) :: (b2, CB [.slice none 0 0, .int .i64 0, .int .i64 0, .int .i64 0, .int .i64 0, .slice none 0 0] 46) :: (b1, CB [.slice a l.tk.n cap, .int .i64 l.tk.leak, .int .i64 l.tk.foot, .int .i64 l.start.lo, .int .i64 l.start.hi, .slice ae l.es.length cape] 46) :: (H1 ++ p.2.2.2)) (fun p => l.es.length - p.1) ((0, none, 0, [])) ⟨Nat.zero_le _, ⟨_, _, rfl, Nat.le_refl _, .inr ⟨rfl, rfl, rfl⟩⟩⟩ (by repeat (first | exact trivial | refine ⟨by rfl, ?_⟩)) ((by rw [List.append_nil]; exact (by repeat (first | exact List.Sublist.refl _ | exact List.sublist_append_left _ _ | exact List.nil_sublist _ | apply List.Sublist.cons_cons | apply List.Sublist.cons | refine List.Sublist.trans ?_ (List.sublist_append_right _ _))))) ?_
  rintro ⟨i, ra, rcap, Hf⟩ e ⟨hi, hrow⟩
  refine W_seq ?_
  refine W_seq ?_
  refine W_region_lit (fun ds => ?_)
  refine WS_det hF (by rfl) (y_move (c := .int .i64 _) (by rfl)) ?_
  refine WS_det hF (by rfl) (y_fieldAddr (by rfl) fa46_2) ?_
  refine WS_det hF (by rfl) (y_load1 (by rfl) Try.isAgg44 (Mem.own1 2 (by rfl) (by rfl))) ?_
  refine WS_det hF (by rfl) (y_len (by rfl) Try.runUnderlying44) ?_
  refine WS_det hF (by rfl) (y_lss (by rfl) (by rfl)) ?_
  refine WS_nil ?_
  refine Then_normal ?_
  refine W_cond (by rfl) (fun c4 => ?_) (fun c4 => ?_)
  ·
    try simp only [Bool.not_eq_true', Bool.not_eq_false', decide_eq_true_eq, decide_eq_false_iff_not, ne_eq, Classical.not_not, Int.not_lt, Int.not_le] at c4
    have hin : i < l.es.length := by omega
    have hkl : (l.woK D i).es.length ≤ i := by rw [l.woK_len]; exact kpK_le D i
    obtain ⟨b, o, rfl, hce⟩ := he.cell i hin
    change At w b _ (l.e i).cells at hce
    refine W_skip ?_
    refine Then_normal ?_
    refine W_seq ?_
    refine W_block ?_
    refine W_seq ?_
    refine W_region_lit (fun ds => ?_)
    refine WS_det hF (by rfl) (y_assign (c := .bool _) (by rfl)) ?_
    refine WS_nil ?_
    refine Then_normal ?_
    refine W_seq ?_
    refine W_seq ?_
    refine W_region_lit (fun ds => ?_)
    refine WS_det hF (by rfl) (y_assign (c := .int .i64 _) (by rfl)) ?_
    refine WS_nil ?_
    refine Then_normal ?_
    refine W_block ?_
    refine W_loop (γ := Nat × Bool) (fun p => p.1 ≤ tn ∧ p.2 = (D.take p.1).contains ((i : Int) + 1)) (fun p => [(1, .slice ta tn tcap), (2, .pointer (some ⟨b1, 0, none⟩)), (4, .pointer (some ⟨b2, 0, none⟩)), (5, .pointer (some ⟨b3, 0, none⟩)), (6, .int .i64 (i : Int)), (7, .bool p.2), (8, .int .i64 (p.1 : Int))]) (fun _ => _) (fun p => tn - p.1) ((0, false)) ⟨Nat.zero_le _, rfl⟩ (by repeat (first | exact trivial | refine ⟨by rfl, ?_⟩)) (List.Sublist.refl _) ?_
    rintro ⟨k, is⟩ e ⟨hk, his⟩
    refine W_seq ?_
    refine W_seq ?_
    refine W_region_lit (fun ds => ?_)
    refine WS_det hF (by rfl) (y_move (c := .int .i64 _) (by rfl)) ?_
    refine WS_det hF (by rfl) (y_move (c := .slice _ _ _) (by rfl)) ?_
    refine WS_det hF (by rfl) (y_len (by rfl) Try.runUnderlying22) ?_
    refine WS_det hF (by rfl) (y_lss (by rfl) (by rfl)) ?_
    refine WS_nil ?_
    refine Then_normal ?_
    refine W_cond (by rfl) (fun c8 => ?_) (fun c8 => ?_)
    ·
      try simp only [Bool.not_eq_true', Bool.not_eq_false', decide_eq_true_eq, decide_eq_false_iff_not, ne_eq, Classical.not_not, Int.not_lt, Int.not_le] at c8
      have hkt : k < tn := by omega
      obtain ⟨tb, to, rfl, htc⟩ := hD.cell k hkt
      have hsn := take_snoc (D := D) (j := k) (by omega)
      simp only at his
      refine W_skip ?_
      refine Then_normal ?_
      refine W_seq ?_
      refine W_block ?_
      refine W_region_lit (fun ds => ?_)
      refine WS_det hF (by rfl) (y_move (c := .bool _) (by rfl)) ?_
      refine WS_det hF (by rfl) (y_move (c := .bool _) (by rfl)) ?_
      refine WS_split 26 (by rfl) (fun g10_1 => ?_) (fun g10_1 => ?_)
      ·
        try simp only [Bool.not_eq_true', Bool.not_eq_false', decide_eq_true_eq, decide_eq_false_iff_not, ne_eq, Classical.not_not, Int.not_lt, Int.not_le] at g10_1
        have hn1 : true = (D.take (k + 1)).contains ((i : Int) + 1) := by
          rw [hsn, List.contains_eq_mem]
          rw [g10_1, List.contains_eq_mem] at his
          simp only [Eq.comm (a := true), decide_eq_true_eq] at his ⊢
          exact List.mem_append_left _ his
        refine WS_no hF (by rfl) ?_
        refine WS_no hF (by rfl) ?_
        refine WS_no hF (by rfl) ?_
        refine WS_no hF (by rfl) ?_
        refine WS_no hF (by rfl) ?_
        refine WS_no hF (by rfl) ?_
        refine WS_no hF (by rfl) ?_
        refine WS_det hF (by rfl) (by first | exact y_pick_t (c := .bool _) (by rfl) (by rfl) | exact y_pick_f (c := .bool _) (by rfl) (by rfl)) ?_
        refine WS_det hF (by rfl) (y_assign (c := .bool _) (by rfl)) ?_
        refine WS_nil ?_
        refine InB_normal ?_
        refine Then_normal ?_
        refine W_region_lit (fun ds => ?_)
        refine WS_det hF (by rfl) (y_move (c := .int .i64 _) (by rfl)) ?_
        refine WS_det hF (by rfl) (y_add (by rfl) (by rfl) (by unfold I64; omega)) ?_
        refine WS_det hF (by rfl) (y_assign (c := .int .i64 _) (by rfl)) ?_
        refine WS_nil ?_
        exact Loop_next (k + 1, true) ⟨by omega, hn1⟩ (by repeat (first | exact trivial | refine ⟨by rfl, ?_⟩)) (by repeat (first | exact List.Sublist.refl _ | exact List.sublist_append_left _ _ | exact List.nil_sublist _ | apply List.Sublist.cons_cons | apply List.Sublist.cons | refine List.Sublist.trans ?_ (List.sublist_append_right _ _))) (by simp only; omega)
      ·
        try simp only [Bool.not_eq_true', Bool.not_eq_false', decide_eq_true_eq, decide_eq_false_iff_not, ne_eq, Classical.not_not, Int.not_lt, Int.not_le] at g10_1
        have hn2 : decide (D.getD k 0 = (i : Int) + 1) = (D.take (k + 1)).contains ((i : Int) + 1) := by
          rw [hsn, List.contains_eq_mem]
          rw [g10_1, List.contains_eq_mem] at his
          simp only [Eq.comm (a := false), decide_eq_false_iff_not] at his
          rw [decide_eq_decide, List.mem_append, List.mem_singleton]
          exact ⟨fun h => .inr h.symm, fun h => h.elim (fun h => absurd h his) Eq.symm⟩
        refine WS_det hF (by rfl) (y_move (c := .slice _ _ _) (by rfl)) ?_
        refine WS_det hF (by rfl) (y_move (c := .int .i64 _) (by rfl)) ?_
        refine WS_det hF (by rfl) (y_index (k := k) (by rfl) (by rfl) (by first | rfl | omega) (by first | decide | omega) Try.runUnderlying22 Try.sizeOf3) ?_
        refine WS_det hF (by rfl) (y_load1 (by rfl) Try.isAgg3 (by first | exact Mem.old1 (by assumption) | exact Mem.oldAt1 (by assumption) (by rfl) | exact Mem.old (by assumption) | exact Mem.oldAtL1 (by assumption) (by rfl) (by rfl))) ?_
        refine WS_det hF (by rfl) (y_move (c := .int .i64 _) (by rfl)) ?_
        refine WS_det hF (by rfl) (y_add (by rfl) (by rfl) (by unfold I64; omega)) ?_
        refine WS_det hF (by rfl) (y_eql (by rfl) (by rfl)) ?_
        refine WS_det hF (by rfl) (by first | exact y_pick_t (c := .bool _) (by rfl) (by rfl) | exact y_pick_f (c := .bool _) (by rfl) (by rfl)) ?_
        refine WS_det hF (by rfl) (y_assign (c := .bool _) (by rfl)) ?_
        refine WS_nil ?_
        refine InB_normal ?_
        refine Then_normal ?_
        refine W_region_lit (fun ds => ?_)
        refine WS_det hF (by rfl) (y_move (c := .int .i64 _) (by rfl)) ?_
        refine WS_det hF (by rfl) (y_add (by rfl) (by rfl) (by unfold I64; omega)) ?_
        refine WS_det hF (by rfl) (y_assign (c := .int .i64 _) (by rfl)) ?_
        refine WS_nil ?_
        exact Loop_next (k + 1, decide (D.getD k 0 = (i : Int) + 1)) ⟨by omega, hn2⟩ (by repeat (first | exact trivial | refine ⟨by rfl, ?_⟩)) (by repeat (first | exact List.Sublist.refl _ | exact List.sublist_append_left _ _ | exact List.nil_sublist _ | apply List.Sublist.cons_cons | apply List.Sublist.cons | refine List.Sublist.trans ?_ (List.sublist_append_right _ _))) (by simp only; omega)
    ·
      try simp only [Bool.not_eq_true', Bool.not_eq_false', decide_eq_true_eq, decide_eq_false_iff_not, ne_eq, Classical.not_not, Int.not_lt, Int.not_le] at c8
      obtain rfl : k = tn := by have : k ≤ tn := hk; omega
      have hkp : kpB D i = !is := by
        simp only at his
        rw [his, List.take_of_length_le (by omega)]; rfl
      refine W_exit ?_
      refine Then_exit ?_
      refine Loop_exit ?_
      refine InB_same ?_
      refine Then_normal ?_
      refine W_seq ?_
      refine W_region_lit (fun ds => ?_)
      refine WS_det hF (by rfl) (y_move (c := .bool _) (by rfl)) ?_
      refine WS_det hF (by rfl) (y_not (by rfl)) ?_
      refine WS_nil ?_
      refine Then_normal ?_
      refine W_cond (by rfl) (fun c11 => ?_) (fun c11 => ?_)
      ·
        try simp only [Bool.not_eq_true', Bool.not_eq_false', decide_eq_true_eq, decide_eq_false_iff_not, ne_eq, Classical.not_not, Int.not_lt, Int.not_le] at c11
        apply W_drawMT 8 hF Trymixed [] [] [] (by rfl) (by decide +kernel) (by decide) HSub.refl
        intro ds
        refine P_det (by rfl) (Over_nil (y_fieldAddr (by rfl) fa46_2)) ?_
        refine P_det (by rfl) (Over_nil (y_load1 (by rfl) Try.isAgg44 (Mem.own1 0 (by rfl) (by rfl)))) ?_
        refine P_det (by rfl) (Over_nil (y_fieldAddr (by rfl) fa46_2)) ?_
        refine P_det (by rfl) (Over_nil (y_load1 (by rfl) Try.isAgg44 (Mem.own1 2 (by rfl) (by rfl)))) ?_
        refine P_det (by rfl) (Over_nil (y_move (c := .int .i64 _) (by rfl))) ?_
        refine P_det (by rfl) (Over_nil (y_index (k := i) (by rfl) (by rfl) (by first | rfl | omega) (by first | decide | omega) Try.runUnderlying44 Try.sizeOf48)) ?_
        refine P_det (by rfl) (Over_nil (y_loadN (by rfl) Try.isAgg48 Try.sizeOf48 (by first | exact Mem.old (by assumption) | exact Mem.oldAt (us := [.int .i64 _, .int .i64 _, .int .i64 _, .int .i64 _]) (by assumption) (by rfl) | exact Mem.oldAtL (us := [.int .i64 _, .int .i64 _, .int .i64 _, .int .i64 _]) (by assumption) (by rfl) (by rfl)) (by rfl))) ?_
        refine P_new (by rfl) (by rfl) (Over_nil (y_buildSliceL bs44_1_0 (by rfl))) ?_
        refine PW_end (by rfl) ?_
        refine OverAll_cons (fun w44 l44 => ?_)
        refine OverAll_nil ?_
        rintro ⟨-, h44⟩
        obtain ⟨bx, rfl, rfl⟩ := h44
        refine WS_appendN hF (n' := (l.woK D i).es.length) (H1 := (_ :: _ :: _ :: _ :: H1)) (Hn := Hf) (by rfl) (by rfl) (by rfl) Try.underlying44 infEntry (by rfl) (by rfl) hrow (rowOf_len en_len _ _) (.inr ⟨_, _, rfl, Mem.own (us := [.int _ _, .int _ _, .int _ _, .int _ _]) 0 (by rfl) (by rfl)⟩) (by rfl) (by rfl) (by omega) (by omega) (by omega) ?_
        intro ra2 rcap2 Hf2 hrow2
        have hle : (l.woK D (i + 1)).es.length = (l.woK D i).es.length + 1 := by rw [l.woK_len, l.woK_len, kpK_succ, if_pos (by rw [hkp, c11]; rfl), List.length_append]; rfl
        have hrow3 : NewRow 48 4 (l.woK D (i + 1)).es.length (rowOf En.cells (l.woK D (i + 1)).e (l.woK D (i + 1)).es.length) (.slice ra2 (l.woK D (i + 1)).es.length rcap2) Hf2 := by
          rw [l.woK_e, if_pos (by rw [hkp, c11]; rfl), hle]
          exact hrow2
        refine WS_det hF (by rfl) (y_fieldAddr (by rfl) fa46_2) ?_
        refine WS_store hF (i := 1) (by rfl) (by rfl) Try.sizeOf44 (by rfl) (by rfl) (by rfl) (by first | decide | exact Nat.le_of_ble_eq_true rfl | simp) ?_
        refine WS_nil ?_
        refine InB_normal ?_
        refine Then_normal ?_
        refine W_region_lit (fun ds => ?_)
        refine WS_det hF (by rfl) (y_move (c := .int .i64 _) (by rfl)) ?_
        refine WS_det hF (by rfl) (y_add (by rfl) (by rfl) (by unfold I64; omega)) ?_
        refine WS_det hF (by rfl) (y_assign (c := .int .i64 _) (by rfl)) ?_
        refine WS_nil ?_
        exact Loop_next (i + 1, ra2, rcap2, Hf2) ⟨by omega, hrow3⟩ (by repeat (first | exact trivial | refine ⟨by rfl, ?_⟩)) (by rw [hle]; exact (by repeat (first | exact List.Sublist.refl _ | exact List.nil_sublist _ | apply List.Sublist.cons_cons | apply List.Sublist.cons))) (by simp only; omega)
      ·
        try simp only [Bool.not_eq_true', Bool.not_eq_false', decide_eq_true_eq, decide_eq_false_iff_not, ne_eq, Classical.not_not, Int.not_lt, Int.not_le] at c11
        have hkk : kpK D (i + 1) = kpK D i := by rw [kpK_succ, if_neg (by rw [hkp, c11]; exact Bool.false_ne_true)]
        have hww : l.woK D (i + 1) = l.woK D i := by unfold Lg.woK; rw [hkk]
        refine W_skip ?_
        refine InB_normal ?_
        refine Then_normal ?_
        refine W_region_lit (fun ds => ?_)
        refine WS_det hF (by rfl) (y_move (c := .int .i64 _) (by rfl)) ?_
        refine WS_det hF (by rfl) (y_add (by rfl) (by rfl) (by unfold I64; omega)) ?_
        refine WS_det hF (by rfl) (y_assign (c := .int .i64 _) (by rfl)) ?_
        refine WS_nil ?_
        exact Loop_next (i + 1, ra, rcap, Hf) ⟨by omega, by rw [hww]; exact hrow⟩ (by repeat (first | exact trivial | refine ⟨by rfl, ?_⟩)) (by rw [hww]; exact (by repeat (first | exact List.Sublist.refl _ | exact List.nil_sublist _ | apply List.Sublist.cons_cons | apply List.Sublist.cons))) (by simp only; omega)
  ·
    try simp only [Bool.not_eq_true', Bool.not_eq_false', decide_eq_true_eq, decide_eq_false_iff_not, ne_eq, Classical.not_not, Int.not_lt, Int.not_le] at c4
    refine W_exit ?_
    refine Then_exit ?_
    refine Loop_exit ?_
    refine InB_same ?_
    refine Then_normal ?_
    refine W_seq ?_
    refine W_region_lit (fun ds => ?_)
    refine WS_det hF (by rfl) (y_loadN (by rfl) Try.isAgg46 Try.sizeOf46 (Mem.own (us := [.slice _ _ _, .int .i64 _, .int .i64 _, .int .i64 _, .int .i64 _, .slice _ _ _]) 0 (by rfl) (by rfl)) (by rfl)) ?_
    refine WS_store hF (i := 1) (by rfl) (by rfl) Try.sizeOf46 (by rfl) (by rfl) (by rfl) (by first | decide | exact Nat.le_of_ble_eq_true rfl | simp) ?_
    refine WS_nil ?_
    refine Then_normal ?_
    refine W_ret ?_
    refine Fin_ret [_] (H1 ++ Hf) Try.results85 ⟨lvN (by rfl) Try.isAgg46 Try.sizeOf46 (Mem.own (us := [.slice _ _ _, .int .i64 _, .int .i64 _, .int .i64 _, .int .i64 _, .slice _ _ _]) 1 (by rfl) (by rfl)) (by rfl), trivial⟩ (HSub.sub (by repeat (first | exact List.Sublist.refl _ | exact List.sublist_append_left _ _ | exact List.nil_sublist _ | apply List.Sublist.cons_cons | apply List.Sublist.cons | refine List.Sublist.trans ?_ (List.sublist_append_right _ _)))) ?_
    obtain rfl : i = l.es.length := by have : i ≤ l.es.length := hi; omega
    exact ⟨a1, cap1, ra, rcap, H1, Hf, rfl, hr1, hrow, rfl⟩
end Go.Proofs.Ythkimgfgpphgnaa.T

/- The reference's changes: the walks of Strike and Before. -/
namespace Go.Proofs.Ythkimgfgpphgnaa.T
open Go.RowKit Go.Proofs Go.Eng
set_option maxRecDepth 100000
set_option linter.unusedVariables false
set_option linter.unusedSimpArgs false



theorem rstrike_any (l : Lg) (a : Option Addr) (cap : Nat) (ae : Option Addr) (cape : Nat) (ta : Option Addr) (tn tcap : Nat) (D : List Int) (w : World) (htn : tn ≤ 1000000) (hD : Ints w ta tn tcap D) (hn : l.tk.n ≤ 1000000) (hx : Ints w a l.tk.n cap l.tk.pints) (he : Ens w ae l.es.length cape l.es) : Ct Try.prog 29 #[.agg #[.slice a l.tk.n cap, .int .i64 l.tk.leak, .int .i64 l.tk.foot, .int .i64 l.start.lo, .int .i64 l.start.hi, .slice ae l.es.length cape], .slice ta tn tcap] w (StrikeV l D) := by
  have hDl := hD.len
  have hF := wide_wide
  refine Ct_start (args := [_, _]) Try.func29 (by rfl) Try.ntmps29 (by rfl) ?_
  refine W_seq ?_
  refine W_region_lit (fun ds => ?_)
  refine WS_new hF (by rfl) (y_box (by rfl)) (fun b1 => ?_)
  refine WS_new hF (by rfl) (y_alloc Try.zeroValue46 (by rfl)) (fun b2 => ?_)
  refine WS_det hF (by rfl) (y_assign (c := .int .i64 _) (by rfl)) ?_
  refine WS_nil ?_
  refine Then_normal ?_
  refine W_seq ?_
  refine W_seq ?_
  refine W_region_lit (fun ds => ?_)
  refine WS_det hF (by rfl) (y_loadN (by rfl) Try.isAgg46 Try.sizeOf46 (Mem.own (us := [.slice _ _ _, .int .i64 _, .int .i64 _, .int .i64 _, .int .i64 _, .slice _ _ _]) 1 (by rfl) (by rfl)) (by rfl)) ?_
  refine WS_det hF (by rfl) (y_callL (by rfl) (by rfl) Try.call46 (fun w hw => rvalid_any l a cap ae cape w hn (hx.st w hw) (he.st w hw))) ?_
  refine WS_det hF (by rfl) (y_assign (c := .int .i64 _) (by rfl)) ?_
  refine WS_nil ?_
  refine Then_normal ?_
  refine W_seq ?_
  refine W_region_lit (fun ds => ?_)
  refine WS_det hF (by rfl) (y_move (c := .int .i64 _) (by rfl)) ?_
  refine WS_det hF (by rfl) (y_neq (by rfl) (by rfl)) ?_
  refine WS_nil ?_
  refine Then_normal ?_
  refine W_cond (by rfl) (fun c2 => ?_) (fun c2 => ?_)
  ·
    try simp only [Bool.not_eq_true', Bool.not_eq_false', decide_eq_true_eq, decide_eq_false_iff_not, ne_eq, Classical.not_not, Int.not_lt, Int.not_le] at c2
    refine W_seq ?_
    refine W_region_lit (fun ds => ?_)
    refine WS_det hF (by rfl) (y_buildL bd46 (by rfl)) ?_
    refine WS_det hF (by rfl) (y_move (c := .int .i64 _) (by rfl)) ?_
    refine WS_store hF (i := 0) (by rfl) (by rfl) Try.sizeOf46 (by rfl) (by rfl) (by rfl) (by first | decide | exact Nat.le_of_ble_eq_true rfl | simp) ?_
    refine WS_det hF (by rfl) (y_assign (c := .int .i64 _) (by rfl)) ?_
    refine WS_nil ?_
    refine Then_normal ?_
    refine W_ret ?_
    refine Then_ret ?_
    refine Fin_ret [_, .int .i64 _] [] Try.results29 ⟨lvN (by rfl) Try.isAgg46 Try.sizeOf46 (Mem.own (us := [.slice _ _ _, .int .i64 _, .int .i64 _, .int .i64 _, .int .i64 _, .slice _ _ _]) 0 (by rfl) (by rfl)) (by rfl), by rfl, trivial⟩ HSub.nil ?_
    have hE : l.strE D = l.err := if_neg c2
    exact ⟨zeroLg, by rw [hE]; rfl, fun _ => ⟨rfl, rfl⟩, fun h => absurd (hE ▸ h) c2⟩
  ·
    try simp only [Bool.not_eq_true', Bool.not_eq_false', decide_eq_true_eq, decide_eq_false_iff_not, ne_eq, Classical.not_not, Int.not_lt, Int.not_le] at c2
    have hok := l.ok_of c2
    have hn12 := hok.n12
    have hn2 := hok.tk.n2
    refine W_skip ?_
    refine Then_normal ?_
    refine W_seq ?_
    refine W_seq ?_
    refine W_region_lit (fun ds => ?_)
    refine WS_det hF (by rfl) (y_assign (c := .int .i64 _) (by rfl)) ?_
    refine WS_nil ?_
    refine Then_normal ?_
    refine W_block ?_
    refine W_loop (γ := Nat) (fun k => k ≤ tn ∧ ∀ j, j < k → okT l.es.length D j = true) (fun k => [(1, .slice ta tn tcap), (2, .pointer (some ⟨b1, 0, none⟩)), (4, .pointer (some ⟨b2, 0, none⟩)), (7, .int .i64 (k : Int))]) (fun _ => _) (fun k => tn - k) (0) ⟨Nat.zero_le _, fun j hj => absurd hj (by omega)⟩ (by repeat (first | exact trivial | refine ⟨by rfl, ?_⟩)) (List.Sublist.refl _) ?_
    rintro k e ⟨hk, hp⟩
    refine W_seq ?_
    refine W_seq ?_
    refine W_region_lit (fun ds => ?_)
    refine WS_det hF (by rfl) (y_move (c := .int .i64 _) (by rfl)) ?_
    refine WS_det hF (by rfl) (y_move (c := .slice _ _ _) (by rfl)) ?_
    refine WS_det hF (by rfl) (y_len (by rfl) Try.runUnderlying22) ?_
    refine WS_det hF (by rfl) (y_lss (by rfl) (by rfl)) ?_
    refine WS_nil ?_
    refine Then_normal ?_
    refine W_cond (by rfl) (fun c5 => ?_) (fun c5 => ?_)
    ·
      try simp only [Bool.not_eq_true', Bool.not_eq_false', decide_eq_true_eq, decide_eq_false_iff_not, ne_eq, Classical.not_not, Int.not_lt, Int.not_le] at c5
      obtain ⟨tb, to, rfl, htc⟩ := hD.cell k (by omega)
      have hpb := prev_bd (n := l.es.length) (D := D) (by omega) k hp
      have hpv : (k = 0 ∧ prevD D k = 0) ∨ (0 < k ∧ prevD D k = D.getD (k - 1) 0) := by
        cases k with
        | zero => exact .inl ⟨rfl, rfl⟩
        | succ k => exact .inr ⟨Nat.succ_pos _, rfl⟩
      have htp : 0 < k → At w tb (to + (k - 1) * 1) [.int .i64 (D.getD (k - 1) 0)] := fun h => hD.at (k := k - 1) (by omega)
      refine W_skip ?_
      refine Then_normal ?_
      refine W_seq ?_
      refine W_block ?_
      refine W_seq ?_
      refine W_draw0 hF Trymixed [] (by decide +kernel) (fun ds => ?_)
      refine P_det (by rfl) (Over_nil (y_move (c := .slice _ _ _) (by rfl))) ?_
      refine P_det (by rfl) (Over_nil (y_move (c := .int .i64 _) (by rfl))) ?_
      refine P_det (by rfl) (Over_nil (y_index (k := k) (by rfl) (by rfl) (by first | rfl | omega) (by first | decide | omega) Try.runUnderlying22 Try.sizeOf3)) ?_
      refine P_det (by rfl) (Over_nil (y_load1 (by rfl) Try.isAgg3 (by first | exact Mem.old1 (by assumption) | exact Mem.oldAt1 (by assumption) (by rfl) | exact Mem.old (by assumption) | exact Mem.oldAtL1 (by assumption) (by rfl) (by rfl)))) ?_
      refine P_det (by rfl) (Over_nil (y_fieldAddr (by rfl) fa46_2)) ?_
      refine P_det (by rfl) (Over_nil (y_load1 (by rfl) Try.isAgg44 (Mem.own1 1 (by rfl) (by rfl)))) ?_
      refine P_det (by rfl) (Over_nil (y_len (by rfl) Try.runUnderlying44)) ?_
      refine P_det (by rfl) (Over_nil (y_callL (by rfl) (by rfl) Try.call68 (fun w hw => within_any _ _ _ w))) ?_
      refine P_det (by rfl) (Over_nil (y_not (by rfl))) ?_
      refine P_det (by rfl) (Over_nil (y_move (c := .bool _) (by rfl))) ?_
      refine P_split 29 (by rfl) (fun g7_9 => ?_) (fun g7_9 => ?_)
      ·
        try simp only [Bool.not_eq_true', Bool.not_eq_false', decide_eq_true_eq, decide_eq_false_iff_not, ne_eq, Classical.not_not, Int.not_lt, Int.not_le] at g7_9
        have hw1 := inB1f.1 g7_9
        refine P_no (by rfl) ?_
        refine P_no (by rfl) ?_
        refine P_no (by rfl) ?_
        refine P_no (by rfl) ?_
        refine P_no (by rfl) ?_
        refine P_no (by rfl) ?_
        refine P_no (by rfl) ?_
        refine P_no (by rfl) ?_
        refine P_no (by rfl) ?_
        refine P_no (by rfl) ?_
        refine P_no (by rfl) ?_
        refine P_no (by rfl) ?_
        refine P_no (by rfl) ?_
        refine P_no (by rfl) ?_
        refine P_det (by rfl) (Over_nil (by first | exact y_pick_t (c := .bool _) (by rfl) (by rfl) | exact y_pick_f (c := .bool _) (by rfl) (by rfl))) ?_
        refine PW_end (by rfl) ?_
        refine OverAll_nil ?_
        rintro -
        refine Then_normal ?_
        refine W_cond (by rfl) (fun c7 => ?_) (fun c7 => ?_)
        ·
          try simp only [Bool.not_eq_true', Bool.not_eq_false', decide_eq_true_eq, decide_eq_false_iff_not, ne_eq, Classical.not_not, Int.not_lt, Int.not_le] at c7
          have hE : l.strE D = 32 := Lg.strE_no c2 (k := k) (by omega) (inB1f.2 (by omega))
          refine W_seq ?_
          refine W_region_lit (fun ds => ?_)
          refine WS_det hF (by rfl) (y_buildL bd46 (by rfl)) ?_
          refine WS_store hF (i := 0) (by rfl) (by rfl) Try.sizeOf46 (by rfl) (by rfl) (by rfl) (by first | decide | exact Nat.le_of_ble_eq_true rfl | simp) ?_
          refine WS_det hF (by rfl) (y_assign (c := .int .i64 _) (by rfl)) ?_
          refine WS_nil ?_
          refine Then_normal ?_
          refine W_ret ?_
          refine InB_ret ?_
          refine Then_ret ?_
          refine Loop_ret ?_
          refine InB_ret ?_
          refine Then_ret ?_
          refine Fin_ret [_, .int .i64 _] [] Try.results29 ⟨lvN (by rfl) Try.isAgg46 Try.sizeOf46 (Mem.own (us := [.slice _ _ _, .int .i64 _, .int .i64 _, .int .i64 _, .int .i64 _, .slice _ _ _]) 0 (by rfl) (by rfl)) (by rfl), by rfl, trivial⟩ HSub.nil ?_
          exact ⟨zeroLg, by rw [hE]; rfl, fun _ => ⟨rfl, rfl⟩, fun h => absurd (hE ▸ h) (by decide)⟩
        · cases c7
      ·
        try simp only [Bool.not_eq_true', Bool.not_eq_false', decide_eq_true_eq, decide_eq_false_iff_not, ne_eq, Classical.not_not, Int.not_lt, Int.not_le] at g7_9
        have hw1 := inB1.1 g7_9
        refine P_det (by rfl) (Over_nil (y_move (c := .int .i64 _) (by rfl))) ?_
        refine P_det (by rfl) (Over_nil (y_gtr (by rfl) (by rfl))) ?_
        refine P_det (by rfl) (Over_nil (y_move (c := .bool _) (by rfl))) ?_
        refine P_split 32 (by rfl) (fun g7_12 => ?_) (fun g7_12 => ?_)
        ·
          try simp only [Bool.not_eq_true', Bool.not_eq_false', decide_eq_true_eq, decide_eq_false_iff_not, ne_eq, Classical.not_not, Int.not_lt, Int.not_le] at g7_12
          have htp2 := htp (by omega)
          refine P_det (by rfl) (Over_nil (y_move (c := .slice _ _ _) (by rfl))) ?_
          refine P_det (by rfl) (Over_nil (y_move (c := .int .i64 _) (by rfl))) ?_
          refine P_det (by rfl) (Over_nil (y_sub (by rfl) (by rfl) (by unfold I64; omega))) ?_
          refine P_det (by rfl) (Over_nil (y_index (k := k - 1) (by rfl) (by rfl) (by first | rfl | omega) (by first | decide | omega) Try.runUnderlying22 Try.sizeOf3)) ?_
          refine P_det (by rfl) (Over_nil (y_load1 (by rfl) Try.isAgg3 (by first | exact Mem.old1 (by assumption) | exact Mem.oldAt1 (by assumption) (by rfl) | exact Mem.old (by assumption) | exact Mem.oldAtL1 (by assumption) (by rfl) (by rfl)))) ?_
          refine P_det (by rfl) (Over_nil (y_move (c := .slice _ _ _) (by rfl))) ?_
          refine P_det (by rfl) (Over_nil (y_move (c := .int .i64 _) (by rfl))) ?_
          refine P_det (by rfl) (Over_nil (y_index (k := k) (by rfl) (by rfl) (by first | rfl | omega) (by first | decide | omega) Try.runUnderlying22 Try.sizeOf3)) ?_
          refine P_det (by rfl) (Over_nil (y_load1 (by rfl) Try.isAgg3 (by first | exact Mem.old1 (by assumption) | exact Mem.oldAt1 (by assumption) (by rfl) | exact Mem.old (by assumption) | exact Mem.oldAtL1 (by assumption) (by rfl) (by rfl)))) ?_
          refine P_det (by rfl) (Over_nil (y_geq (by rfl) (by rfl))) ?_
          refine P_det (by rfl) (Over_nil (by first | exact y_pick_t (c := .bool _) (by rfl) (by rfl) | exact y_pick_f (c := .bool _) (by rfl) (by rfl))) ?_
          refine P_det (by rfl) (Over_nil (by first | exact y_pick_t (c := .bool _) (by rfl) (by rfl) | exact y_pick_f (c := .bool _) (by rfl) (by rfl))) ?_
          refine PW_end (by rfl) ?_
          refine OverAll_nil ?_
          rintro -
          refine Then_normal ?_
          refine W_cond (by rfl) (fun c7 => ?_) (fun c7 => ?_)
          ·
            try simp only [Bool.not_eq_true', Bool.not_eq_false', decide_eq_true_eq, decide_eq_false_iff_not, ne_eq, Classical.not_not, Int.not_lt, Int.not_le] at c7
            have hE : l.strE D = 32 := Lg.strE_no c2 (k := k) (by omega) (inB1f.2 (by omega))
            refine W_seq ?_
            refine W_region_lit (fun ds => ?_)
            refine WS_det hF (by rfl) (y_buildL bd46 (by rfl)) ?_
            refine WS_store hF (i := 0) (by rfl) (by rfl) Try.sizeOf46 (by rfl) (by rfl) (by rfl) (by first | decide | exact Nat.le_of_ble_eq_true rfl | simp) ?_
            refine WS_det hF (by rfl) (y_assign (c := .int .i64 _) (by rfl)) ?_
            refine WS_nil ?_
            refine Then_normal ?_
            refine W_ret ?_
            refine InB_ret ?_
            refine Then_ret ?_
            refine Loop_ret ?_
            refine InB_ret ?_
            refine Then_ret ?_
            refine Fin_ret [_, .int .i64 _] [] Try.results29 ⟨lvN (by rfl) Try.isAgg46 Try.sizeOf46 (Mem.own (us := [.slice _ _ _, .int .i64 _, .int .i64 _, .int .i64 _, .int .i64 _, .slice _ _ _]) 0 (by rfl) (by rfl)) (by rfl), by rfl, trivial⟩ HSub.nil ?_
            exact ⟨zeroLg, by rw [hE]; rfl, fun _ => ⟨rfl, rfl⟩, fun h => absurd (hE ▸ h) (by decide)⟩
          ·
            try simp only [Bool.not_eq_true', Bool.not_eq_false', decide_eq_true_eq, decide_eq_false_iff_not, ne_eq, Classical.not_not, Int.not_lt, Int.not_le] at c7
            have hp2 : ∀ j, j < k + 1 → okT l.es.length D j = true := fun j hj => by
              obtain hj | rfl : j < k ∨ j = k := by omega
              · exact hp j hj
              · exact inB1.2 (by omega)
            refine W_skip ?_
            refine InB_normal ?_
            refine Then_normal ?_
            refine W_region_lit (fun ds => ?_)
            refine WS_det hF (by rfl) (y_move (c := .int .i64 _) (by rfl)) ?_
            refine WS_det hF (by rfl) (y_add (by rfl) (by rfl) (by unfold I64; omega)) ?_
            refine WS_det hF (by rfl) (y_assign (c := .int .i64 _) (by rfl)) ?_
            refine WS_nil ?_
            exact Loop_next (k + 1) ⟨by omega, hp2⟩ (by repeat (first | exact trivial | refine ⟨by rfl, ?_⟩)) (by repeat (first | exact List.Sublist.refl _ | exact List.nil_sublist _ | apply List.Sublist.cons_cons | apply List.Sublist.cons)) (by omega)
        ·
          try simp only [Bool.not_eq_true', Bool.not_eq_false', decide_eq_true_eq, decide_eq_false_iff_not, ne_eq, Classical.not_not, Int.not_lt, Int.not_le] at g7_12
          refine P_no (by rfl) ?_
          refine P_no (by rfl) ?_
          refine P_no (by rfl) ?_
          refine P_no (by rfl) ?_
          refine P_no (by rfl) ?_
          refine P_no (by rfl) ?_
          refine P_no (by rfl) ?_
          refine P_no (by rfl) ?_
          refine P_no (by rfl) ?_
          refine P_no (by rfl) ?_
          refine P_det (by rfl) (Over_nil (by first | exact y_pick_t (c := .bool _) (by rfl) (by rfl) | exact y_pick_f (c := .bool _) (by rfl) (by rfl))) ?_
          refine P_det (by rfl) (Over_nil (by first | exact y_pick_t (c := .bool _) (by rfl) (by rfl) | exact y_pick_f (c := .bool _) (by rfl) (by rfl))) ?_
          refine PW_end (by rfl) ?_
          refine OverAll_nil ?_
          rintro -
          refine Then_normal ?_
          refine W_cond (by rfl) (fun c7 => ?_) (fun c7 => ?_)
          · cases c7
          ·
            try simp only [Bool.not_eq_true', Bool.not_eq_false', decide_eq_true_eq, decide_eq_false_iff_not, ne_eq, Classical.not_not, Int.not_lt, Int.not_le] at c7
            have hp2 : ∀ j, j < k + 1 → okT l.es.length D j = true := fun j hj => by
              obtain hj | rfl : j < k ∨ j = k := by omega
              · exact hp j hj
              · exact inB1.2 (by omega)
            refine W_skip ?_
            refine InB_normal ?_
            refine Then_normal ?_
            refine W_region_lit (fun ds => ?_)
            refine WS_det hF (by rfl) (y_move (c := .int .i64 _) (by rfl)) ?_
            refine WS_det hF (by rfl) (y_add (by rfl) (by rfl) (by unfold I64; omega)) ?_
            refine WS_det hF (by rfl) (y_assign (c := .int .i64 _) (by rfl)) ?_
            refine WS_nil ?_
            exact Loop_next (k + 1) ⟨by omega, hp2⟩ (by repeat (first | exact trivial | refine ⟨by rfl, ?_⟩)) (by repeat (first | exact List.Sublist.refl _ | exact List.nil_sublist _ | apply List.Sublist.cons_cons | apply List.Sublist.cons)) (by omega)
    ·
      try simp only [Bool.not_eq_true', Bool.not_eq_false', decide_eq_true_eq, decide_eq_false_iff_not, ne_eq, Classical.not_not, Int.not_lt, Int.not_le] at c5
      refine W_exit ?_
      refine Then_exit ?_
      refine Loop_exit ?_
      refine InB_same ?_
      refine Then_normal ?_
      refine W_seq ?_
      refine W_region_lit (fun ds => ?_)
      refine WS_det hF (by rfl) (y_loadN (by rfl) Try.isAgg46 Try.sizeOf46 (Mem.own (us := [.slice _ _ _, .int .i64 _, .int .i64 _, .int .i64 _, .int .i64 _, .slice _ _ _]) 1 (by rfl) (by rfl)) (by rfl)) ?_
      refine WS_det hF (by rfl) (y_move (c := .slice _ _ _) (by rfl)) ?_
      refine WS_gen hF (by rfl) (y_callL (by rfl) (by rfl) Try.call85 (fun w hw => rwithout_any l a cap ae cape ta tn tcap D w (by omega) htn (hD.st w hw) hn (hx.st w hw) (he.st w hw))) ?_
      rintro _ Ht hT
      have hT2 := hT
      obtain ⟨a1, cap1, a2, cap2, H3, H4, rfl, hr1, hr2, rfl⟩ := hT
      refine WS_back ?_
      refine WS_store hF (i := 0) (by rfl) (by rfl) Try.sizeOf46 (by rfl) (by rfl) (by rfl) (by first | decide | exact Nat.le_of_ble_eq_true rfl | simp) ?_
      refine WS_det hF (by rfl) (y_assign (c := .int .i64 _) (by rfl)) ?_
      refine WS_nil ?_
      refine Then_normal ?_
      refine W_ret ?_
      refine Fin_ret [_, .int .i64 _] (H3 ++ H4) Try.results29 ⟨lvN (by rfl) Try.isAgg46 Try.sizeOf46 (Mem.own (us := [.slice _ _ _, .int .i64 _, .int .i64 _, .int .i64 _, .int .i64 _, .slice _ _ _]) 0 (by rfl) (by rfl)) (by rfl), by rfl, trivial⟩ (HSub.sub (by repeat (first | exact List.Sublist.refl _ | exact List.sublist_append_left _ _ | exact List.nil_sublist _ | apply List.Sublist.cons_cons | apply List.Sublist.cons | refine List.Sublist.trans ?_ (List.sublist_append_right _ _)))) ?_
      have hE : l.strE D = 0 := Lg.strE_ok c2 fun j hj => hp j (by omega)
      exact ⟨_, by rw [hE]; rfl, fun h => absurd hE h, fun _ => hT2⟩
def lexB : List Int → List Int → Bool
  | x :: xs, y :: ys => if x = y then lexB xs ys else decide (x < y)
  | _, _ => false
/-- Shorter ones first, then the first number that differs. -/
def befB (xs ys : List Int) : Bool := if xs.length = ys.length then lexB xs ys else decide (xs.length < ys.length)
theorem lexB_at : ∀ (k : Nat) (xs ys : List Int), k < xs.length → k < ys.length → (∀ j, j < k → xs.getD j 0 = ys.getD j 0) → xs.getD k 0 ≠ ys.getD k 0 → lexB xs ys = decide (xs.getD k 0 < ys.getD k 0)
  | 0, x :: xs, y :: ys, _, _, _, h => by unfold lexB; rw [if_neg (by simpa using h)]; rfl
  | k + 1, x :: xs, y :: ys, h1, h2, h3, h4 => by
    unfold lexB
    rw [if_pos (by simpa using h3 0 (by omega))]
    exact lexB_at k xs ys (by simpa using h1) (by simpa using h2) (fun j hj => by simpa using h3 (j + 1) (by omega)) (by simpa using h4)
theorem lexB_same : ∀ (xs : List Int), lexB xs xs = false
  | [] => rfl
  | x :: xs => by unfold lexB; rw [if_pos rfl]; exact lexB_same xs
theorem ext_getD {xs ys : List Int} (hl : xs.length = ys.length) (h : ∀ j, j < xs.length → xs.getD j 0 = ys.getD j 0) : xs = ys := by
  refine List.ext_getElem hl fun j h1 h2 => ?_
  have := h j h1
  simpa [List.getD_eq_getElem?_getD, h1, h2] using this
theorem rbefore_any (a b : Option Addr) (n m cap cap' : Nat) (xs ys : List Int) (w : World) (hn : n ≤ 1000000) (hm : m ≤ 1000000) (hx : Ints w a n cap xs) (hy : Ints w b m cap' ys) :
    Ct Try.prog 83 #[.slice a n cap, .slice b m cap'] w fun v _ => v = .bool (befB xs ys) := by
  have hxl := hx.len
  have hyl := hy.len
  have hF := wide_wide
  refine Ct_start (args := [_, _]) Try.func83 (by rfl) Try.ntmps83 (by rfl) ?_
  refine W_seq ?_
  refine W_region_lit (fun ds => ?_)
  refine WS_det hF (by rfl) (y_assign (c := .bool _) (by rfl)) ?_
  refine WS_nil ?_
  refine Then_normal ?_
  refine W_seq ?_
  refine W_seq ?_
  refine W_region_lit (fun ds => ?_)
  refine WS_det hF (by rfl) (y_move (c := .slice _ _ _) (by rfl)) ?_
  refine WS_det hF (by rfl) (y_len (by rfl) Try.runUnderlying22) ?_
  refine WS_det hF (by rfl) (y_move (c := .slice _ _ _) (by rfl)) ?_
  refine WS_det hF (by rfl) (y_len (by rfl) Try.runUnderlying22) ?_
  refine WS_det hF (by rfl) (y_neq (by rfl) (by rfl)) ?_
  refine WS_nil ?_
  refine Then_normal ?_
  refine W_cond (by rfl) (fun c1 => ?_) (fun c1 => ?_)
  ·
    try simp only [Bool.not_eq_true', Bool.not_eq_false', decide_eq_true_eq, decide_eq_false_iff_not, ne_eq, Classical.not_not, Int.not_lt, Int.not_le] at c1
    refine W_seq ?_
    refine W_region_lit (fun ds => ?_)
    refine WS_det hF (by rfl) (y_move (c := .slice _ _ _) (by rfl)) ?_
    refine WS_det hF (by rfl) (y_len (by rfl) Try.runUnderlying22) ?_
    refine WS_det hF (by rfl) (y_move (c := .slice _ _ _) (by rfl)) ?_
    refine WS_det hF (by rfl) (y_len (by rfl) Try.runUnderlying22) ?_
    refine WS_det hF (by rfl) (y_lss (by rfl) (by rfl)) ?_
    refine WS_det hF (by rfl) (y_assign (c := .bool _) (by rfl)) ?_
    refine WS_nil ?_
    refine Then_normal ?_
    refine W_ret ?_
    refine Then_ret ?_
    refine Fin_ret [.bool _] [] Try.results83 ⟨by rfl, trivial⟩ HSub.nil ?_
    show Value.bool _ = _
    unfold befB
    rw [if_neg (by omega), hxl, hyl]
    congr 1
    simp
  ·
    try simp only [Bool.not_eq_true', Bool.not_eq_false', decide_eq_true_eq, decide_eq_false_iff_not, ne_eq, Classical.not_not, Int.not_lt, Int.not_le] at c1
    obtain rfl : n = m := by omega
    refine W_skip ?_
    refine Then_normal ?_
    refine W_seq ?_
    refine W_seq ?_
    refine W_region_lit (fun ds => ?_)
    refine WS_det hF (by rfl) (y_assign (c := .int .i64 _) (by rfl)) ?_
    refine WS_nil ?_
    refine Then_normal ?_
    refine W_block ?_
    refine W_loop (γ := Nat) (fun k => k ≤ n ∧ ∀ j, j < k → xs.getD j 0 = ys.getD j 0) (fun k => [(0, .slice a n cap), (1, .slice b n cap'), (5, .int .i64 (k : Int))]) (fun _ => _) (fun k => n - k) (0) ⟨Nat.zero_le _, fun j hj => absurd hj (by omega)⟩ (by repeat (first | exact trivial | refine ⟨by rfl, ?_⟩)) (List.Sublist.refl _) ?_
    rintro k e ⟨hk, hp⟩
    refine W_seq ?_
    refine W_seq ?_
    refine W_region_lit (fun ds => ?_)
    refine WS_det hF (by rfl) (y_move (c := .int .i64 _) (by rfl)) ?_
    refine WS_det hF (by rfl) (y_move (c := .slice _ _ _) (by rfl)) ?_
    refine WS_det hF (by rfl) (y_len (by rfl) Try.runUnderlying22) ?_
    refine WS_det hF (by rfl) (y_lss (by rfl) (by rfl)) ?_
    refine WS_nil ?_
    refine Then_normal ?_
    refine W_cond (by rfl) (fun c4 => ?_) (fun c4 => ?_)
    ·
      try simp only [Bool.not_eq_true', Bool.not_eq_false', decide_eq_true_eq, decide_eq_false_iff_not, ne_eq, Classical.not_not, Int.not_lt, Int.not_le] at c4
      obtain ⟨ab, ao, rfl, hac⟩ := hx.cell k (by omega)
      obtain ⟨bb, bo, rfl, hbc⟩ := hy.cell k (by omega)
      refine W_skip ?_
      refine Then_normal ?_
      refine W_seq ?_
      refine W_block ?_
      refine W_seq ?_
      refine W_draw0 hF Trymixed [] (by decide +kernel) (fun ds => ?_)
      refine P_det (by rfl) (Over_nil (y_move (c := .slice _ _ _) (by rfl))) ?_
      refine P_det (by rfl) (Over_nil (y_move (c := .int .i64 _) (by rfl))) ?_
      refine P_det (by rfl) (Over_nil (y_index (k := k) (by rfl) (by rfl) (by first | rfl | omega) (by first | decide | omega) Try.runUnderlying22 Try.sizeOf3)) ?_
      refine P_det (by rfl) (Over_nil (y_load1 (by rfl) Try.isAgg3 (by first | exact Mem.old1 (by assumption) | exact Mem.oldAt1 (by assumption) (by rfl) | exact Mem.old (by assumption) | exact Mem.oldAtL1 (by assumption) (by rfl) (by rfl)))) ?_
      refine P_det (by rfl) (Over_nil (y_move (c := .slice _ _ _) (by rfl))) ?_
      refine P_det (by rfl) (Over_nil (y_move (c := .int .i64 _) (by rfl))) ?_
      refine P_det (by rfl) (Over_nil (y_index (k := k) (by rfl) (by rfl) (by first | rfl | omega) (by first | decide | omega) Try.runUnderlying22 Try.sizeOf3)) ?_
      refine P_det (by rfl) (Over_nil (y_load1 (by rfl) Try.isAgg3 (by first | exact Mem.old1 (by assumption) | exact Mem.oldAt1 (by assumption) (by rfl) | exact Mem.old (by assumption) | exact Mem.oldAtL1 (by assumption) (by rfl) (by rfl)))) ?_
      refine P_det (by rfl) (Over_nil (y_neq (by rfl) (by rfl))) ?_
      refine PW_end (by rfl) ?_
      refine OverAll_nil ?_
      rintro -
      refine Then_normal ?_
      refine W_cond (by rfl) (fun c6 => ?_) (fun c6 => ?_)
      ·
        try simp only [Bool.not_eq_true', Bool.not_eq_false', decide_eq_true_eq, decide_eq_false_iff_not, ne_eq, Classical.not_not, Int.not_lt, Int.not_le] at c6
        refine W_seq ?_
        refine W_draw0 hF Trymixed [] (by decide +kernel) (fun ds => ?_)
        refine P_det (by rfl) (Over_nil (y_move (c := .slice _ _ _) (by rfl))) ?_
        refine P_det (by rfl) (Over_nil (y_move (c := .int .i64 _) (by rfl))) ?_
        refine P_det (by rfl) (Over_nil (y_index (k := k) (by rfl) (by rfl) (by first | rfl | omega) (by first | decide | omega) Try.runUnderlying22 Try.sizeOf3)) ?_
        refine P_det (by rfl) (Over_nil (y_load1 (by rfl) Try.isAgg3 (by first | exact Mem.old1 (by assumption) | exact Mem.oldAt1 (by assumption) (by rfl) | exact Mem.old (by assumption) | exact Mem.oldAtL1 (by assumption) (by rfl) (by rfl)))) ?_
        refine P_det (by rfl) (Over_nil (y_move (c := .slice _ _ _) (by rfl))) ?_
        refine P_det (by rfl) (Over_nil (y_move (c := .int .i64 _) (by rfl))) ?_
        refine P_det (by rfl) (Over_nil (y_index (k := k) (by rfl) (by rfl) (by first | rfl | omega) (by first | decide | omega) Try.runUnderlying22 Try.sizeOf3)) ?_
        refine P_det (by rfl) (Over_nil (y_load1 (by rfl) Try.isAgg3 (by first | exact Mem.old1 (by assumption) | exact Mem.oldAt1 (by assumption) (by rfl) | exact Mem.old (by assumption) | exact Mem.oldAtL1 (by assumption) (by rfl) (by rfl)))) ?_
        refine P_det (by rfl) (Over_nil (y_lss (by rfl) (by rfl))) ?_
        refine P_det (by rfl) (Over_nil (y_assign (c := .bool _) (by rfl))) ?_
        refine PW_end (by rfl) ?_
        refine OverAll_nil ?_
        rintro -
        refine Then_normal ?_
        refine W_ret ?_
        refine InB_ret ?_
        refine Then_ret ?_
        refine Loop_ret ?_
        refine InB_ret ?_
        refine Then_ret ?_
        refine Fin_ret [.bool _] [] Try.results83 ⟨by rfl, trivial⟩ HSub.nil ?_
        show Value.bool _ = _
        unfold befB
        rw [if_pos (by omega), lexB_at k xs ys (by omega) (by omega) hp c6]
      ·
        try simp only [Bool.not_eq_true', Bool.not_eq_false', decide_eq_true_eq, decide_eq_false_iff_not, ne_eq, Classical.not_not, Int.not_lt, Int.not_le] at c6
        have hp2 : ∀ j, j < k + 1 → xs.getD j 0 = ys.getD j 0 := fun j hj => by
          obtain hj | rfl : j < k ∨ j = k := by omega
          · exact hp j hj
          · exact c6
        refine W_skip ?_
        refine InB_normal ?_
        refine Then_normal ?_
        refine W_region_lit (fun ds => ?_)
        refine WS_det hF (by rfl) (y_move (c := .int .i64 _) (by rfl)) ?_
        refine WS_det hF (by rfl) (y_add (by rfl) (by rfl) (by unfold I64; omega)) ?_
        refine WS_det hF (by rfl) (y_assign (c := .int .i64 _) (by rfl)) ?_
        refine WS_nil ?_
        exact Loop_next (k + 1) ⟨by omega, hp2⟩ (by repeat (first | exact trivial | refine ⟨by rfl, ?_⟩)) (by repeat (first | exact List.Sublist.refl _ | exact List.nil_sublist _ | apply List.Sublist.cons_cons | apply List.Sublist.cons)) (by omega)
    ·
      try simp only [Bool.not_eq_true', Bool.not_eq_false', decide_eq_true_eq, decide_eq_false_iff_not, ne_eq, Classical.not_not, Int.not_lt, Int.not_le] at c4
      refine W_exit ?_
      refine Then_exit ?_
      refine Loop_exit ?_
      refine InB_same ?_
      refine Then_normal ?_
      refine W_seq ?_
      refine W_region_lit (fun ds => ?_)
      refine WS_det hF (by rfl) (y_assign (c := .bool _) (by rfl)) ?_
      refine WS_nil ?_
      refine Then_normal ?_
      refine W_ret ?_
      refine Fin_ret [.bool _] [] Try.results83 ⟨by rfl, trivial⟩ HSub.nil ?_
      show Value.bool _ = _
      obtain rfl : k = n := by omega
      rw [show xs = ys from ext_getD (by omega) fun j hj => hp j (by omega)]
      unfold befB
      rw [if_pos rfl, lexB_same]
end Go.Proofs.Ythkimgfgpphgnaa.T

/- The reference's dips that must be false: the walk of Wrong. -/
namespace Go.Eng
section
variable {C : Ctx} {e : Env} {H : List Blk} {d : Option Tmp} {ty : TypeId} {pos : String} {af : Array Edge} {g : Option (Nat × Bool)} {x y : Operand} {t t' : TypeId} {m i : Nat}
theorem y_bit (hx : ev e x = .int .i64 (m : Int)) (hy : ev e y = .int .i64 1) (hm : m < 1000000000) : YD C ⟨d, .binOp .and t x y t', ty, pos, af, g⟩ e H (.int .i64 ((m % 2 : Nat) : Int)) := yd_of fun w _ => by
  have h1 : (BitVec.ofInt 64 (m : Int)).toNat = m := by
    rw [BitVec.ofInt_natCast, BitVec.toNat_ofNat]; exact Nat.mod_eq_of_lt (by omega)
  have h2 : (Op.intBits .and .i64 (m : Int) 1).run C.P w = .ok (.int .i64 ((m % 2 : Nat) : Int)) w := by
    show Result.ok (Value.int .i64 (IntKind.i64.wrap ((BitVec.ofInt 64 (m : Int) &&& BitVec.ofInt 64 (1 : Int)).toNat : Int))) w = _
    rw [BitVec.toNat_and, h1, show (BitVec.ofInt 64 (1 : Int)).toNat = 1 from rfl, Nat.and_one_is_mod, IntKind.wrap_i64]
    have e : ((m % 2 : Nat) + 9223372036854775808 : Int) % 18446744073709551616 - 9223372036854775808 = ((m % 2 : Nat) : Int) := by omega
    rw [e]
  simp [execOp, hx, hy, eqGuard, binOp, h2]
theorem y_shrN (hx : ev e x = .int .i64 (m : Int)) (hy : ev e y = .int .i64 (i : Int)) (hi : i ≤ 60) : YD C ⟨d, .binOp .shr t x y t', ty, pos, af, g⟩ e H (.int .i64 ((m / 2 ^ i : Nat) : Int)) :=
  y_shr hx hy (by omega) (by
    rw [show min (i : Int).toNat IntKind.i64.bits = i by rw [show IntKind.i64.bits = 64 from rfl]; omega, Int.fdiv_eq_ediv_of_nonneg _ (by have : 0 < 2 ^ i := Nat.two_pow_pos i; exact_mod_cast Nat.zero_le _)]
    push_cast; rfl)
theorem y_shlN (hx : ev e x = .int .i64 1) (hy : ev e y = .int .i64 (i : Int)) (hi : i ≤ 30) : YD C ⟨d, .binOp .shl t x y t', ty, pos, af, g⟩ e H (.int .i64 ((2 ^ i : Nat) : Int)) :=
  y_shl hx hy (by omega) (by
    have h30 : 2 ^ i ≤ 2 ^ 30 := Nat.pow_le_pow_right (by decide) hi
    rw [show min (i : Int).toNat IntKind.i64.bits = i by rw [show IntKind.i64.bits = 64 from rfl]; omega, Int.one_mul, IntKind.wrap_i64]
    have : ((2 : Int) ^ i) = ((2 ^ i : Nat) : Int) := by push_cast; rfl
    rw [this]
    generalize 2 ^ i = p at h30
    omega)
end
end Go.Eng
namespace Go.Proofs.Ythkimgfgpphgnaa.T
open Go.RowKit Go.Proofs Go.Eng
set_option maxRecDepth 100000
set_option linter.unusedVariables false
set_option linter.unusedSimpArgs false



def setL (s n : Nat) : List Int := ((List.range n).filter fun i => s.testBit i).map fun i : Nat => (i : Int) + 1
theorem setL_succ (s n : Nat) : setL s (n + 1) = if s.testBit n then setL s n ++ [(n : Int) + 1] else setL s n := by
  unfold setL
  rw [List.range_succ, List.filter_append]
  cases h : s.testBit n <;> simp [h]
theorem setL_len (s n : Nat) : (setL s n).length ≤ n := by
  unfold setL
  rw [List.length_map]
  have := List.length_filter_le (fun i => s.testBit i) (List.range n)
  rw [List.length_range] at this
  exact this
def Lg.dipsB (l : Lg) (s n : Nat) : Bool := (List.range n).all fun i => !s.testBit i || decide ((l.e i).kind = 3)
theorem Lg.dipsB_succ (l : Lg) (s n : Nat) : l.dipsB s (n + 1) = (l.dipsB s n && (!s.testBit n || decide ((l.e n).kind = 3))) := by
  unfold Lg.dipsB
  rw [List.range_succ, List.all_append]
  simp
def betB (T : List Int) : Option (List Int) → Bool
  | none => true
  | some R => befB T R
def Lg.bestW (l : Lg) : Nat → Option (List Int)
  | 0 => none
  | s + 1 => if l.dipsB s l.es.length && betB (setL s l.es.length) (l.bestW s) && (l.wo (setL s l.es.length)).holdsB then some (setL s l.es.length) else l.bestW s
theorem bit_iff (s i : Nat) : s.testBit i = decide (((s / 2 ^ i % 2 : Nat) : Int) = 1) := by
  rw [Nat.testBit_eq_decide_div_mod_eq]
  congr 1
  exact propext ⟨fun h => by omega, fun h => by omega⟩
def RWrongV (l : Lg) (v : Value) (Hn : List Blk) : Prop :=
  (l.err ≠ 0 → v = .tuple #[.slice none 0 0, .int .i64 l.err] ∧ Hn = []) ∧
  (l.err = 0 → (∀ R, l.bestW (2 ^ l.es.length) = some R → ∃ fa fn fcap, v = .tuple #[.slice fa fn fcap, .int .i64 0] ∧ Row 3 1 fa fn fcap (iv R) Hn ∧ R.length = fn) ∧ (l.bestW (2 ^ l.es.length) = none → v = .tuple #[.slice none 0 0, .int .i64 6] ∧ Hn = []))
theorem betB_of {T : List Int} {o : Option (List Int)} {fb : Bool} (h : fb = o.isSome) (hf : fb = false) : betB T o = true := by
  subst h
  cases o with
  | none => rfl
  | some _ => cases hf
theorem betB_to {T : List Int} {o : Option (List Int)} {fb : Bool} (h : fb = o.isSome) (hf : fb = true) : betB T o = befB T (o.getD []) := by
  subst h
  cases o with
  | none => cases hf
  | some _ => rfl
theorem rwrong_any (l : Lg) (a : Option Addr) (cap : Nat) (ae : Option Addr) (cape : Nat) (w : World) (hn : l.tk.n ≤ 1000000) (hx : Ints w a l.tk.n cap l.tk.pints) (he : Ens w ae l.es.length cape l.es) : Ct Try.prog 25 #[.agg #[.slice a l.tk.n cap, .int .i64 l.tk.leak, .int .i64 l.tk.foot, .int .i64 l.start.lo, .int .i64 l.start.hi, .slice ae l.es.length cape]] w (RWrongV l) := by
  have hF := wide_wide
  refine Ct_start (args := [_]) Try.func25 (by rfl) Try.ntmps25 (by rfl) ?_
  refine W_seq ?_
  refine W_region_lit (fun ds => ?_)
  refine WS_new hF (by rfl) (y_box (by rfl)) (fun b1 => ?_)
  refine WS_det hF (by rfl) (y_assign (c := .slice _ _ _) (by rfl)) ?_
  refine WS_det hF (by rfl) (y_assign (c := .int .i64 _) (by rfl)) ?_
  refine WS_nil ?_
  refine Then_normal ?_
  refine W_seq ?_
  refine W_seq ?_
  refine W_region_lit (fun ds => ?_)
  refine WS_det hF (by rfl) (y_loadN (by rfl) Try.isAgg46 Try.sizeOf46 (Mem.own (us := [.slice _ _ _, .int .i64 _, .int .i64 _, .int .i64 _, .int .i64 _, .slice _ _ _]) 0 (by rfl) (by rfl)) (by rfl)) ?_
  refine WS_det hF (by rfl) (y_callL (by rfl) (by rfl) Try.call46 (fun w hw => rvalid_any l a cap ae cape w hn (hx.st w hw) (he.st w hw))) ?_
  refine WS_det hF (by rfl) (y_assign (c := .int .i64 _) (by rfl)) ?_
  refine WS_nil ?_
  refine Then_normal ?_
  refine W_seq ?_
  refine W_region_lit (fun ds => ?_)
  refine WS_det hF (by rfl) (y_move (c := .int .i64 _) (by rfl)) ?_
  refine WS_det hF (by rfl) (y_neq (by rfl) (by rfl)) ?_
  refine WS_nil ?_
  refine Then_normal ?_
  refine W_cond (by rfl) (fun c2 => ?_) (fun c2 => ?_)
  ·
    try simp only [Bool.not_eq_true', Bool.not_eq_false', decide_eq_true_eq, decide_eq_false_iff_not, ne_eq, Classical.not_not, Int.not_lt, Int.not_le] at c2
    refine W_seq ?_
    refine W_region_lit (fun ds => ?_)
    refine WS_det hF (by rfl) (y_move (c := .int .i64 _) (by rfl)) ?_
    refine WS_det hF (by rfl) (y_assign (c := .slice _ _ _) (by rfl)) ?_
    refine WS_det hF (by rfl) (y_assign (c := .int .i64 _) (by rfl)) ?_
    refine WS_nil ?_
    refine Then_normal ?_
    refine W_ret ?_
    refine Then_ret ?_
    refine Fin_ret [.slice _ _ _, .int .i64 _] [] Try.results25 ⟨by rfl, by rfl, trivial⟩ HSub.nil ?_
    exact ⟨fun _ => ⟨rfl, rfl⟩, fun h => absurd h c2⟩
  ·
    try simp only [Bool.not_eq_true', Bool.not_eq_false', decide_eq_true_eq, decide_eq_false_iff_not, ne_eq, Classical.not_not, Int.not_lt, Int.not_le] at c2
    have hok := l.ok_of c2
    have hn12 := hok.n12
    have hp12 : 2 ^ l.es.length ≤ 2 ^ 12 := Nat.pow_le_pow_right (by decide) hn12
    refine W_skip ?_
    refine Then_normal ?_
    refine W_seq ?_
    refine W_region_lit (fun ds => ?_)
    refine WS_det hF (by rfl) (y_assign (c := .slice _ _ _) (by rfl)) ?_
    refine WS_nil ?_
    refine Then_normal ?_
    refine W_seq ?_
    refine W_region_lit (fun ds => ?_)
    refine WS_det hF (by rfl) (y_assign (c := .bool _) (by rfl)) ?_
    refine WS_nil ?_
    refine Then_normal ?_
    refine W_seq ?_
    refine W_seq ?_
    refine W_region_lit (fun ds => ?_)
    refine WS_det hF (by rfl) (y_assign (c := .int .i64 _) (by rfl)) ?_
    refine WS_nil ?_
    refine Then_normal ?_
    refine W_block ?_
    refine W_loop (γ := Nat × Bool × Option Addr × Nat × Nat × List Blk) (fun p => p.1 ≤ 2 ^ l.es.length ∧ p.2.1 = (l.bestW p.1).isSome ∧ Row 3 1 p.2.2.1 p.2.2.2.1 p.2.2.2.2.1 (iv ((l.bestW p.1).getD [])) p.2.2.2.2.2 ∧ ((l.bestW p.1).getD []).length = p.2.2.2.1 ∧ p.2.2.2.1 ≤ 12) (fun p => [(1, .pointer (some ⟨b1, 0, none⟩)), (5, .slice p.2.2.1 p.2.2.2.1 p.2.2.2.2.1), (6, .bool p.2.1), (7, .int .i64 (p.1 : Int))]) (fun p => (b1, CB [.slice a l.tk.n cap, .int .i64 l.tk.leak, .int .i64 l.tk.foot, .int .i64 l.start.lo, .int .i64 l.start.hi, .slice ae l.es.length cape] 46) :: p.2.2.2.2.2) (fun p => 2 ^ l.es.length - p.1) ((0, false, none, 0, 0, [])) ⟨Nat.zero_le _, rfl, Row.nil 3 1, rfl, Nat.zero_le _⟩ (by repeat (first | exact trivial | refine ⟨by rfl, ?_⟩)) (List.Sublist.refl _) ?_
    rintro ⟨s, fb, fa, fn, fcap, Hf⟩ e ⟨hs, hfb, hrf, hlf, hf12⟩
    refine W_seq ?_
    refine W_seq ?_
    refine W_region_lit (fun ds => ?_)
    refine WS_det hF (by rfl) (y_move (c := .int .i64 _) (by rfl)) ?_
    refine WS_det hF (by rfl) (y_fieldAddr (by rfl) fa46_2) ?_
    refine WS_det hF (by rfl) (y_load1 (by rfl) Try.isAgg44 (Mem.own1 0 (by rfl) (by rfl))) ?_
    refine WS_det hF (by rfl) (y_len (by rfl) Try.runUnderlying44) ?_
    refine WS_det hF (by rfl) (y_shlN (i := l.es.length) (by rfl) (by rfl) (by omega)) ?_
    refine WS_det hF (by rfl) (y_lss (by rfl) (by rfl)) ?_
    refine WS_nil ?_
    refine Then_normal ?_
    refine W_cond (by rfl) (fun c7 => ?_) (fun c7 => ?_)
    ·
      try simp only [Bool.not_eq_true', Bool.not_eq_false', decide_eq_true_eq, decide_eq_false_iff_not, ne_eq, Classical.not_not, Int.not_lt, Int.not_le] at c7
      have hs12 : s < 4096 := by omega
      have hf12 : fn ≤ 12 := hf12
      refine W_skip ?_
      refine Then_normal ?_
      refine W_seq ?_
      refine W_block ?_
      refine W_seq ?_
      refine W_region_lit (fun ds => ?_)
      refine WS_det hF (by rfl) (y_assign (c := .slice _ _ _) (by rfl)) ?_
      refine WS_nil ?_
      refine Then_normal ?_
      refine W_seq ?_
      refine W_region_lit (fun ds => ?_)
      refine WS_det hF (by rfl) (y_assign (c := .bool _) (by rfl)) ?_
      refine WS_nil ?_
      refine Then_normal ?_
      refine W_seq ?_
      refine W_seq ?_
      refine W_region_lit (fun ds => ?_)
      refine WS_det hF (by rfl) (y_assign (c := .int .i64 _) (by rfl)) ?_
      refine WS_nil ?_
      refine Then_normal ?_
      refine W_block ?_
      refine W_loop (γ := Nat × Bool × Option Addr × Nat × List Blk) (fun p => p.1 ≤ l.es.length ∧ p.2.1 = l.dipsB s p.1 ∧ Row 3 1 p.2.2.1 (setL s p.1).length p.2.2.2.1 (iv (setL s p.1)) p.2.2.2.2) (fun p => [(1, .pointer (some ⟨b1, 0, none⟩)), (5, .slice fa fn fcap), (6, .bool fb), (7, .int .i64 (s : Int)), (8, .slice p.2.2.1 (setL s p.1).length p.2.2.2.1), (9, .bool p.2.1), (10, .int .i64 (p.1 : Int))]) (fun p => (b1, CB [.slice a l.tk.n cap, .int .i64 l.tk.leak, .int .i64 l.tk.foot, .int .i64 l.start.lo, .int .i64 l.start.hi, .slice ae l.es.length cape] 46) :: (Hf ++ p.2.2.2.2)) (fun p => l.es.length - p.1) ((0, true, none, 0, [])) ⟨Nat.zero_le _, rfl, Row.nil 3 1⟩ (by repeat (first | exact trivial | refine ⟨by rfl, ?_⟩)) ((by rw [List.append_nil]; exact List.Sublist.refl _)) ?_
      rintro ⟨i, db, ra, rcap, Ht⟩ e ⟨hi, hdb, hrt⟩
      refine W_seq ?_
      refine W_seq ?_
      refine W_region_lit (fun ds => ?_)
      refine WS_det hF (by rfl) (y_move (c := .int .i64 _) (by rfl)) ?_
      refine WS_det hF (by rfl) (y_fieldAddr (by rfl) fa46_2) ?_
      refine WS_det hF (by rfl) (y_load1 (by rfl) Try.isAgg44 (Mem.own1 0 (by rfl) (by rfl))) ?_
      refine WS_det hF (by rfl) (y_len (by rfl) Try.runUnderlying44) ?_
      refine WS_det hF (by rfl) (y_lss (by rfl) (by rfl)) ?_
      refine WS_nil ?_
      refine Then_normal ?_
      refine W_cond (by rfl) (fun c12 => ?_) (fun c12 => ?_)
      ·
        try simp only [Bool.not_eq_true', Bool.not_eq_false', decide_eq_true_eq, decide_eq_false_iff_not, ne_eq, Classical.not_not, Int.not_lt, Int.not_le] at c12
        have hin : i < l.es.length := by omega
        obtain ⟨b, o, rfl, hce⟩ := he.cell i hin
        change At w b _ (l.e i).cells at hce
        have hsl := setL_len s i
        have hbt := bit_iff s i
        simp only at hdb
        refine W_skip ?_
        refine Then_normal ?_
        refine W_seq ?_
        refine W_block ?_
        refine W_seq ?_
        refine W_region_lit (fun ds => ?_)
        refine WS_det hF (by rfl) (y_move (c := .int .i64 _) (by rfl)) ?_
        refine WS_det hF (by rfl) (y_move (c := .int .i64 _) (by rfl)) ?_
        refine WS_det hF (by rfl) (y_shrN (m := s) (i := i) (by rfl) (by rfl) (by omega)) ?_
        refine WS_det hF (by rfl) (y_bit (m := s / 2 ^ i) (by rfl) (by rfl) (Nat.lt_of_le_of_lt (Nat.div_le_self _ _) (by omega))) ?_
        refine WS_det hF (by rfl) (y_eql (by rfl) (by rfl)) ?_
        refine WS_nil ?_
        refine Then_normal ?_
        refine W_cond (by rfl) (fun c14 => ?_) (fun c14 => ?_)
        ·
          try simp only [Bool.not_eq_true', Bool.not_eq_false', decide_eq_true_eq, decide_eq_false_iff_not, ne_eq, Classical.not_not, Int.not_lt, Int.not_le] at c14
          have hbit : s.testBit i = true := by rw [hbt]; exact decide_eq_true c14
          refine W_seq ?_
          refine W_region_lit (fun ds => ?_)
          refine WS_det hF (by rfl) (y_move (c := .slice _ _ _) (by rfl)) ?_
          refine WS_det hF (by rfl) (y_move (c := .int .i64 _) (by rfl)) ?_
          refine WS_det hF (by rfl) (y_add (by rfl) (by rfl) (by unfold I64; omega)) ?_
          refine WS_newS hF (by rfl) (y_buildSliceL bs22_1_0 (by rfl)) (fun b2 => ?_)
          refine WS_appendE hF (n' := (setL s i).length) (H1 := (_ :: _ :: Hf)) (Hn := Ht) (by rfl) (by rfl) (by rfl) Try.underlying22 infInt (by rfl) (by rfl) hrt (.inr ⟨_, _, rfl, Mem.own (us := [.int _ _]) 0 (by rfl) (by rfl)⟩) (by rfl) (by rfl) (by omega) (by omega) ?_
          intro ra2 rcap2 Ht2 hrow2
          have hset : setL s (i + 1) = setL s i ++ [(i : Int) + 1] := by rw [setL_succ, if_pos hbit]
          have hlen2 : (setL s (i + 1)).length = (setL s i).length + 1 := by rw [hset, List.length_append]; rfl
          have hrt2 : Row 3 1 ra2 (setL s (i + 1)).length rcap2 (iv (setL s (i + 1))) Ht2 := by
            rw [hlen2, hset, iv, List.map_append]; exact hrow2
          rw [← hlen2]
          refine WS_det hF (by rfl) (y_assign (c := .slice _ _ _) (by rfl)) ?_
          refine WS_nil ?_
          refine Then_normal ?_
          refine W_region_lit (fun ds => ?_)
          refine WS_det hF (by rfl) (y_move (c := .bool _) (by rfl)) ?_
          refine WS_det hF (by rfl) (y_move (c := .bool _) (by rfl)) ?_
          refine WS_split 42 (by rfl) (fun g16_1 => ?_) (fun g16_1 => ?_)
          ·
            try simp only [Bool.not_eq_true', Bool.not_eq_false', decide_eq_true_eq, decide_eq_false_iff_not, ne_eq, Classical.not_not, Int.not_lt, Int.not_le] at g16_1
            have hd1 : decide ((l.e i).kind = 3) = l.dipsB s (i + 1) := by rw [l.dipsB_succ, ← hdb, g16_1, hbit]; simp
            refine WS_det hF (by rfl) (y_fieldAddr (by rfl) fa46_2) ?_
            refine WS_det hF (by rfl) (y_load1 (by rfl) Try.isAgg44 (Mem.own1 1 (by rfl) (by rfl))) ?_
            refine WS_det hF (by rfl) (y_move (c := .int .i64 _) (by rfl)) ?_
            refine WS_det hF (by rfl) (y_index (k := i) (by rfl) (by rfl) (by first | rfl | omega) (by first | decide | omega) Try.runUnderlying44 Try.sizeOf48) ?_
            refine WS_det hF (by rfl) (y_fieldAddr (by rfl) fa48_1) ?_
            refine WS_det hF (by rfl) (y_load1 (by rfl) Try.isAgg3 (by first | exact Mem.old1 (by assumption) | exact Mem.oldAt1 (by assumption) (by rfl) | exact Mem.old (by assumption) | exact Mem.oldAtL1 (by assumption) (by rfl) (by rfl))) ?_
            refine WS_det hF (by rfl) (y_eql (by rfl) (by rfl)) ?_
            refine WS_det hF (by rfl) (by first | exact y_pick_t (c := .bool _) (by rfl) (by rfl) | exact y_pick_f (c := .bool _) (by rfl) (by rfl)) ?_
            refine WS_det hF (by rfl) (y_assign (c := .bool _) (by rfl)) ?_
            refine WS_nil ?_
            refine InB_normal ?_
            refine Then_normal ?_
            refine W_region_lit (fun ds => ?_)
            refine WS_det hF (by rfl) (y_move (c := .int .i64 _) (by rfl)) ?_
            refine WS_det hF (by rfl) (y_add (by rfl) (by rfl) (by unfold I64; omega)) ?_
            refine WS_det hF (by rfl) (y_assign (c := .int .i64 _) (by rfl)) ?_
            refine WS_nil ?_
            exact Loop_next (i + 1, decide ((l.e i).kind = 3), ra2, rcap2, Ht2) ⟨by omega, hd1, hrt2⟩ (by repeat (first | exact trivial | refine ⟨by rfl, ?_⟩)) (by repeat (first | exact List.Sublist.refl _ | exact List.sublist_append_left _ _ | exact List.nil_sublist _ | apply List.Sublist.cons_cons | apply List.Sublist.cons | refine List.Sublist.trans ?_ (List.sublist_append_right _ _))) (by simp only; omega)
          ·
            try simp only [Bool.not_eq_true', Bool.not_eq_false', decide_eq_true_eq, decide_eq_false_iff_not, ne_eq, Classical.not_not, Int.not_lt, Int.not_le] at g16_1
            have hd2 : false = l.dipsB s (i + 1) := by rw [l.dipsB_succ, ← hdb, g16_1]; rfl
            refine WS_no hF (by rfl) ?_
            refine WS_no hF (by rfl) ?_
            refine WS_no hF (by rfl) ?_
            refine WS_no hF (by rfl) ?_
            refine WS_no hF (by rfl) ?_
            refine WS_no hF (by rfl) ?_
            refine WS_no hF (by rfl) ?_
            refine WS_det hF (by rfl) (by first | exact y_pick_t (c := .bool _) (by rfl) (by rfl) | exact y_pick_f (c := .bool _) (by rfl) (by rfl)) ?_
            refine WS_det hF (by rfl) (y_assign (c := .bool _) (by rfl)) ?_
            refine WS_nil ?_
            refine InB_normal ?_
            refine Then_normal ?_
            refine W_region_lit (fun ds => ?_)
            refine WS_det hF (by rfl) (y_move (c := .int .i64 _) (by rfl)) ?_
            refine WS_det hF (by rfl) (y_add (by rfl) (by rfl) (by unfold I64; omega)) ?_
            refine WS_det hF (by rfl) (y_assign (c := .int .i64 _) (by rfl)) ?_
            refine WS_nil ?_
            exact Loop_next (i + 1, false, ra2, rcap2, Ht2) ⟨by omega, hd2, hrt2⟩ (by repeat (first | exact trivial | refine ⟨by rfl, ?_⟩)) (by repeat (first | exact List.Sublist.refl _ | exact List.sublist_append_left _ _ | exact List.nil_sublist _ | apply List.Sublist.cons_cons | apply List.Sublist.cons | refine List.Sublist.trans ?_ (List.sublist_append_right _ _))) (by simp only; omega)
        ·
          try simp only [Bool.not_eq_true', Bool.not_eq_false', decide_eq_true_eq, decide_eq_false_iff_not, ne_eq, Classical.not_not, Int.not_lt, Int.not_le] at c14
          have hbit : s.testBit i = false := by rw [hbt]; exact decide_eq_false c14
          have hset : setL s (i + 1) = setL s i := by rw [setL_succ, hbit]; rfl
          have hd3 : db = l.dipsB s (i + 1) := by rw [l.dipsB_succ, ← hdb, hbit]; simp
          have hrt3 : Row 3 1 ra (setL s (i + 1)).length rcap (iv (setL s (i + 1))) Ht := by rw [hset]; exact hrt
          rw [← hset]
          refine W_skip ?_
          refine InB_normal ?_
          refine Then_normal ?_
          refine W_region_lit (fun ds => ?_)
          refine WS_det hF (by rfl) (y_move (c := .int .i64 _) (by rfl)) ?_
          refine WS_det hF (by rfl) (y_add (by rfl) (by rfl) (by unfold I64; omega)) ?_
          refine WS_det hF (by rfl) (y_assign (c := .int .i64 _) (by rfl)) ?_
          refine WS_nil ?_
          exact Loop_next (i + 1, db, ra, rcap, Ht) ⟨by omega, hd3, hrt3⟩ (by repeat (first | exact trivial | refine ⟨by rfl, ?_⟩)) (by repeat (first | exact List.Sublist.refl _ | exact List.sublist_append_left _ _ | exact List.nil_sublist _ | apply List.Sublist.cons_cons | apply List.Sublist.cons | refine List.Sublist.trans ?_ (List.sublist_append_right _ _))) (by simp only; omega)
      ·
        try simp only [Bool.not_eq_true', Bool.not_eq_false', decide_eq_true_eq, decide_eq_false_iff_not, ne_eq, Classical.not_not, Int.not_lt, Int.not_le] at c12
        obtain rfl : i = l.es.length := by have : i ≤ l.es.length := hi; omega
        have hsl := setL_len s l.es.length
        simp only at hdb
        have hbw0 : l.bestW (s + 1) = if l.dipsB s l.es.length && betB (setL s l.es.length) (l.bestW s) && (l.wo (setL s l.es.length)).holdsB then some (setL s l.es.length) else l.bestW s := rfl
        rw [← hdb] at hbw0
        refine W_exit ?_
        refine Then_exit ?_
        refine Loop_exit ?_
        refine InB_same ?_
        refine Then_normal ?_
        refine W_seq ?_
        refine W_region_lit (fun ds => ?_)
        refine WS_det hF (by rfl) (y_move (c := .bool _) (by rfl)) ?_
        refine WS_det hF (by rfl) (y_move (c := .bool _) (by rfl)) ?_
        refine WS_split 52 (by rfl) (fun g17_1 => ?_) (fun g17_1 => ?_)
        ·
          try simp only [Bool.not_eq_true', Bool.not_eq_false', decide_eq_true_eq, decide_eq_false_iff_not, ne_eq, Classical.not_not, Int.not_lt, Int.not_le] at g17_1
          refine WS_det hF (by rfl) (y_move (c := .bool _) (by rfl)) ?_
          refine WS_det hF (by rfl) (y_not (by rfl)) ?_
          refine WS_det hF (by rfl) (y_move (c := .bool _) (by rfl)) ?_
          refine WS_split 55 (by rfl) (fun g17_4 => ?_) (fun g17_4 => ?_)
          ·
            try simp only [Bool.not_eq_true', Bool.not_eq_false', decide_eq_true_eq, decide_eq_false_iff_not, ne_eq, Classical.not_not, Int.not_lt, Int.not_le] at g17_4
            have hbet : betB (setL s l.es.length) (l.bestW s) = true := betB_of hfb g17_4
            refine WS_no hF (by rfl) ?_
            refine WS_no hF (by rfl) ?_
            refine WS_no hF (by rfl) ?_
            refine WS_det hF (by rfl) (by first | exact y_pick_t (c := .bool _) (by rfl) (by rfl) | exact y_pick_f (c := .bool _) (by rfl) (by rfl)) ?_
            refine WS_det hF (by rfl) (by first | exact y_pick_t (c := .bool _) (by rfl) (by rfl) | exact y_pick_f (c := .bool _) (by rfl) (by rfl)) ?_
            refine WS_det hF (by rfl) (y_move (c := .bool _) (by rfl)) ?_
            refine WS_det hF (by rfl) (y_loadN (by rfl) Try.isAgg46 Try.sizeOf46 (Mem.own (us := [.slice _ _ _, .int .i64 _, .int .i64 _, .int .i64 _, .int .i64 _, .slice _ _ _]) 0 (by rfl) (by rfl)) (by rfl)) ?_
            refine WS_det hF (by rfl) (y_move (c := .slice _ _ _) (by rfl)) ?_
            refine WS_gen hF (by rfl) (y_callL (by rfl) (by rfl) Try.call85 (fun w hw => rwithout_any l a cap ae cape ra (setL s l.es.length).length rcap (setL s l.es.length) w (by omega) (by omega) (Row.ints hrt rfl (by repeat (first | exact List.Sublist.refl _ | exact List.sublist_append_left _ _ | exact List.nil_sublist _ | apply List.Sublist.cons_cons | apply List.Sublist.cons | refine List.Sublist.trans ?_ (List.sublist_append_right _ _))) w hw) hn (hx.st w hw) (he.st w hw))) ?_
            rintro _ _ ⟨a1, cap1, a2, cap2, H3, H4, rfl, hr1, hr2, rfl⟩
            refine WS_back ?_
            refine WS_det hF (by rfl) (y_callL (by rfl) (by rfl) Try.call84 (fun w hw => holding_ref (l.wo (setL s l.es.length)) a1 cap1 a2 cap2 w (hok.wo _) hn (NewRow.ints hr1 hx.len (by repeat (first | exact List.Sublist.refl _ | exact List.sublist_append_left _ _ | exact List.nil_sublist _ | apply List.Sublist.cons_cons | apply List.Sublist.cons | refine List.Sublist.trans ?_ (List.sublist_append_right _ _))) w hw) (NewRow.rws en_len hr2 rfl (by repeat (first | exact List.Sublist.refl _ | exact List.sublist_append_left _ _ | exact List.nil_sublist _ | apply List.Sublist.cons_cons | apply List.Sublist.cons | refine List.Sublist.trans ?_ (List.sublist_append_right _ _))) w hw))) ?_
            refine WS_det hF (by rfl) (by first | exact y_pick_t (c := .bool _) (by rfl) (by rfl) | exact y_pick_f (c := .bool _) (by rfl) (by rfl)) ?_
            refine WS_nil ?_
            refine Then_normal ?_
            refine W_cond (by rfl) (fun c17 => ?_) (fun c17 => ?_)
            ·
              try simp only [Bool.not_eq_true', Bool.not_eq_false', decide_eq_true_eq, decide_eq_false_iff_not, ne_eq, Classical.not_not, Int.not_lt, Int.not_le] at c17
              have hbw : l.bestW (s + 1) = some (setL s l.es.length) := by rw [hbw0, g17_1, hbet, c17]; rfl
              refine W_region_lit (fun ds => ?_)
              refine WS_det hF (by rfl) (y_move (c := .slice _ _ _) (by rfl)) ?_
              refine WS_det hF (by rfl) (y_assign (c := .slice _ _ _) (by rfl)) ?_
              refine WS_det hF (by rfl) (y_assign (c := .bool _) (by rfl)) ?_
              refine WS_nil ?_
              refine InB_normal ?_
              refine Then_normal ?_
              refine W_region_lit (fun ds => ?_)
              refine WS_det hF (by rfl) (y_move (c := .int .i64 _) (by rfl)) ?_
              refine WS_det hF (by rfl) (y_add (by rfl) (by rfl) (by unfold I64; omega)) ?_
              refine WS_det hF (by rfl) (y_assign (c := .int .i64 _) (by rfl)) ?_
              refine WS_nil ?_
              exact Loop_next (s + 1, true, ra, (setL s l.es.length).length, rcap, Ht) ⟨by omega, by rw [hbw]; rfl, by rw [hbw]; exact hrt, by rw [hbw]; rfl, by simp only; omega⟩ (by repeat (first | exact trivial | refine ⟨by rfl, ?_⟩)) (by exact (List.Sublist.cons_cons _ (List.sublist_append_right _ _)).trans (List.sublist_append_left _ _)) (by simp only; omega)
            ·
              try simp only [Bool.not_eq_true', Bool.not_eq_false', decide_eq_true_eq, decide_eq_false_iff_not, ne_eq, Classical.not_not, Int.not_lt, Int.not_le] at c17
              have hbw : l.bestW (s + 1) = l.bestW s := by first | (rw [hbw0, g17_1, hbet, c17]; rfl) | (rw [hbw0, g17_1, hbet]; rfl) | (rw [hbw0, g17_1]; rfl)
              refine W_skip ?_
              refine InB_normal ?_
              refine Then_normal ?_
              refine W_region_lit (fun ds => ?_)
              refine WS_det hF (by rfl) (y_move (c := .int .i64 _) (by rfl)) ?_
              refine WS_det hF (by rfl) (y_add (by rfl) (by rfl) (by unfold I64; omega)) ?_
              refine WS_det hF (by rfl) (y_assign (c := .int .i64 _) (by rfl)) ?_
              refine WS_nil ?_
              exact Loop_next (s + 1, fb, fa, fn, fcap, Hf) ⟨by omega, by rw [hbw]; exact hfb, by rw [hbw]; exact hrf, by rw [hbw]; exact hlf, hf12⟩ (by repeat (first | exact trivial | refine ⟨by rfl, ?_⟩)) (by first | exact List.Sublist.cons_cons _ (List.sublist_append_left _ _) | exact (List.Sublist.cons_cons _ (List.sublist_append_left _ _)).trans (List.sublist_append_left _ _)) (by simp only; omega)
          ·
            try simp only [Bool.not_eq_true', Bool.not_eq_false', decide_eq_true_eq, decide_eq_false_iff_not, ne_eq, Classical.not_not, Int.not_lt, Int.not_le] at g17_4
            refine WS_det hF (by rfl) (y_move (c := .slice _ _ _) (by rfl)) ?_
            refine WS_det hF (by rfl) (y_move (c := .slice _ _ _) (by rfl)) ?_
            refine WS_det hF (by rfl) (y_callL (by rfl) (by rfl) Try.call83 (fun w hw => rbefore_any ra fa (setL s l.es.length).length fn rcap fcap (setL s l.es.length) ((l.bestW s).getD []) w (by omega) (by omega) (Row.ints hrt rfl (by repeat (first | exact List.Sublist.refl _ | exact List.sublist_append_left _ _ | exact List.nil_sublist _ | apply List.Sublist.cons_cons | apply List.Sublist.cons | refine List.Sublist.trans ?_ (List.sublist_append_right _ _))) w hw) (Row.ints hrf hlf (by repeat (first | exact List.Sublist.refl _ | exact List.sublist_append_left _ _ | exact List.nil_sublist _ | apply List.Sublist.cons_cons | apply List.Sublist.cons | refine List.Sublist.trans ?_ (List.sublist_append_right _ _))) w hw))) ?_
            refine WS_det hF (by rfl) (by first | exact y_pick_t (c := .bool _) (by rfl) (by rfl) | exact y_pick_f (c := .bool _) (by rfl) (by rfl)) ?_
            refine WS_det hF (by rfl) (by first | exact y_pick_t (c := .bool _) (by rfl) (by rfl) | exact y_pick_f (c := .bool _) (by rfl) (by rfl)) ?_
            refine WS_det hF (by rfl) (y_move (c := .bool _) (by rfl)) ?_
            refine WS_split 61 (by rfl) (fun g17_10 => ?_) (fun g17_10 => ?_)
            ·
              try simp only [Bool.not_eq_true', Bool.not_eq_false', decide_eq_true_eq, decide_eq_false_iff_not, ne_eq, Classical.not_not, Int.not_lt, Int.not_le] at g17_10
              have hbet : betB (setL s l.es.length) (l.bestW s) = true := (betB_to hfb g17_4).trans g17_10
              refine WS_det hF (by rfl) (y_loadN (by rfl) Try.isAgg46 Try.sizeOf46 (Mem.own (us := [.slice _ _ _, .int .i64 _, .int .i64 _, .int .i64 _, .int .i64 _, .slice _ _ _]) 0 (by rfl) (by rfl)) (by rfl)) ?_
              refine WS_det hF (by rfl) (y_move (c := .slice _ _ _) (by rfl)) ?_
              refine WS_gen hF (by rfl) (y_callL (by rfl) (by rfl) Try.call85 (fun w hw => rwithout_any l a cap ae cape ra (setL s l.es.length).length rcap (setL s l.es.length) w (by omega) (by omega) (Row.ints hrt rfl (by repeat (first | exact List.Sublist.refl _ | exact List.sublist_append_left _ _ | exact List.nil_sublist _ | apply List.Sublist.cons_cons | apply List.Sublist.cons | refine List.Sublist.trans ?_ (List.sublist_append_right _ _))) w hw) hn (hx.st w hw) (he.st w hw))) ?_
              rintro _ _ ⟨a1, cap1, a2, cap2, H3, H4, rfl, hr1, hr2, rfl⟩
              refine WS_back ?_
              refine WS_det hF (by rfl) (y_callL (by rfl) (by rfl) Try.call84 (fun w hw => holding_ref (l.wo (setL s l.es.length)) a1 cap1 a2 cap2 w (hok.wo _) hn (NewRow.ints hr1 hx.len (by repeat (first | exact List.Sublist.refl _ | exact List.sublist_append_left _ _ | exact List.nil_sublist _ | apply List.Sublist.cons_cons | apply List.Sublist.cons | refine List.Sublist.trans ?_ (List.sublist_append_right _ _))) w hw) (NewRow.rws en_len hr2 rfl (by repeat (first | exact List.Sublist.refl _ | exact List.sublist_append_left _ _ | exact List.nil_sublist _ | apply List.Sublist.cons_cons | apply List.Sublist.cons | refine List.Sublist.trans ?_ (List.sublist_append_right _ _))) w hw))) ?_
              refine WS_det hF (by rfl) (by first | exact y_pick_t (c := .bool _) (by rfl) (by rfl) | exact y_pick_f (c := .bool _) (by rfl) (by rfl)) ?_
              refine WS_nil ?_
              refine Then_normal ?_
              refine W_cond (by rfl) (fun c17 => ?_) (fun c17 => ?_)
              ·
                try simp only [Bool.not_eq_true', Bool.not_eq_false', decide_eq_true_eq, decide_eq_false_iff_not, ne_eq, Classical.not_not, Int.not_lt, Int.not_le] at c17
                have hbw : l.bestW (s + 1) = some (setL s l.es.length) := by rw [hbw0, g17_1, hbet, c17]; rfl
                refine W_region_lit (fun ds => ?_)
                refine WS_det hF (by rfl) (y_move (c := .slice _ _ _) (by rfl)) ?_
                refine WS_det hF (by rfl) (y_assign (c := .slice _ _ _) (by rfl)) ?_
                refine WS_det hF (by rfl) (y_assign (c := .bool _) (by rfl)) ?_
                refine WS_nil ?_
                refine InB_normal ?_
                refine Then_normal ?_
                refine W_region_lit (fun ds => ?_)
                refine WS_det hF (by rfl) (y_move (c := .int .i64 _) (by rfl)) ?_
                refine WS_det hF (by rfl) (y_add (by rfl) (by rfl) (by unfold I64; omega)) ?_
                refine WS_det hF (by rfl) (y_assign (c := .int .i64 _) (by rfl)) ?_
                refine WS_nil ?_
                exact Loop_next (s + 1, true, ra, (setL s l.es.length).length, rcap, Ht) ⟨by omega, by rw [hbw]; rfl, by rw [hbw]; exact hrt, by rw [hbw]; rfl, by simp only; omega⟩ (by repeat (first | exact trivial | refine ⟨by rfl, ?_⟩)) (by exact (List.Sublist.cons_cons _ (List.sublist_append_right _ _)).trans (List.sublist_append_left _ _)) (by simp only; omega)
              ·
                try simp only [Bool.not_eq_true', Bool.not_eq_false', decide_eq_true_eq, decide_eq_false_iff_not, ne_eq, Classical.not_not, Int.not_lt, Int.not_le] at c17
                have hbw : l.bestW (s + 1) = l.bestW s := by first | (rw [hbw0, g17_1, hbet, c17]; rfl) | (rw [hbw0, g17_1, hbet]; rfl) | (rw [hbw0, g17_1]; rfl)
                refine W_skip ?_
                refine InB_normal ?_
                refine Then_normal ?_
                refine W_region_lit (fun ds => ?_)
                refine WS_det hF (by rfl) (y_move (c := .int .i64 _) (by rfl)) ?_
                refine WS_det hF (by rfl) (y_add (by rfl) (by rfl) (by unfold I64; omega)) ?_
                refine WS_det hF (by rfl) (y_assign (c := .int .i64 _) (by rfl)) ?_
                refine WS_nil ?_
                exact Loop_next (s + 1, fb, fa, fn, fcap, Hf) ⟨by omega, by rw [hbw]; exact hfb, by rw [hbw]; exact hrf, by rw [hbw]; exact hlf, hf12⟩ (by repeat (first | exact trivial | refine ⟨by rfl, ?_⟩)) (by first | exact List.Sublist.cons_cons _ (List.sublist_append_left _ _) | exact (List.Sublist.cons_cons _ (List.sublist_append_left _ _)).trans (List.sublist_append_left _ _)) (by simp only; omega)
            ·
              try simp only [Bool.not_eq_true', Bool.not_eq_false', decide_eq_true_eq, decide_eq_false_iff_not, ne_eq, Classical.not_not, Int.not_lt, Int.not_le] at g17_10
              have hbet : betB (setL s l.es.length) (l.bestW s) = false := (betB_to hfb g17_4).trans g17_10
              refine WS_no hF (by rfl) ?_
              refine WS_no hF (by rfl) ?_
              refine WS_no hF (by rfl) ?_
              refine WS_no hF (by rfl) ?_
              refine WS_det hF (by rfl) (by first | exact y_pick_t (c := .bool _) (by rfl) (by rfl) | exact y_pick_f (c := .bool _) (by rfl) (by rfl)) ?_
              refine WS_nil ?_
              refine Then_normal ?_
              refine W_cond (by rfl) (fun c17 => ?_) (fun c17 => ?_)
              · cases c17
              ·
                try simp only [Bool.not_eq_true', Bool.not_eq_false', decide_eq_true_eq, decide_eq_false_iff_not, ne_eq, Classical.not_not, Int.not_lt, Int.not_le] at c17
                have hbw : l.bestW (s + 1) = l.bestW s := by first | (rw [hbw0, g17_1, hbet, c17]; rfl) | (rw [hbw0, g17_1, hbet]; rfl) | (rw [hbw0, g17_1]; rfl)
                refine W_skip ?_
                refine InB_normal ?_
                refine Then_normal ?_
                refine W_region_lit (fun ds => ?_)
                refine WS_det hF (by rfl) (y_move (c := .int .i64 _) (by rfl)) ?_
                refine WS_det hF (by rfl) (y_add (by rfl) (by rfl) (by unfold I64; omega)) ?_
                refine WS_det hF (by rfl) (y_assign (c := .int .i64 _) (by rfl)) ?_
                refine WS_nil ?_
                exact Loop_next (s + 1, fb, fa, fn, fcap, Hf) ⟨by omega, by rw [hbw]; exact hfb, by rw [hbw]; exact hrf, by rw [hbw]; exact hlf, hf12⟩ (by repeat (first | exact trivial | refine ⟨by rfl, ?_⟩)) (by first | exact List.Sublist.cons_cons _ (List.sublist_append_left _ _) | exact (List.Sublist.cons_cons _ (List.sublist_append_left _ _)).trans (List.sublist_append_left _ _)) (by simp only; omega)
        ·
          try simp only [Bool.not_eq_true', Bool.not_eq_false', decide_eq_true_eq, decide_eq_false_iff_not, ne_eq, Classical.not_not, Int.not_lt, Int.not_le] at g17_1
          refine WS_no hF (by rfl) ?_
          refine WS_no hF (by rfl) ?_
          refine WS_no hF (by rfl) ?_
          refine WS_no hF (by rfl) ?_
          refine WS_no hF (by rfl) ?_
          refine WS_no hF (by rfl) ?_
          refine WS_no hF (by rfl) ?_
          refine WS_det hF (by rfl) (by first | exact y_pick_t (c := .bool _) (by rfl) (by rfl) | exact y_pick_f (c := .bool _) (by rfl) (by rfl)) ?_
          refine WS_det hF (by rfl) (y_move (c := .bool _) (by rfl)) ?_
          refine WS_no hF (by rfl) ?_
          refine WS_no hF (by rfl) ?_
          refine WS_no hF (by rfl) ?_
          refine WS_no hF (by rfl) ?_
          refine WS_det hF (by rfl) (by first | exact y_pick_t (c := .bool _) (by rfl) (by rfl) | exact y_pick_f (c := .bool _) (by rfl) (by rfl)) ?_
          refine WS_nil ?_
          refine Then_normal ?_
          refine W_cond (by rfl) (fun c17 => ?_) (fun c17 => ?_)
          · cases c17
          ·
            try simp only [Bool.not_eq_true', Bool.not_eq_false', decide_eq_true_eq, decide_eq_false_iff_not, ne_eq, Classical.not_not, Int.not_lt, Int.not_le] at c17
            have hbw : l.bestW (s + 1) = l.bestW s := by first | (rw [hbw0, g17_1, hbet, c17]; rfl) | (rw [hbw0, g17_1, hbet]; rfl) | (rw [hbw0, g17_1]; rfl)
            refine W_skip ?_
            refine InB_normal ?_
            refine Then_normal ?_
            refine W_region_lit (fun ds => ?_)
            refine WS_det hF (by rfl) (y_move (c := .int .i64 _) (by rfl)) ?_
            refine WS_det hF (by rfl) (y_add (by rfl) (by rfl) (by unfold I64; omega)) ?_
            refine WS_det hF (by rfl) (y_assign (c := .int .i64 _) (by rfl)) ?_
            refine WS_nil ?_
            exact Loop_next (s + 1, fb, fa, fn, fcap, Hf) ⟨by omega, by rw [hbw]; exact hfb, by rw [hbw]; exact hrf, by rw [hbw]; exact hlf, hf12⟩ (by repeat (first | exact trivial | refine ⟨by rfl, ?_⟩)) (by first | exact List.Sublist.cons_cons _ (List.sublist_append_left _ _) | exact (List.Sublist.cons_cons _ (List.sublist_append_left _ _)).trans (List.sublist_append_left _ _)) (by simp only; omega)
    ·
      try simp only [Bool.not_eq_true', Bool.not_eq_false', decide_eq_true_eq, decide_eq_false_iff_not, ne_eq, Classical.not_not, Int.not_lt, Int.not_le] at c7
      obtain rfl : s = 2 ^ l.es.length := by have : s ≤ 2 ^ l.es.length := hs; omega
      simp only at hfb
      refine W_exit ?_
      refine Then_exit ?_
      refine Loop_exit ?_
      refine InB_same ?_
      refine Then_normal ?_
      refine W_seq ?_
      refine W_seq ?_
      refine W_region_lit (fun ds => ?_)
      refine WS_det hF (by rfl) (y_move (c := .bool _) (by rfl)) ?_
      refine WS_det hF (by rfl) (y_not (by rfl)) ?_
      refine WS_nil ?_
      refine Then_normal ?_
      refine W_cond (by rfl) (fun c19 => ?_) (fun c19 => ?_)
      ·
        try simp only [Bool.not_eq_true', Bool.not_eq_false', decide_eq_true_eq, decide_eq_false_iff_not, ne_eq, Classical.not_not, Int.not_lt, Int.not_le] at c19
        refine W_seq ?_
        refine W_region_lit (fun ds => ?_)
        refine WS_det hF (by rfl) (y_assign (c := .slice _ _ _) (by rfl)) ?_
        refine WS_det hF (by rfl) (y_assign (c := .int .i64 _) (by rfl)) ?_
        refine WS_nil ?_
        refine Then_normal ?_
        refine W_ret ?_
        refine Then_ret ?_
        refine Fin_ret [.slice _ _ _, .int .i64 _] [] Try.results25 ⟨by rfl, by rfl, trivial⟩ HSub.nil ?_
        refine ⟨fun h => absurd c2 h, fun _ => ⟨fun R hR => ?_, fun _ => ⟨rfl, rfl⟩⟩⟩
        rw [hR, c19] at hfb; cases hfb
      ·
        try simp only [Bool.not_eq_true', Bool.not_eq_false', decide_eq_true_eq, decide_eq_false_iff_not, ne_eq, Classical.not_not, Int.not_lt, Int.not_le] at c19
        refine W_skip ?_
        refine Then_normal ?_
        refine W_seq ?_
        refine W_region_lit (fun ds => ?_)
        refine WS_det hF (by rfl) (y_move (c := .slice _ _ _) (by rfl)) ?_
        refine WS_det hF (by rfl) (y_assign (c := .slice _ _ _) (by rfl)) ?_
        refine WS_det hF (by rfl) (y_assign (c := .int .i64 _) (by rfl)) ?_
        refine WS_nil ?_
        refine Then_normal ?_
        refine W_ret ?_
        refine Fin_ret [.slice _ _ _, .int .i64 _] Hf Try.results25 ⟨by rfl, by rfl, trivial⟩ (HSub.sub (List.Sublist.cons _ (List.Sublist.refl _))) ?_
        refine ⟨fun h => absurd c2 h, fun _ => ⟨fun R hR => ?_, fun hR => ?_⟩⟩
        · rw [hR] at hrf hlf
          exact ⟨fa, fn, fcap, rfl, hrf, hlf⟩
        · rw [hR, c19] at hfb; cases hfb
end Go.Proofs.Ythkimgfgpphgnaa.T

/- The first of the fewest dips that must be false: both ways of looking for it find the same; plain facts. -/
namespace Go.Proofs.Ythkimgfgpphgnaa.T
open Go.RowKit Go.Proofs Go.Eng
set_option maxRecDepth 100000
set_option linter.unusedVariables false
set_option linter.unusedSimpArgs false

def Lg.Fits (l : Lg) (lo : Int) (E : List Int) : Prop := E.Pairwise (· < ·) ∧ ∀ x ∈ E, lo < x ∧ x ≤ (l.es.length : Int) ∧ (l.e (x - 1).toNat).kind = 3
def Lg.Val (l : Lg) (T : List Int) : Prop := l.Fits 0 T ∧ (l.wo T).holdsB = true
theorem firstSome_some {β : Type} {f : Nat → Option β} {r : β} : ∀ {n a : Nat}, firstSome f a n = some r → ∃ i, a ≤ i ∧ i < a + n ∧ f i = some r ∧ ∀ j, a ≤ j → j < i → f j = none
  | 0, _, h => by cases h
  | n + 1, a, h => by
    cases hf : f a with
    | some x =>
      rw [firstSome_hit (Nat.succ_pos _) hf] at h
      cases h
      exact ⟨a, Nat.le_refl _, by omega, hf, fun j h1 h2 => by omega⟩
    | none =>
      rw [firstSome_miss (Nat.succ_pos _) hf] at h
      obtain ⟨i, h1, h2, h3, h4⟩ := firstSome_some h
      refine ⟨i, by omega, by omega, h3, fun j g1 g2 => ?_⟩
      by_cases hj : j = a
      · rw [hj]; exact hf
      · exact h4 j (by omega) g2
theorem firstSome_none {β : Type} {f : Nat → Option β} : ∀ {n a : Nat}, firstSome f a n = none → ∀ i, a ≤ i → i < a + n → f i = none
  | 0, _, _, i, h1, h2 => by omega
  | n + 1, a, h, i, h1, h2 => by
    cases hf : f a with
    | some x => rw [firstSome_hit (Nat.succ_pos _) hf] at h; cases h
    | none =>
      rw [firstSome_miss (Nat.succ_pos _) hf] at h
      by_cases hj : i = a
      · rw [hj]; exact hf
      · exact firstSome_none h i (by omega) (by omega)
theorem frD_snoc (D : List Int) (i : Nat) : frD (D ++ [(i : Int) + 1]) = i + 1 := by
  unfold frD
  simp
theorem Lg.Fits.tail {l : Lg} {lo x : Int} {E : List Int} (h : l.Fits lo (x :: E)) : l.Fits x E :=
  ⟨(List.pairwise_cons.1 h.1).2, fun y hy => ⟨(List.pairwise_cons.1 h.1).1 y hy, (h.2 y (List.mem_cons_of_mem _ hy)).2⟩⟩
theorem Lg.stk_spec (l : Lg) : ∀ (m : Nat) (D : List Int),
    (∀ R, l.stk m D = some R → ∃ E, R = D ++ E ∧ E.length = m ∧ l.Fits (frD D) E ∧ (l.wo R).holdsB = true ∧ ∀ E', E'.length = m → l.Fits (frD D) E' → (l.wo (D ++ E')).holdsB = true → lexB E' E = false) ∧
    (l.stk m D = none → ∀ E', E'.length = m → l.Fits (frD D) E' → (l.wo (D ++ E')).holdsB = false)
  | 0, D => by
    constructor
    · intro R h
      unfold Lg.stk at h
      split at h
      · rename_i hh
        cases h
        exact ⟨[], (List.append_nil _).symm, rfl, ⟨List.Pairwise.nil, fun x hx => by cases hx⟩, hh, fun E' h1 _ _ => by rw [List.length_eq_zero_iff.1 h1]; rfl⟩
      · cases h
    · intro h E' h1 _
      unfold Lg.stk at h
      split at h
      · cases h
      · rename_i hh
        rw [List.length_eq_zero_iff.1 h1, List.append_nil]
        simpa using hh
  | m + 1, D => by
    have key : ∀ (y : Int) (E2 : List Int), l.Fits (frD D) (y :: E2) → ∃ j : Nat, frD D ≤ j ∧ j < l.es.length ∧ y = (j : Int) + 1 ∧ (l.e j).kind = 3 ∧ l.Fits (frD (D ++ [(j : Int) + 1])) E2 := fun y E2 hf => by
      have hy := hf.2 y List.mem_cons_self
      obtain ⟨j, hj⟩ : ∃ j : Nat, y = (j : Int) + 1 := ⟨(y - 1).toNat, by omega⟩
      refine ⟨j, by omega, by omega, hj, ?_, ?_⟩
      · have := hy.2.2
        rw [hj, show ((j : Int) + 1 - 1).toNat = j by omega] at this
        exact this
      · rw [frD_snoc, show ((j + 1 : Nat) : Int) = y by omega]
        exact hf.tail
    constructor
    · intro R h
      rw [l.stk_succ] at h
      obtain ⟨i, h1, h2, h3, h4⟩ := firstSome_some h
      unfold Lg.stkF at h3
      split at h3
      · rename_i hk
        obtain ⟨E, hR, hl, hf, hh, hm⟩ := (l.stk_spec m (D ++ [(i : Int) + 1])).1 R h3
        rw [frD_snoc] at hf hm
        refine ⟨((i : Int) + 1) :: E, by rw [hR, List.append_assoc]; rfl, by rw [List.length_cons, hl], ⟨List.pairwise_cons.2 ⟨fun y hy => by have := (hf.2 y hy).1; omega, hf.1⟩, fun y hy => ?_⟩, hh, fun E' g1 g2 g3 => ?_⟩
        · rcases List.mem_cons.1 hy with rfl | hy
          · refine ⟨by omega, by omega, ?_⟩
            rw [show ((i : Int) + 1 - 1).toNat = i by omega]; exact hk
          · have := hf.2 y hy
            exact ⟨by omega, this.2⟩
        · cases E' with
          | nil => cases g1
          | cons y E2 =>
            obtain ⟨j, j1, j2, rfl, j4, j5⟩ := key y E2 g2
            have g3' : (l.wo ((D ++ [(j : Int) + 1]) ++ E2)).holdsB = true := by rw [List.append_assoc]; exact g3
            unfold lexB
            by_cases hji : (j : Int) + 1 = (i : Int) + 1
            · rw [if_pos hji]
              obtain rfl : j = i := by omega
              rw [frD_snoc] at j5
              exact hm E2 (by simpa using g1) j5 g3'
            · rw [if_neg hji, decide_eq_false_iff_not]
              intro hlt
              have hn := h4 j j1 (by omega)
              unfold Lg.stkF at hn
              rw [if_pos j4] at hn
              rw [(l.stk_spec m (D ++ [(j : Int) + 1])).2 hn E2 (by simpa using g1) j5] at g3'
              cases g3'
      · cases h3
    · intro h E' g1 g2
      rw [l.stk_succ] at h
      cases E' with
      | nil => cases g1
      | cons y E2 =>
        obtain ⟨j, j1, j2, rfl, j4, j5⟩ := key y E2 g2
        have hn := firstSome_none h j j1 (by omega)
        unfold Lg.stkF at hn
        rw [if_pos j4] at hn
        have := (l.stk_spec m (D ++ [(j : Int) + 1])).2 hn E2 (by simpa using g1) j5
        rw [List.append_assoc] at this
        exact this
/-! ### Sets as numbers -/
theorem setL_of (n : Nat) : ∀ T : List Int, T.Pairwise (· < ·) → (∀ x ∈ T, 0 < x ∧ x ≤ (n : Int)) → ∃ s, s < 2 ^ n ∧ setL s n = T := by
  induction n with
  | zero =>
    intro T _ h
    refine ⟨0, by decide, ?_⟩
    cases T with
    | nil => rfl
    | cons x T => have := h x List.mem_cons_self; omega
  | succ n ih =>
    intro T hp h
    have small : (∀ x ∈ T, x ≤ (n : Int)) → ∃ s, s < 2 ^ (n + 1) ∧ setL s (n + 1) = T := fun hs => by
      obtain ⟨s, h1, h2⟩ := ih T hp fun x hx => ⟨(h x hx).1, hs x hx⟩
      refine ⟨s, by rw [Nat.pow_succ]; omega, ?_⟩
      rw [setL_succ, Nat.testBit_lt_two_pow h1]
      exact h2
    rcases List.eq_nil_or_concat T with rfl | ⟨L, x, rfl⟩
    · exact small fun x hx => by cases hx
    · rw [List.concat_eq_append] at hp h small ⊢
      have hlt : ∀ y ∈ L, y < x := fun y hy => (List.pairwise_append.1 hp).2.2 y hy x List.mem_cons_self
      have hx := h x (List.mem_append_right _ List.mem_cons_self)
      by_cases hxn : x = (n : Int) + 1
      · obtain ⟨s, h1, h2⟩ := ih L (List.pairwise_append.1 hp).1 fun y hy => ⟨(h y (List.mem_append_left _ hy)).1, by have := hlt y hy; omega⟩
        refine ⟨2 ^ n + s, by rw [Nat.pow_succ]; omega, ?_⟩
        rw [setL_succ, Nat.testBit_two_pow_add_eq, Nat.testBit_lt_two_pow h1]
        have : setL (2 ^ n + s) n = setL s n := by
          unfold setL
          congr 1
          exact List.filter_congr fun i hi => Nat.testBit_two_pow_add_gt (List.mem_range.1 hi) s
        rw [this, h2, hxn]; rfl
      · refine small fun y hy => ?_
        rcases List.mem_append.1 hy with hy | hy
        · have := hlt y hy; omega
        · rw [List.mem_singleton.1 hy]; omega
theorem setL_sorted (s n : Nat) : (setL s n).Pairwise (· < ·) := by
  unfold setL
  rw [List.pairwise_map]
  refine (List.pairwise_lt_range.filter _).imp fun {a b} h => ?_
  omega
theorem setL_mem {s n : Nat} {x : Int} (h : x ∈ setL s n) : 0 < x ∧ x ≤ (n : Int) := by
  unfold setL at h
  obtain ⟨i, hi, rfl⟩ := List.mem_map.1 h
  have := List.mem_range.1 (List.mem_filter.1 hi).1
  omega
theorem Lg.dips_iff (l : Lg) (s n : Nat) : l.dipsB s n = true ↔ ∀ x ∈ setL s n, (l.e (x - 1).toNat).kind = 3 := by
  unfold Lg.dipsB
  rw [List.all_eq_true]
  constructor
  · intro h x hx
    unfold setL at hx
    obtain ⟨i, hi, rfl⟩ := List.mem_map.1 hx
    have hi := List.mem_filter.1 hi
    have := h i hi.1
    rw [hi.2] at this
    rw [show ((i : Int) + 1 - 1).toNat = i by omega]
    simpa using this
  · intro h i hi
    cases hb : s.testBit i with
    | false => rfl
    | true =>
      have := h ((i : Int) + 1) (by unfold setL; exact List.mem_map.2 ⟨i, List.mem_filter.2 ⟨hi, hb⟩, rfl⟩)
      rw [show ((i : Int) + 1 - 1).toNat = i by omega] at this
      simpa using this
theorem Lg.val_set (l : Lg) (s : Nat) : l.Val (setL s l.es.length) ↔ (l.dipsB s l.es.length && (l.wo (setL s l.es.length)).holdsB) = true := by
  rw [Bool.and_eq_true, l.dips_iff]
  constructor
  · intro h
    exact ⟨fun x hx => (h.1.2 x hx).2.2, h.2⟩
  · intro h
    exact ⟨⟨setL_sorted _ _, fun x hx => ⟨(setL_mem hx).1, (setL_mem hx).2, h.1 x hx⟩⟩, h.2⟩
theorem Lg.Val.set {l : Lg} {T : List Int} (h : l.Val T) : ∃ s, s < 2 ^ l.es.length ∧ setL s l.es.length = T :=
  setL_of _ T h.1.1 fun x hx => ⟨(h.1.2 x hx).1, (h.1.2 x hx).2.1⟩
/-! ### The order of lists -/
theorem lexB_trans : ∀ {U T R : List Int}, lexB U T = true → lexB T R = true → lexB U R = true
  | [], _, _, h, _ => by cases h
  | _ :: _, [], _, h, _ => by cases h
  | _ :: _, _ :: _, [], _, h => by cases h
  | u :: U, t :: T, r :: R, h1, h2 => by
    unfold lexB at h1 h2 ⊢
    by_cases a : u = t
    · rw [if_pos a] at h1
      subst a
      by_cases b : u = r
      · rw [if_pos b] at h2 ⊢; exact lexB_trans h1 h2
      · rw [if_neg b] at h2 ⊢; exact h2
    · rw [if_neg a, decide_eq_true_eq] at h1
      by_cases b : t = r
      · subst b
        rw [if_neg a, decide_eq_true_eq]; exact h1
      · rw [if_neg b, decide_eq_true_eq] at h2
        rw [if_neg (by omega), decide_eq_true_eq]; omega
theorem befB_trans {U T R : List Int} (h1 : befB U T = true) (h2 : befB T R = true) : befB U R = true := by
  unfold befB at h1 h2 ⊢
  by_cases a : U.length = T.length
  · rw [if_pos a] at h1
    by_cases b : T.length = R.length
    · rw [if_pos b] at h2
      rw [if_pos (by omega)]; exact lexB_trans h1 h2
    · rw [if_neg b, decide_eq_true_eq] at h2
      rw [if_neg (by omega), decide_eq_true_eq]; omega
  · rw [if_neg a, decide_eq_true_eq] at h1
    by_cases b : T.length = R.length
    · rw [if_neg (by omega), decide_eq_true_eq]; omega
    · rw [if_neg b, decide_eq_true_eq] at h2
      rw [if_neg (by omega), decide_eq_true_eq]; omega
theorem lexB_eq : ∀ {T R : List Int}, T.length = R.length → lexB T R = false → lexB R T = false → T = R
  | [], [], _, _, _ => rfl
  | t :: T, r :: R, hl, h1, h2 => by
    unfold lexB at h1 h2
    by_cases a : t = r
    · rw [if_pos a] at h1
      rw [if_pos a.symm] at h2
      rw [a, lexB_eq (by simpa using hl) h1 h2]
    · rw [if_neg a, decide_eq_false_iff_not] at h1
      rw [if_neg fun h => a h.symm, decide_eq_false_iff_not] at h2
      omega
theorem befB_eq {T R : List Int} (h1 : befB T R = false) (h2 : befB R T = false) : T = R := by
  unfold befB at h1 h2
  by_cases a : T.length = R.length
  · rw [if_pos a] at h1
    rw [if_pos a.symm] at h2
    exact lexB_eq a h1 h2
  · rw [if_neg a, decide_eq_false_iff_not] at h1
    rw [if_neg fun h => a h.symm, decide_eq_false_iff_not] at h2
    omega
theorem befB_same (T : List Int) : befB T T = false := by unfold befB; rw [if_pos rfl, lexB_same]
theorem Lg.bestW_spec (l : Lg) : ∀ M : Nat,
    (∀ R, l.bestW M = some R → l.Val R ∧ ∀ s, s < M → l.Val (setL s l.es.length) → befB (setL s l.es.length) R = false) ∧
    (l.bestW M = none → ∀ s, s < M → ¬ l.Val (setL s l.es.length))
  | 0 => ⟨fun R h => (by cases h), fun _ s h => (by omega)⟩
  | M + 1 => by
    obtain ⟨ih1, ih2⟩ := l.bestW_spec M
    have hd : l.bestW (M + 1) = if l.dipsB M l.es.length && betB (setL M l.es.length) (l.bestW M) && (l.wo (setL M l.es.length)).holdsB then some (setL M l.es.length) else l.bestW M := rfl
    have hv := l.val_set M
    rw [Bool.and_eq_true] at hv
    by_cases hb : (l.dipsB M l.es.length && betB (setL M l.es.length) (l.bestW M) && (l.wo (setL M l.es.length)).holdsB) = true
    · rw [if_pos hb] at hd
      rw [Bool.and_eq_true, Bool.and_eq_true] at hb
      refine ⟨fun R h => ?_, fun h => by rw [hd] at h; cases h⟩
      rw [hd] at h
      cases h
      refine ⟨hv.2 ⟨hb.1.1, hb.2⟩, fun s hs hval => ?_⟩
      by_cases hsM : s = M
      · rw [hsM]; exact befB_same _
      · cases hw : l.bestW M with
        | none => exact absurd hval (ih2 hw s (by omega))
        | some R0 =>
          have h0 := (ih1 R0 hw).2 s (by omega) hval
          have h1 := hb.1.2
          rw [hw] at h1
          cases hc : befB (setL s l.es.length) (setL M l.es.length) with
          | false => rfl
          | true => rw [befB_trans hc h1] at h0; cases h0
    · rw [if_neg hb] at hd
      have hno : ∀ R, l.bestW M = some R → l.Val (setL M l.es.length) → befB (setL M l.es.length) R = false := fun R hw hval => by
        have h2 := hv.1 hval
        rw [hw, h2.1, h2.2] at hb
        simpa [betB] using hb
      refine ⟨fun R h => ?_, fun h s hs hval => ?_⟩
      · rw [hd] at h
        refine ⟨(ih1 R h).1, fun s hs hval => ?_⟩
        by_cases hsM : s = M
        · subst hsM; exact hno R h hval
        · exact (ih1 R h).2 s (by omega) hval
      · rw [hd] at h
        by_cases hsM : s = M
        · subst hsM
          have h2 := hv.1 hval
          rw [h, h2.1, h2.2] at hb
          exact hb rfl
        · exact ih2 h s (by omega) hval
theorem Lg.wr_spec (l : Lg) : (∀ R, l.wr = some R → l.Val R ∧ ∀ T, l.Val T → befB T R = false) ∧ (l.wr = none → ∀ T, ¬ l.Val T) := by
  have hfr : ((frD [] : Nat) : Int) = 0 := rfl
  have hlen : ∀ T, l.Val T → T.length ≤ l.es.length := fun T hT => by
    obtain ⟨s, _, h⟩ := hT.set
    rw [← h]; exact setL_len _ _
  constructor
  · intro R h
    obtain ⟨n, h1, h2, h3, h4⟩ := firstSome_some h
    obtain ⟨E, hRE, hl, hf, hh, hm⟩ := (l.stk_spec n []).1 R h3
    rw [List.nil_append] at hRE
    subst hRE
    simp only [List.nil_append] at hm
    rw [hfr] at hf hm
    refine ⟨⟨hf, hh⟩, fun T hT => ?_⟩
    unfold befB
    by_cases a : T.length = R.length
    · rw [if_pos a]; exact hm T (by omega) hT.1 hT.2
    · rw [if_neg a, decide_eq_false_iff_not]
      intro hlt
      have hn := (l.stk_spec T.length []).2 (h4 T.length (by omega) (by omega)) T rfl (by rw [hfr]; exact hT.1)
      rw [List.nil_append, hT.2] at hn
      cases hn
  · intro h T hT
    have hn := (l.stk_spec T.length []).2 (firstSome_none h T.length (by omega) (by have := hlen T hT; omega)) T rfl (by rw [hfr]; exact hT.1)
    rw [List.nil_append, hT.2] at hn
    cases hn
theorem Lg.wr_eq (l : Lg) : l.wr = l.bestW (2 ^ l.es.length) := by
  obtain ⟨w1, w2⟩ := l.wr_spec
  obtain ⟨b1, b2⟩ := l.bestW_spec (2 ^ l.es.length)
  cases hw : l.wr with
  | none =>
    cases hb : l.bestW (2 ^ l.es.length) with
    | none => rfl
    | some R => exact absurd (b1 R hb).1 (w2 hw R)
  | some R =>
    cases hb : l.bestW (2 ^ l.es.length) with
    | none =>
      obtain ⟨s, h1, h2⟩ := (w1 R hw).1.set
      exact absurd (h2 ▸ (w1 R hw).1) (b2 hb s h1)
    | some R2 =>
      obtain ⟨s, h1, h2⟩ := (w1 R hw).1.set
      have g1 := (b1 R2 hb).2 s h1 (h2 ▸ (w1 R hw).1)
      rw [h2] at g1
      rw [befB_eq g1 ((w1 R hw).2 R2 (b1 R2 hb).1)]
end Go.Proofs.Ythkimgfgpphgnaa.T

/- Blocks whose contents nobody asks for any more: stores into them, one by one. No project text. -/
namespace Go.Eng
open Go.RowKit

theorem W_sub {C : Ctx} {F : Fence} {n : Nat} {ds : List Deferred} {c : Code} {Q : Exit → Env → List Blk → Prop} {e : Env} {H H' : List Blk} (hs : HSub H H') (h : W C F n ds c Q e H') : W C F n ds c Q e H :=
  fun dd w hw a ha => h dd w ⟨hw.1, hs _ _ hw.2, hw.3⟩ a ha
theorem W_perm {C : Ctx} {F : Fence} {n : Nat} {ds : List Deferred} {c : Code} {Q : Exit → Env → List Blk → Prop} {e : Env} {H H' : List Blk} (hs : H.Perm H') (h : W C F n ds c Q e H') : W C F n ds c Q e H :=
  W_sub (fun _ _ h => h.perm hs.symm) h
section
variable {S1 S2 M M' L : List Blk} {x y : Blk}
theorem Pul.base : (S1 ++ x :: S2).Perm (x :: (S1 ++ S2)) := List.perm_middle
theorem Pul.base0 : (x :: S2).Perm (x :: S2) := List.Perm.refl _
theorem Pul.cons (h : M.Perm (x :: M')) : (y :: M).Perm (x :: y :: M') := (h.cons y).trans (List.Perm.swap ..)
theorem Pul.app (h : M.Perm (x :: M')) : (L ++ M).Perm (x :: (L ++ M')) := (h.append_left L).trans List.perm_middle
theorem Pul.end (h : M.Perm (x :: M')) : M.Perm (x :: M') := h
end

/-- Two blocks of one shape: the place, the length and the kind. -/
def Sh1 (x y : Blk) : Prop := x.1 = y.1 ∧ ∃ vs us T, x.2 = CB vs T ∧ y.2 = CB us T ∧ us.length = vs.length
inductive Shp : List Blk → List Blk → Prop
  | nil : Shp [] []
  | cons {x y : Blk} {l m : List Blk} : Sh1 x y → Shp l m → Shp (x :: l) (y :: m)
theorem Sh1.refl {b : Nat} {vs : List Value} {T : TypeId} : Sh1 (b, CB vs T) (b, CB vs T) := ⟨rfl, vs, vs, T, rfl, rfl, rfl⟩
theorem Shp.app {a b c d : List Blk} (h : Shp a b) (h' : Shp c d) : Shp (a ++ c) (b ++ d) := by
  induction h with
  | nil => exact h'
  | cons h1 _ ih => exact .cons h1 ih
theorem NewRow.shp {T : TypeId} {sz m : Nat} {us : List Value} {v : Value} {Hn : List Blk} (h : NewRow T sz m us v Hn) : Shp Hn Hn := by
  obtain ⟨a, cap, rfl, _, ⟨_, b, junk, rfl, rfl, _⟩ | ⟨_, rfl, _⟩⟩ := h
  · exact .cons Sh1.refl .nil
  · exact .nil
theorem CB_inj {vs us : List Value} {T T' : TypeId} (h : CB vs T = CB us T') : vs = us ∧ T = T' := by
  unfold CB at h
  simp only [Obj.cells.injEq] at h
  exact ⟨by simpa using h.1, by simpa using h.2⟩
/-- A block of such a list stands somewhere in it, and a store leaves the shape. -/
theorem Shp.get {S0 S : List Blk} {b : Nat} {vs : List Value} {T : TypeId} (h : Shp S0 S) (hm : (b, CB vs T) ∈ S0) :
    ∃ S1 us S2, S = S1 ++ (b, CB us T) :: S2 ∧ us.length = vs.length ∧ ∀ us', us'.length = us.length → Shp S0 (S1 ++ (b, CB us' T) :: S2) := by
  induction h with
  | nil => cases hm
  | @cons x y l m h1 h2 ih =>
    rcases List.mem_cons.1 hm with rfl | hm
    · obtain ⟨rfl, vs', us, T', e1, e2, hl⟩ := h1
      obtain ⟨rfl, rfl⟩ := CB_inj e1
      obtain ⟨yb, yo⟩ := y
      simp only at e2
      subst e2
      exact ⟨[], us, m, rfl, hl, fun us' hl' => .cons ⟨rfl, _, _, _, rfl, rfl, hl'.trans hl⟩ h2⟩
    · obtain ⟨S1, us, S2, rfl, hl, hp⟩ := ih hm
      exact ⟨y :: S1, us, S2, rfl, hl, fun us' hl' => .cons h1 (hp us' hl')⟩
/-- A slice whose cells lie in such a block. -/
def OwnR (S0 : List Blk) (T : TypeId) (sz : Nat) (a : Option Addr) (n : Nat) : Prop := n = 0 ∨ ∃ b vs, a = some ⟨b, 0, none⟩ ∧ (b, CB vs T) ∈ S0 ∧ n * sz ≤ vs.length
theorem NewRow.own {S0 : List Blk} {T : TypeId} {sz n cap : Nat} {us : List Value} {a : Option Addr} {Hn : List Blk} (h : NewRow T sz n us (.slice a n cap) Hn) (hs : ∀ x ∈ Hn, x ∈ S0) : OwnR S0 T sz a n := by
  obtain ⟨a', cap', he, hle, ⟨hn, b, junk, rfl, rfl, hl⟩ | ⟨h0, _⟩⟩ := h
  · cases he
    exact .inr ⟨b, _, rfl, hs _ (List.mem_singleton.2 rfl), by rw [hl]; exact Nat.mul_le_mul_right _ hle⟩
  · exact .inl h0
theorem OwnR.get {S0 S : List Blk} {T : TypeId} {sz n k : Nat} {a : Option Addr} (h : OwnR S0 T sz a n) (hk : k < n) (hS : Shp S0 S) :
    ∃ b S1 us S2, a = some ⟨b, 0, none⟩ ∧ S = S1 ++ (b, CB us T) :: S2 ∧ k * sz + sz ≤ us.length ∧ ∀ us', us'.length = us.length → Shp S0 (S1 ++ (b, CB us' T) :: S2) := by
  rcases h with h | ⟨b, vs, rfl, hm, hl⟩
  · omega
  · obtain ⟨S1, us, S2, rfl, hu, hp⟩ := hS.get hm
    refine ⟨b, S1, us, S2, rfl, rfl, ?_, hp⟩
    rw [hu]
    refine Nat.le_trans ?_ hl
    rw [← Nat.succ_mul]
    exact Nat.mul_le_mul_right _ hk
end Go.Eng
namespace Go.Eng
section
variable {C : Ctx} {F : Fence} {n : Nat} {ds : List Deferred} {c : Code} {Q : Exit → Env → List Blk → Prop} {e : Env} {H M M' : List Blk}
theorem W_pull (x : Blk) (hp : H.Perm (x :: M')) (h : W C F n ds c Q e (x :: M')) : W C F n ds c Q e H := W_perm hp h
theorem W_push {x : Blk} (hp : M.Perm (x :: M')) (h : W C F n ds c Q e M) : W C F n ds c Q e (x :: M') := W_perm hp.symm h
end
end Go.Eng

/- The law of changes, walked. -/
namespace Go.Proofs.Ythkimgfgpphgnaa.T
open Go.RowKit Go.Proofs Go.Eng
set_option maxRecDepth 100000
set_option maxHeartbeats 1000000
set_option linter.unusedVariables false
set_option linter.unusedSimpArgs false

theorem bs62_2_0_1 {x0_0a : Option Addr} {x0_0l x0_0c : Nat} {x0_1 : Int} {x0_2 : Int} {x0_3 : Int} {x0_4 : Int} {x0_5a : Option Addr} {x0_5l x0_5c : Nat} {x1_0a : Option Addr} {x1_0l x1_0c : Nat} {x1_1 : Int} {x1_2 : Int} {x1_3 : Int} {x1_4 : Int} {x1_5a : Option Addr} {x1_5l x1_5c : Nat} : ∀ w, (Instr.buildSlice 62 2 #[(0, .agg #[.slice x0_0a x0_0l x0_0c, .int .i64 x0_1, .int .i64 x0_2, .int .i64 x0_3, .int .i64 x0_4, .slice x0_5a x0_5l x0_5c]), (1, .agg #[.slice x1_0a x1_0l x1_0c, .int .i64 x1_1, .int .i64 x1_2, .int .i64 x1_3, .int .i64 x1_4, .slice x1_5a x1_5l x1_5c])]).run Try.prog w = .ok (.slice (some ⟨w.heap.size, 0, none⟩) 2 2) (w.alloc (CB [.slice x0_0a x0_0l x0_0c, .int .i64 x0_1, .int .i64 x0_2, .int .i64 x0_3, .int .i64 x0_4, .slice x0_5a x0_5l x0_5c, .slice x1_0a x1_0l x1_0c, .int .i64 x1_1, .int .i64 x1_2, .int .i64 x1_3, .int .i64 x1_4, .slice x1_5a x1_5l x1_5c] 46)) := fun w => by kernel_rfl

def Lg.wrL (l : Lg) : List Int := if l.err = 0 then l.wr.getD [] else []
def Lg.wrE (l : Lg) : Int := if l.err = 0 then (if l.wr.isSome then 0 else 6) else l.err
theorem Lg.wrL_len (l : Lg) : l.wrL.length ≤ 1000 := by
  unfold Lg.wrL
  split
  · rename_i h
    have h12 := (l.ok_of h).n12
    cases hw : l.wr with
    | none => exact Nat.zero_le _
    | some R =>
      obtain ⟨s, _, hs⟩ := ((l.wr_spec.1 R hw).1).set
      have := setL_len s l.es.length
      rw [hs] at this
      show R.length ≤ 1000
      omega
  · exact Nat.zero_le _
def WrI (l : Lg) (v : Value) (Hn : List Blk) : Prop :=
  ∃ fa fcap, v = .tuple #[.slice fa l.wrL.length fcap, .int .i64 l.wrE] ∧ ∀ (C : Ctx) (H : List Blk) (w : World), Hn.Sublist H → St C H w → Ints w fa l.wrL.length fcap l.wrL
theorem WrongV.ints {l : Lg} {v : Value} {Hn : List Blk} (h : WrongV l v Hn) : WrI l v Hn := by
  unfold WrI Lg.wrL Lg.wrE
  by_cases h0 : l.err = 0
  · rw [if_pos h0, if_pos h0]
    cases hw : l.wr with
    | none =>
      obtain ⟨rfl, rfl⟩ := (h.2 h0).2 hw
      exact ⟨none, 0, rfl, fun C H w _ _ => Ints.nil _ _ _⟩
    | some R =>
      obtain ⟨fa, fn, fcap, rfl, hr, rfl⟩ := (h.2 h0).1 R hw
      exact ⟨fa, fcap, rfl, fun C H w hs hw => Row.ints hr rfl hs w hw⟩
  · rw [if_neg h0, if_neg h0]
    obtain ⟨rfl, rfl⟩ := h.1 h0
    exact ⟨none, 0, rfl, fun C H w _ _ => Ints.nil _ _ _⟩
theorem RWrongV.wrong {l : Lg} {v : Value} {Hn : List Blk} (h : RWrongV l v Hn) : WrongV l v Hn := by
  unfold RWrongV at h
  rw [← l.wr_eq] at h
  exact h
def Lg.zero : Lg := ⟨⟨[], 0, 0⟩, ⟨0, 0⟩, []⟩
def Lg.addL (l : Lg) (x : En) : Lg := if l.addE x = 0 then l.put x else Lg.zero
def Lg.strL (l : Lg) (D : List Int) : Lg := if l.strE D = 0 then l.wo D else Lg.zero
theorem twin_zero : TwinL Lg.zero zeroLg [] := ⟨none, 0, none, 0, [], [], rfl, ⟨none, 0, rfl, Nat.le_refl _, .inr ⟨rfl, rfl, rfl⟩⟩, ⟨none, 0, rfl, Nat.le_refl _, .inr ⟨rfl, rfl, rfl⟩⟩, rfl⟩
theorem AddV.twin {l : Lg} {x : En} {v : Value} {Hn : List Blk} (h : AddV l x v Hn) : ∃ v0, v = .tuple #[v0, .int .i64 (l.addE x)] ∧ TwinL (l.addL x) v0 Hn := by
  obtain ⟨v0, rfl, h1, h2⟩ := h
  refine ⟨v0, rfl, ?_⟩
  unfold Lg.addL
  by_cases h0 : l.addE x = 0
  · rw [if_pos h0]; exact h2 h0
  · obtain ⟨rfl, rfl⟩ := h1 h0
    rw [if_neg h0]; exact twin_zero
theorem StrikeV.twin {l : Lg} {D : List Int} {v : Value} {Hn : List Blk} (h : StrikeV l D v Hn) : ∃ v0, v = .tuple #[v0, .int .i64 (l.strE D)] ∧ TwinL (l.strL D) v0 Hn := by
  obtain ⟨v0, rfl, h1, h2⟩ := h
  refine ⟨v0, rfl, ?_⟩
  unfold Lg.strL
  by_cases h0 : l.strE D = 0
  · rw [if_pos h0]; exact h2 h0
  · obtain ⟨rfl, rfl⟩ := h1 h0
    rw [if_neg h0]; exact twin_zero
theorem Lg.addL_bd (l : Lg) (x : En) (hn : l.tk.n ≤ 100) (he : l.es.length ≤ 100) : (l.addL x).tk.n ≤ 1000 ∧ (l.addL x).es.length ≤ 1000 := by
  unfold Lg.addL
  split
  · rw [l.put_len]; exact ⟨by show l.tk.n ≤ 1000; omega, by omega⟩
  · exact ⟨Nat.zero_le _, Nat.zero_le _⟩
theorem Lg.strL_bd (l : Lg) (D : List Int) (hn : l.tk.n ≤ 100) (he : l.es.length ≤ 100) : (l.strL D).tk.n ≤ 1000 ∧ (l.strL D).es.length ≤ 1000 := by
  unfold Lg.strL
  split
  · refine ⟨by show l.tk.n ≤ 1000; omega, ?_⟩
    have := kpK_le D l.es.length
    have h2 : (l.wo D).es.length = (kpK D l.es.length).length := l.woK_len D _
    omega
  · exact ⟨Nat.zero_le _, Nat.zero_le _⟩
theorem tankChanges_any (l : Lg) (a : Option Addr) (cap : Nat) (ae : Option Addr) (cape : Nat) (x : En) (ta : Option Addr) (tn tcap : Nat) (D : List Int) (w : World) (hx : Ints w a l.tk.n cap l.tk.pints) (he : Ens w ae l.es.length cape l.es) (hD : Ints w ta tn tcap D) :
    Ct Try.prog 4 #[.agg #[.slice a l.tk.n cap, .int .i64 l.tk.leak, .int .i64 l.tk.foot, .int .i64 l.start.lo, .int .i64 l.start.hi, .slice ae l.es.length cape], .agg x.cells.toArray, .slice ta tn tcap] w fun v _ => v = .bool true := by
  have hDl := hD.len
  have hwl := l.wrL_len
  have hF := wide_wide
  refine Ct_start (args := [_, _, _]) Try.func4 (by rfl) Try.ntmps4 (by rfl) ?_
  refine W_seq ?_
  refine W_region_lit (fun ds => ?_)
  refine WS_new hF (by rfl) (y_box (by rfl)) (fun b1 => ?_)
  refine WS_new hF (by rfl) (y_box (by rfl)) (fun b2 => ?_)
  refine WS_det hF (by rfl) (y_assign (c := .bool _) (by rfl)) ?_
  refine WS_nil ?_
  refine Then_normal ?_
  refine W_seq ?_
  refine W_seq ?_
  refine W_region_lit (fun ds => ?_)
  refine WS_det hF (by rfl) (y_loadN (by rfl) Try.isAgg46 Try.sizeOf46 (Mem.own (us := [.slice _ _ _, .int .i64 _, .int .i64 _, .int .i64 _, .int .i64 _, .slice _ _ _]) 1 (by rfl) (by rfl)) (by rfl)) ?_
  refine WS_det hF (by rfl) (y_callL (by rfl) (by rfl) Try.call22 (fun w hw => great_any l a cap ae cape w)) ?_
  refine WS_det hF (by rfl) (y_move (c := .bool _) (by rfl)) ?_
  refine WS_split 28 (by rfl) (fun g1_2 => ?_) (fun g1_2 => ?_)
  ·
    try simp only [Bool.not_eq_true', Bool.not_eq_false', decide_eq_true_eq, decide_eq_false_iff_not, ne_eq, Classical.not_not, Int.not_lt, Int.not_le] at g1_2
    refine WS_no hF (by rfl) ?_
    refine WS_no hF (by rfl) ?_
    refine WS_no hF (by rfl) ?_
    refine WS_det hF (by rfl) (by first | exact y_pick_t (c := .bool _) (by rfl) (by rfl) | exact y_pick_f (c := .bool _) (by rfl) (by rfl)) ?_
    refine WS_nil ?_
    refine Then_normal ?_
    refine W_cond (by rfl) (fun c1 => ?_) (fun c1 => ?_)
    ·
      try simp only [Bool.not_eq_true', Bool.not_eq_false', decide_eq_true_eq, decide_eq_false_iff_not, ne_eq, Classical.not_not, Int.not_lt, Int.not_le] at c1
      refine W_seq ?_
      refine W_region_lit (fun ds => ?_)
      refine WS_det hF (by rfl) (y_assign (c := .bool _) (by rfl)) ?_
      refine WS_nil ?_
      refine Then_normal ?_
      refine W_ret ?_
      refine Then_ret ?_
      refine Fin_ret [.bool _] [] Try.results4 ⟨by rfl, trivial⟩ HSub.nil ?_
      rfl
    · cases c1
  ·
    try simp only [Bool.not_eq_true', Bool.not_eq_false', decide_eq_true_eq, decide_eq_false_iff_not, ne_eq, Classical.not_not, Int.not_lt, Int.not_le] at g1_2
    simp only [Bool.or_eq_false_iff, decide_eq_false_iff_not] at g1_2
    have hn : l.tk.n ≤ 1000000 := by omega
    have hnes : l.es.length ≤ 1000000 := by omega
    refine WS_det hF (by rfl) (y_move (c := .slice _ _ _) (by rfl)) ?_
    refine WS_det hF (by rfl) (y_len (by rfl) Try.runUnderlying22) ?_
    refine WS_det hF (by rfl) (y_gtr (by rfl) (by rfl)) ?_
    refine WS_det hF (by rfl) (by first | exact y_pick_t (c := .bool _) (by rfl) (by rfl) | exact y_pick_f (c := .bool _) (by rfl) (by rfl)) ?_
    refine WS_nil ?_
    refine Then_normal ?_
    refine W_cond (by rfl) (fun c1 => ?_) (fun c1 => ?_)
    ·
      try simp only [Bool.not_eq_true', Bool.not_eq_false', decide_eq_true_eq, decide_eq_false_iff_not, ne_eq, Classical.not_not, Int.not_lt, Int.not_le] at c1
      refine W_seq ?_
      refine W_region_lit (fun ds => ?_)
      refine WS_det hF (by rfl) (y_assign (c := .bool _) (by rfl)) ?_
      refine WS_nil ?_
      refine Then_normal ?_
      refine W_ret ?_
      refine Then_ret ?_
      refine Fin_ret [.bool _] [] Try.results4 ⟨by rfl, trivial⟩ HSub.nil ?_
      rfl
    ·
      try simp only [Bool.not_eq_true', Bool.not_eq_false', decide_eq_true_eq, decide_eq_false_iff_not, ne_eq, Classical.not_not, Int.not_lt, Int.not_le] at c1
      have htn : tn ≤ 1000000 := by omega
      obtain ⟨ab1, ab2⟩ := l.addL_bd x (by omega) (by omega)
      obtain ⟨sb1, sb2⟩ := l.strL_bd D (by omega) (by omega)
      refine W_skip ?_
      refine Then_normal ?_
      refine W_seq ?_
      refine W_region_lit (fun ds => ?_)
      refine WS_det hF (by rfl) (y_loadN (by rfl) Try.isAgg46 Try.sizeOf46 (Mem.own (us := [.slice _ _ _, .int .i64 _, .int .i64 _, .int .i64 _, .int .i64 _, .slice _ _ _]) 1 (by rfl) (by rfl)) (by rfl)) ?_
      refine WS_gen hF (by rfl) (y_callL (by rfl) (by rfl) Try.call23 (fun w hw => twin_any l a cap ae cape w hnes hn (hx.st w hw) (he.st w hw))) ?_
      rintro _ _ ⟨a', cap', ae', cape', H1, H2, rfl, hr1, hr2, rfl⟩
      refine WS_back ?_
      refine WS_newS hF (by rfl) (y_buildSliceL bs22_0 (by rfl)) (fun b3 => ?_)
      refine WS_det hF (by rfl) (y_move (c := .slice _ _ _) (by rfl)) ?_
      refine WS_gen hF (by rfl) (y_append0 (by rfl) (by rfl) Try.underlying22 infInt (by rfl) hD.src (by rw [Nat.mul_one]; exact (List.length_map _).trans hD.len) (by omega) (by omega)) ?_
      rintro _ Hl hrl
      have hrl2 := hrl
      obtain ⟨la, lcap, rfl, _⟩ := hrl
      refine WS_back ?_
      refine WS_new hF (by rfl) (y_alloc Try.zeroValue46 (by rfl)) (fun b4 => ?_)
      refine WS_store hF (i := 0) (by rfl) (by rfl) Try.sizeOf46 (by rfl) (by rfl) (by rfl) (by first | decide | exact Nat.le_of_ble_eq_true rfl | simp) ?_
      refine WS_det hF (by rfl) (y_assign (c := .slice _ _ _) (by rfl)) ?_
      refine WS_nil ?_
      refine Then_normal ?_
      refine W_seq ?_
      refine W_region_lit (fun ds => ?_)
      refine WS_det hF (by rfl) (y_loadN (by rfl) Try.isAgg46 Try.sizeOf46 (Mem.own (us := [.slice _ _ _, .int .i64 _, .int .i64 _, .int .i64 _, .int .i64 _, .slice _ _ _]) 0 (by rfl) (by rfl)) (by rfl)) ?_
      refine WS_gen hF (by rfl) (y_callL (by rfl) (by rfl) Try.call24 (fun w hw => wrong_any l a' cap' ae' cape' w hn (NewRow.ints hr1 hx.len (by (try simp only [List.append_assoc, List.cons_append, List.nil_append, List.set_cons_zero, List.set_cons_succ]); repeat (first | exact List.Sublist.refl _ | exact List.nil_sublist _ | exact List.sublist_append_left _ _ | apply List.Sublist.append_left | apply List.Sublist.cons_cons | apply List.Sublist.cons | refine List.Sublist.trans ?_ (List.sublist_append_right _ _))) w hw) (NewRow.rws en_len hr2 he.len (by (try simp only [List.append_assoc, List.cons_append, List.nil_append, List.set_cons_zero, List.set_cons_succ]); repeat (first | exact List.Sublist.refl _ | exact List.nil_sublist _ | exact List.sublist_append_left _ _ | apply List.Sublist.append_left | apply List.Sublist.cons_cons | apply List.Sublist.cons | refine List.Sublist.trans ?_ (List.sublist_append_right _ _))) w hw))) ?_
      rintro _ Ha hTa
      obtain ⟨wa, wcap, rfl, hwa⟩ := WrongV.ints hTa
      refine WS_back ?_
      refine WS_det hF (by rfl) (y_move (c := .tuple _) (by rfl)) ?_
      refine WS_det hF (by rfl) (y_extract (c := .slice _ _ _) (by rfl) (by rfl)) ?_
      refine WS_det hF (by rfl) (y_extract (c := .int .i64 _) (by rfl) (by rfl)) ?_
      refine WS_det hF (by rfl) (y_assign (c := .slice _ _ _) (by rfl)) ?_
      refine WS_det hF (by rfl) (y_assign (c := .int .i64 _) (by rfl)) ?_
      refine WS_nil ?_
      refine Then_normal ?_
      refine W_seq ?_
      refine W_region_lit (fun ds => ?_)
      refine WS_det hF (by rfl) (y_loadN (by rfl) Try.isAgg46 Try.sizeOf46 (Mem.own (us := [.slice _ _ _, .int .i64 _, .int .i64 _, .int .i64 _, .int .i64 _, .slice _ _ _]) 3 (by rfl) (by rfl)) (by rfl)) ?_
      refine WS_gen hF (by rfl) (y_callL (by rfl) (by rfl) Try.call25 (fun w hw => rwrong_any l a cap ae cape w hn (hx.st w hw) (he.st w hw))) ?_
      rintro _ Hb hTb
      obtain ⟨wb, wcap2, rfl, hwb⟩ := WrongV.ints (RWrongV.wrong hTb)
      refine WS_back ?_
      refine WS_det hF (by rfl) (y_move (c := .tuple _) (by rfl)) ?_
      refine WS_det hF (by rfl) (y_extract (c := .slice _ _ _) (by rfl) (by rfl)) ?_
      refine WS_det hF (by rfl) (y_extract (c := .int .i64 _) (by rfl) (by rfl)) ?_
      refine WS_det hF (by rfl) (y_assign (c := .slice _ _ _) (by rfl)) ?_
      refine WS_det hF (by rfl) (y_assign (c := .int .i64 _) (by rfl)) ?_
      refine WS_nil ?_
      refine Then_normal ?_
      refine W_seq ?_
      refine W_region_lit (fun ds => ?_)
      refine WS_det hF (by rfl) (y_loadN (by rfl) Try.isAgg46 Try.sizeOf46 (Mem.own (us := [.slice _ _ _, .int .i64 _, .int .i64 _, .int .i64 _, .int .i64 _, .slice _ _ _]) 0 (by rfl) (by rfl)) (by rfl)) ?_
      refine WS_det hF (by rfl) (y_loadN (by rfl) Try.isAgg48 Try.sizeOf48 (Mem.own (us := [.int .i64 _, .int .i64 _, .int .i64 _, .int .i64 _]) 2 (by rfl) (by rfl)) (by rfl)) ?_
      refine WS_gen hF (by rfl) (y_callL (by rfl) (by rfl) Try.call26 (fun w hw => add_any l a' cap' ae' cape' x w hn (NewRow.ints hr1 hx.len (by (try simp only [List.append_assoc, List.cons_append, List.nil_append, List.set_cons_zero, List.set_cons_succ]); repeat (first | exact List.Sublist.refl _ | exact List.nil_sublist _ | exact List.sublist_append_left _ _ | apply List.Sublist.append_left | apply List.Sublist.cons_cons | apply List.Sublist.cons | refine List.Sublist.trans ?_ (List.sublist_append_right _ _))) w hw) (NewRow.rws en_len hr2 he.len (by (try simp only [List.append_assoc, List.cons_append, List.nil_append, List.set_cons_zero, List.set_cons_succ]); repeat (first | exact List.Sublist.refl _ | exact List.nil_sublist _ | exact List.sublist_append_left _ _ | apply List.Sublist.append_left | apply List.Sublist.cons_cons | apply List.Sublist.cons | refine List.Sublist.trans ?_ (List.sublist_append_right _ _))) w hw))) ?_
      rintro _ _ hT
      obtain ⟨_, rfl, c1, cc1, c2, cc2, Hc1, Hc2, rfl, hc1, hc2, rfl⟩ := AddV.twin hT
      refine WS_back ?_
      refine WS_det hF (by rfl) (y_move (c := .tuple _) (by rfl)) ?_
      refine WS_det hF (by rfl) (y_extract (c := .agg _) (by rfl) (by rfl)) ?_
      refine WS_det hF (by rfl) (y_extract (c := .int .i64 _) (by rfl) (by rfl)) ?_
      refine WS_new hF (by rfl) (y_alloc Try.zeroValue46 (by rfl)) (fun b5 => ?_)
      refine WS_store hF (i := 0) (by rfl) (by rfl) Try.sizeOf46 (by rfl) (by rfl) (by rfl) (by first | decide | exact Nat.le_of_ble_eq_true rfl | simp) ?_
      refine WS_det hF (by rfl) (y_assign (c := .int .i64 _) (by rfl)) ?_
      refine WS_nil ?_
      refine Then_normal ?_
      refine W_seq ?_
      refine W_region_lit (fun ds => ?_)
      refine WS_det hF (by rfl) (y_loadN (by rfl) Try.isAgg46 Try.sizeOf46 (Mem.own (us := [.slice _ _ _, .int .i64 _, .int .i64 _, .int .i64 _, .int .i64 _, .slice _ _ _]) 4 (by rfl) (by rfl)) (by rfl)) ?_
      refine WS_det hF (by rfl) (y_loadN (by rfl) Try.isAgg48 Try.sizeOf48 (Mem.own (us := [.int .i64 _, .int .i64 _, .int .i64 _, .int .i64 _]) 3 (by rfl) (by rfl)) (by rfl)) ?_
      refine WS_gen hF (by rfl) (y_callL (by rfl) (by rfl) Try.call27 (fun w hw => radd_any l a cap ae cape x w hn (hx.st w hw) (he.st w hw))) ?_
      rintro _ _ hT
      obtain ⟨_, rfl, d1, dc1, d2, dc2, Hd1, Hd2, rfl, hd1, hd2, rfl⟩ := AddV.twin hT
      refine WS_back ?_
      refine WS_det hF (by rfl) (y_move (c := .tuple _) (by rfl)) ?_
      refine WS_det hF (by rfl) (y_extract (c := .agg _) (by rfl) (by rfl)) ?_
      refine WS_det hF (by rfl) (y_extract (c := .int .i64 _) (by rfl) (by rfl)) ?_
      refine WS_new hF (by rfl) (y_alloc Try.zeroValue46 (by rfl)) (fun b6 => ?_)
      refine WS_store hF (i := 0) (by rfl) (by rfl) Try.sizeOf46 (by rfl) (by rfl) (by rfl) (by first | decide | exact Nat.le_of_ble_eq_true rfl | simp) ?_
      refine WS_det hF (by rfl) (y_assign (c := .int .i64 _) (by rfl)) ?_
      refine WS_nil ?_
      refine Then_normal ?_
      refine W_seq ?_
      refine W_region_lit (fun ds => ?_)
      refine WS_det hF (by rfl) (y_loadN (by rfl) Try.isAgg46 Try.sizeOf46 (Mem.own (us := [.slice _ _ _, .int .i64 _, .int .i64 _, .int .i64 _, .int .i64 _, .slice _ _ _]) 2 (by rfl) (by rfl)) (by rfl)) ?_
      refine WS_det hF (by rfl) (y_move (c := .slice _ _ _) (by rfl)) ?_
      refine WS_gen hF (by rfl) (y_callL (by rfl) (by rfl) Try.call28 (fun w hw => strike_any l a' cap' ae' cape' la tn lcap D w htn (NewRow.ints hrl2 hD.len (by (try simp only [List.append_assoc, List.cons_append, List.nil_append, List.set_cons_zero, List.set_cons_succ]); repeat (first | exact List.Sublist.refl _ | exact List.nil_sublist _ | exact List.sublist_append_left _ _ | apply List.Sublist.append_left | apply List.Sublist.cons_cons | apply List.Sublist.cons | refine List.Sublist.trans ?_ (List.sublist_append_right _ _))) w hw) hn (NewRow.ints hr1 hx.len (by (try simp only [List.append_assoc, List.cons_append, List.nil_append, List.set_cons_zero, List.set_cons_succ]); repeat (first | exact List.Sublist.refl _ | exact List.nil_sublist _ | exact List.sublist_append_left _ _ | apply List.Sublist.append_left | apply List.Sublist.cons_cons | apply List.Sublist.cons | refine List.Sublist.trans ?_ (List.sublist_append_right _ _))) w hw) (NewRow.rws en_len hr2 he.len (by (try simp only [List.append_assoc, List.cons_append, List.nil_append, List.set_cons_zero, List.set_cons_succ]); repeat (first | exact List.Sublist.refl _ | exact List.nil_sublist _ | exact List.sublist_append_left _ _ | apply List.Sublist.append_left | apply List.Sublist.cons_cons | apply List.Sublist.cons | refine List.Sublist.trans ?_ (List.sublist_append_right _ _))) w hw))) ?_
      rintro _ _ hT
      obtain ⟨_, rfl, m1, mc1, m2, mc2, Hm1, Hm2, rfl, hm1, hm2, rfl⟩ := StrikeV.twin hT
      refine WS_back ?_
      refine WS_det hF (by rfl) (y_move (c := .tuple _) (by rfl)) ?_
      refine WS_det hF (by rfl) (y_extract (c := .agg _) (by rfl) (by rfl)) ?_
      refine WS_det hF (by rfl) (y_extract (c := .int .i64 _) (by rfl) (by rfl)) ?_
      refine WS_new hF (by rfl) (y_alloc Try.zeroValue46 (by rfl)) (fun b7 => ?_)
      refine WS_store hF (i := 0) (by rfl) (by rfl) Try.sizeOf46 (by rfl) (by rfl) (by rfl) (by first | decide | exact Nat.le_of_ble_eq_true rfl | simp) ?_
      refine WS_det hF (by rfl) (y_assign (c := .int .i64 _) (by rfl)) ?_
      refine WS_nil ?_
      refine Then_normal ?_
      refine W_seq ?_
      refine W_region_lit (fun ds => ?_)
      refine WS_det hF (by rfl) (y_loadN (by rfl) Try.isAgg46 Try.sizeOf46 (Mem.own (us := [.slice _ _ _, .int .i64 _, .int .i64 _, .int .i64 _, .int .i64 _, .slice _ _ _]) 6 (by rfl) (by rfl)) (by rfl)) ?_
      refine WS_det hF (by rfl) (y_move (c := .slice _ _ _) (by rfl)) ?_
      refine WS_gen hF (by rfl) (y_callL (by rfl) (by rfl) Try.call29 (fun w hw => rstrike_any l a cap ae cape ta tn tcap D w htn (hD.st w hw) hn (hx.st w hw) (he.st w hw))) ?_
      rintro _ _ hT
      obtain ⟨_, rfl, n1, nc1, n2, nc2, Hn1, Hn2, rfl, hn1, hn2, rfl⟩ := StrikeV.twin hT
      refine WS_back ?_
      refine WS_det hF (by rfl) (y_move (c := .tuple _) (by rfl)) ?_
      refine WS_det hF (by rfl) (y_extract (c := .agg _) (by rfl) (by rfl)) ?_
      refine WS_det hF (by rfl) (y_extract (c := .int .i64 _) (by rfl) (by rfl)) ?_
      refine WS_new hF (by rfl) (y_alloc Try.zeroValue46 (by rfl)) (fun b8 => ?_)
      refine WS_store hF (i := 0) (by rfl) (by rfl) Try.sizeOf46 (by rfl) (by rfl) (by rfl) (by first | decide | exact Nat.le_of_ble_eq_true rfl | simp) ?_
      refine WS_det hF (by rfl) (y_assign (c := .int .i64 _) (by rfl)) ?_
      refine WS_nil ?_
      refine Then_normal ?_
      refine W_seq ?_
      refine W_region_lit (fun ds => ?_)
      refine WS_det hF (by rfl) (y_move (c := .slice _ _ _) (by rfl)) ?_
      refine WS_det hF (by rfl) (y_move (c := .slice _ _ _) (by rfl)) ?_
      refine WS_det hF (by rfl) (y_callL (by rfl) (by rfl) Try.call21 (fun w hw => Ct_eq (sameInts_any wa wb l.wrL.length l.wrL.length wcap wcap2 l.wrL l.wrL w (by omega) (hwa _ _ w (by (try simp only [List.append_assoc, List.cons_append, List.nil_append, List.set_cons_zero, List.set_cons_succ]); repeat (first | exact List.Sublist.refl _ | exact List.nil_sublist _ | exact List.sublist_append_left _ _ | apply List.Sublist.append_left | apply List.Sublist.cons_cons | apply List.Sublist.cons | refine List.Sublist.trans ?_ (List.sublist_append_right _ _))) hw) (hwb _ _ w (by (try simp only [List.append_assoc, List.cons_append, List.nil_append, List.set_cons_zero, List.set_cons_succ]); repeat (first | exact List.Sublist.refl _ | exact List.nil_sublist _ | exact List.sublist_append_left _ _ | apply List.Sublist.append_left | apply List.Sublist.cons_cons | apply List.Sublist.cons | refine List.Sublist.trans ?_ (List.sublist_append_right _ _))) hw)) (show Value.bool (decide (l.wrL = l.wrL)) = .bool true by simp))) ?_
      refine WS_det hF (by rfl) (y_move (c := .bool _) (by rfl)) ?_
      refine WS_det hF (by rfl) (y_move (c := .int .i64 _) (by rfl)) ?_
      refine WS_det hF (by rfl) (y_move (c := .int .i64 _) (by rfl)) ?_
      refine WS_det hF (by rfl) (y_eqlT (by rfl) (by rfl)) ?_
      refine WS_det hF (by rfl) (by first | exact y_pick_t (c := .bool _) (by rfl) (by rfl) | exact y_pick_f (c := .bool _) (by rfl) (by rfl)) ?_
      refine WS_det hF (by rfl) (y_move (c := .bool _) (by rfl)) ?_
      refine WS_det hF (by rfl) (y_loadN (by rfl) Try.isAgg46 Try.sizeOf46 (Mem.own (us := [.slice _ _ _, .int .i64 _, .int .i64 _, .int .i64 _, .int .i64 _, .slice _ _ _]) 3 (by rfl) (by rfl)) (by rfl)) ?_
      refine WS_det hF (by rfl) (y_loadN (by rfl) Try.isAgg46 Try.sizeOf46 (Mem.own (us := [.slice _ _ _, .int .i64 _, .int .i64 _, .int .i64 _, .int .i64 _, .slice _ _ _]) 2 (by rfl) (by rfl)) (by rfl)) ?_
      refine WS_det hF (by rfl) (y_callL (by rfl) (by rfl) Try.call30 (fun w hw => same_any (l.addL x) d1 dc1 d2 dc2 c1 cc1 c2 cc2 w (by omega) (by omega) (NewRow.ints hd1 rfl (by (try simp only [List.append_assoc, List.cons_append, List.nil_append, List.set_cons_zero, List.set_cons_succ]); repeat (first | exact List.Sublist.refl _ | exact List.nil_sublist _ | exact List.sublist_append_left _ _ | apply List.Sublist.append_left | apply List.Sublist.cons_cons | apply List.Sublist.cons | refine List.Sublist.trans ?_ (List.sublist_append_right _ _))) w hw) (NewRow.rws en_len hd2 rfl (by (try simp only [List.append_assoc, List.cons_append, List.nil_append, List.set_cons_zero, List.set_cons_succ]); repeat (first | exact List.Sublist.refl _ | exact List.nil_sublist _ | exact List.sublist_append_left _ _ | apply List.Sublist.append_left | apply List.Sublist.cons_cons | apply List.Sublist.cons | refine List.Sublist.trans ?_ (List.sublist_append_right _ _))) w hw) (NewRow.ints hc1 rfl (by (try simp only [List.append_assoc, List.cons_append, List.nil_append, List.set_cons_zero, List.set_cons_succ]); repeat (first | exact List.Sublist.refl _ | exact List.nil_sublist _ | exact List.sublist_append_left _ _ | apply List.Sublist.append_left | apply List.Sublist.cons_cons | apply List.Sublist.cons | refine List.Sublist.trans ?_ (List.sublist_append_right _ _))) w hw) (NewRow.rws en_len hc2 rfl (by (try simp only [List.append_assoc, List.cons_append, List.nil_append, List.set_cons_zero, List.set_cons_succ]); repeat (first | exact List.Sublist.refl _ | exact List.nil_sublist _ | exact List.sublist_append_left _ _ | apply List.Sublist.append_left | apply List.Sublist.cons_cons | apply List.Sublist.cons | refine List.Sublist.trans ?_ (List.sublist_append_right _ _))) w hw))) ?_
      refine WS_det hF (by rfl) (by first | exact y_pick_t (c := .bool _) (by rfl) (by rfl) | exact y_pick_f (c := .bool _) (by rfl) (by rfl)) ?_
      refine WS_det hF (by rfl) (y_move (c := .bool _) (by rfl)) ?_
      refine WS_det hF (by rfl) (y_move (c := .int .i64 _) (by rfl)) ?_
      refine WS_det hF (by rfl) (y_move (c := .int .i64 _) (by rfl)) ?_
      refine WS_det hF (by rfl) (y_eqlT (by rfl) (by rfl)) ?_
      refine WS_det hF (by rfl) (by first | exact y_pick_t (c := .bool _) (by rfl) (by rfl) | exact y_pick_f (c := .bool _) (by rfl) (by rfl)) ?_
      refine WS_det hF (by rfl) (y_move (c := .bool _) (by rfl)) ?_
      refine WS_det hF (by rfl) (y_loadN (by rfl) Try.isAgg46 Try.sizeOf46 (Mem.own (us := [.slice _ _ _, .int .i64 _, .int .i64 _, .int .i64 _, .int .i64 _, .slice _ _ _]) 1 (by rfl) (by rfl)) (by rfl)) ?_
      refine WS_det hF (by rfl) (y_loadN (by rfl) Try.isAgg46 Try.sizeOf46 (Mem.own (us := [.slice _ _ _, .int .i64 _, .int .i64 _, .int .i64 _, .int .i64 _, .slice _ _ _]) 0 (by rfl) (by rfl)) (by rfl)) ?_
      refine WS_det hF (by rfl) (y_callL (by rfl) (by rfl) Try.call30 (fun w hw => same_any (l.strL D) n1 nc1 n2 nc2 m1 mc1 m2 mc2 w (by omega) (by omega) (NewRow.ints hn1 rfl (by (try simp only [List.append_assoc, List.cons_append, List.nil_append, List.set_cons_zero, List.set_cons_succ]); repeat (first | exact List.Sublist.refl _ | exact List.nil_sublist _ | exact List.sublist_append_left _ _ | apply List.Sublist.append_left | apply List.Sublist.cons_cons | apply List.Sublist.cons | refine List.Sublist.trans ?_ (List.sublist_append_right _ _))) w hw) (NewRow.rws en_len hn2 rfl (by (try simp only [List.append_assoc, List.cons_append, List.nil_append, List.set_cons_zero, List.set_cons_succ]); repeat (first | exact List.Sublist.refl _ | exact List.nil_sublist _ | exact List.sublist_append_left _ _ | apply List.Sublist.append_left | apply List.Sublist.cons_cons | apply List.Sublist.cons | refine List.Sublist.trans ?_ (List.sublist_append_right _ _))) w hw) (NewRow.ints hm1 rfl (by (try simp only [List.append_assoc, List.cons_append, List.nil_append, List.set_cons_zero, List.set_cons_succ]); repeat (first | exact List.Sublist.refl _ | exact List.nil_sublist _ | exact List.sublist_append_left _ _ | apply List.Sublist.append_left | apply List.Sublist.cons_cons | apply List.Sublist.cons | refine List.Sublist.trans ?_ (List.sublist_append_right _ _))) w hw) (NewRow.rws en_len hm2 rfl (by (try simp only [List.append_assoc, List.cons_append, List.nil_append, List.set_cons_zero, List.set_cons_succ]); repeat (first | exact List.Sublist.refl _ | exact List.nil_sublist _ | exact List.sublist_append_left _ _ | apply List.Sublist.append_left | apply List.Sublist.cons_cons | apply List.Sublist.cons | refine List.Sublist.trans ?_ (List.sublist_append_right _ _))) w hw))) ?_
      refine WS_det hF (by rfl) (by first | exact y_pick_t (c := .bool _) (by rfl) (by rfl) | exact y_pick_f (c := .bool _) (by rfl) (by rfl)) ?_
      refine WS_det hF (by rfl) (y_move (c := .bool _) (by rfl)) ?_
      refine WS_det hF (by rfl) (y_move (c := .int .i64 _) (by rfl)) ?_
      refine WS_det hF (by rfl) (y_move (c := .int .i64 _) (by rfl)) ?_
      refine WS_det hF (by rfl) (y_eqlT (by rfl) (by rfl)) ?_
      refine WS_det hF (by rfl) (by first | exact y_pick_t (c := .bool _) (by rfl) (by rfl) | exact y_pick_f (c := .bool _) (by rfl) (by rfl)) ?_
      refine WS_det hF (by rfl) (y_assign (c := .bool _) (by rfl)) ?_
      refine WS_nil ?_
      refine Then_normal ?_
      refine W_seq ?_
      refine W_seq ?_
      refine W_region_lit (fun ds => ?_)
      refine WS_det hF (by rfl) (y_loadN (by rfl) Try.isAgg46 Try.sizeOf46 (Mem.own (us := [.slice _ _ _, .int .i64 _, .int .i64 _, .int .i64 _, .int .i64 _, .slice _ _ _]) 3 (by rfl) (by rfl)) (by rfl)) ?_
      refine WS_det hF (by rfl) (y_loadN (by rfl) Try.isAgg46 Try.sizeOf46 (Mem.own (us := [.slice _ _ _, .int .i64 _, .int .i64 _, .int .i64 _, .int .i64 _, .slice _ _ _]) 1 (by rfl) (by rfl)) (by rfl)) ?_
      refine WS_newS hF (by rfl) (y_buildSliceL bs62_2_0_1 (by rfl)) (fun b9 => ?_)
      refine WS_det hF (by rfl) (y_len (by rfl) Try.runUnderlying62) ?_
      have hzk : ∀ k, k < 2 → ∃ (m : Lg) (z1 : Option Addr) (zc1 : Nat) (z2 : Option Addr) (zc2 : Nat) (rest : List Value), List.drop (0 + k * 6) [.slice c1 (l.addL x).tk.n cc1, .int .i64 (l.addL x).tk.leak, .int .i64 (l.addL x).tk.foot, .int .i64 (l.addL x).start.lo, .int .i64 (l.addL x).start.hi, .slice c2 (l.addL x).es.length cc2, .slice m1 (l.strL D).tk.n mc1, .int .i64 (l.strL D).tk.leak, .int .i64 (l.strL D).tk.foot, .int .i64 (l.strL D).start.lo, .int .i64 (l.strL D).start.hi, .slice m2 (l.strL D).es.length mc2] = [.slice z1 m.tk.n zc1, .int .i64 m.tk.leak, .int .i64 m.tk.foot, .int .i64 m.start.lo, .int .i64 m.start.hi, .slice z2 m.es.length zc2] ++ rest ∧ OwnR (Hc1 ++ (Hc2 ++ (Hm1 ++ Hm2))) 3 1 z1 m.tk.n ∧ OwnR (Hc1 ++ (Hc2 ++ (Hm1 ++ Hm2))) 48 4 z2 m.es.length ∧ m.tk.n ≤ 1000 ∧ m.es.length ≤ 1000 := fun k hk => by
        obtain rfl | rfl : k = 0 ∨ k = 1 := by omega
        · exact ⟨l.addL x, c1, cc1, c2, cc2, _, rfl, hc1.own fun y h => List.mem_append_left _ h, hc2.own fun y h => List.mem_append_right _ (List.mem_append_left _ h), ab1, ab2⟩
        · exact ⟨l.strL D, m1, mc1, m2, mc2, [], rfl, hm1.own fun y h => List.mem_append_right _ (List.mem_append_right _ (List.mem_append_left _ h)), hm2.own fun y h => List.mem_append_right _ (List.mem_append_right _ (List.mem_append_right _ h)), sb1, sb2⟩
      refine WS_det hF (by rfl) (y_move (c := .int .i64 _) (by rfl)) ?_
      refine WS_nil ?_
      refine Then_normal ?_
      refine W_block ?_
      refine W_loop (γ := Nat × List Blk) (fun p => p.1 ≤ 2 ∧ Shp (Hc1 ++ (Hc2 ++ (Hm1 ++ Hm2))) p.2) (fun p => [(104, .int .i64 (p.1 : Int)), (102, .slice (some ⟨b9, 0, none⟩) 2 2), (103, .int .i64 2), (3, .pointer (some ⟨b1, 0, none⟩)), (7, .pointer (some ⟨b4, 0, none⟩)), (8, .slice la tn lcap), (2, .slice ta tn tcap), (21, .bool true)]) (fun p => (b9, CB [.slice c1 (l.addL x).tk.n cc1, .int .i64 (l.addL x).tk.leak, .int .i64 (l.addL x).tk.foot, .int .i64 (l.addL x).start.lo, .int .i64 (l.addL x).start.hi, .slice c2 (l.addL x).es.length cc2, .slice m1 (l.strL D).tk.n mc1, .int .i64 (l.strL D).tk.leak, .int .i64 (l.strL D).tk.foot, .int .i64 (l.strL D).start.lo, .int .i64 (l.strL D).start.hi, .slice m2 (l.strL D).es.length mc2] 46) :: (b4, CB [.slice a' l.tk.n cap', .int .i64 l.tk.leak, .int .i64 l.tk.foot, .int .i64 l.start.lo, .int .i64 l.start.hi, .slice ae' l.es.length cape'] 46) :: (b1, CB [.slice a l.tk.n cap, .int .i64 l.tk.leak, .int .i64 l.tk.foot, .int .i64 l.start.lo, .int .i64 l.start.hi, .slice ae l.es.length cape] 46) :: (H1 ++ (H2 ++ (Hl ++ p.2)))) (fun p => 2 - p.1) ((0, Hc1 ++ (Hc2 ++ (Hm1 ++ Hm2)))) ⟨Nat.zero_le _, hc1.shp.app (hc2.shp.app (hm1.shp.app hm2.shp))⟩ (by repeat (first | exact trivial | refine ⟨by rfl, ?_⟩)) ((by (try simp only [List.append_assoc, List.cons_append, List.nil_append, List.set_cons_zero, List.set_cons_succ]); repeat (first | exact List.Sublist.refl _ | exact List.nil_sublist _ | exact List.sublist_append_left _ _ | apply List.Sublist.append_left | apply List.Sublist.cons_cons | apply List.Sublist.cons | refine List.Sublist.trans ?_ (List.sublist_append_right _ _)))) ?_
      rintro ⟨k, S⟩ e ⟨hk, hS⟩
      refine W_seq ?_
      refine W_region_lit (fun ds => ?_)
      refine WS_det hF (by rfl) (y_lss (by rfl) (by rfl)) ?_
      refine WS_nil ?_
      refine Then_normal ?_
      refine W_seq ?_
      refine W_cond (by rfl) (fun c12 => ?_) (fun c12 => ?_)
      ·
        try simp only [Bool.not_eq_true', Bool.not_eq_false', decide_eq_true_eq, decide_eq_false_iff_not, ne_eq, Classical.not_not, Int.not_lt, Int.not_le] at c12
        obtain ⟨m, z1, zc1, z2, zc2, rest, hz, ho1, ho2, hb1, hb2⟩ := hzk k (by omega)
        refine W_skip ?_
        refine Then_normal ?_
        refine W_seq ?_
        refine W_block ?_
        refine W_seq ?_
        refine W_region_lit (fun ds => ?_)
        refine WS_det hF (by rfl) (y_index (k := k) (by rfl) (by rfl) (by first | rfl | omega) (by first | decide | omega) Try.runUnderlying62 Try.sizeOf46) ?_
        refine WS_det hF (by rfl) (y_loadN (by rfl) Try.isAgg46 Try.sizeOf46 (Mem.own (us := [.slice z1 m.tk.n zc1, .int .i64 m.tk.leak, .int .i64 m.tk.foot, .int .i64 m.start.lo, .int .i64 m.start.hi, .slice z2 m.es.length zc2]) 0 (by rfl) hz) (by rfl)) ?_
        refine WS_new hF (by rfl) (y_alloc Try.zeroValue46 (by rfl)) (fun bz => ?_)
        refine WS_store hF (i := 0) (by rfl) (by rfl) Try.sizeOf46 (by rfl) (by rfl) (by rfl) (by first | decide | exact Nat.le_of_ble_eq_true rfl | simp) ?_
        refine WS_nil ?_
        refine Then_normal ?_
        refine W_seq ?_
        refine W_seq ?_
        refine W_region_lit (fun ds => ?_)
        refine WS_det hF (by rfl) (y_fieldAddr (by rfl) fa46_0) ?_
        refine WS_det hF (by rfl) (y_fieldAddr (by rfl) fa24_0) ?_
        refine WS_det hF (by rfl) (y_load1 (by rfl) Try.isAgg22 (Mem.own1 0 (by rfl) (by rfl))) ?_
        refine WS_det hF (by rfl) (y_len (by rfl) Try.runUnderlying22) ?_
        refine WS_det hF (by rfl) (y_move (c := .int .i64 _) (by rfl)) ?_
        refine WS_nil ?_
        refine Then_normal ?_
        refine W_block ?_
        refine W_loop (γ := Nat × List Blk) (fun p => p.1 ≤ m.tk.n ∧ Shp (Hc1 ++ (Hc2 ++ (Hm1 ++ Hm2))) p.2) (fun p => [(112, .int .i64 (p.1 : Int)), (111, .int .i64 (m.tk.n : Int)), (23, .pointer (some ⟨bz, 0, none⟩)), (104, .int .i64 (k : Int)), (102, .slice (some ⟨b9, 0, none⟩) 2 2), (103, .int .i64 2), (3, .pointer (some ⟨b1, 0, none⟩)), (7, .pointer (some ⟨b4, 0, none⟩)), (8, .slice la tn lcap), (2, .slice ta tn tcap), (21, .bool true)]) (fun p => (bz, CB [.slice z1 m.tk.n zc1, .int .i64 m.tk.leak, .int .i64 m.tk.foot, .int .i64 m.start.lo, .int .i64 m.start.hi, .slice z2 m.es.length zc2] 46) :: (b9, CB [.slice c1 (l.addL x).tk.n cc1, .int .i64 (l.addL x).tk.leak, .int .i64 (l.addL x).tk.foot, .int .i64 (l.addL x).start.lo, .int .i64 (l.addL x).start.hi, .slice c2 (l.addL x).es.length cc2, .slice m1 (l.strL D).tk.n mc1, .int .i64 (l.strL D).tk.leak, .int .i64 (l.strL D).tk.foot, .int .i64 (l.strL D).start.lo, .int .i64 (l.strL D).start.hi, .slice m2 (l.strL D).es.length mc2] 46) :: (b4, CB [.slice a' l.tk.n cap', .int .i64 l.tk.leak, .int .i64 l.tk.foot, .int .i64 l.start.lo, .int .i64 l.start.hi, .slice ae' l.es.length cape'] 46) :: (b1, CB [.slice a l.tk.n cap, .int .i64 l.tk.leak, .int .i64 l.tk.foot, .int .i64 l.start.lo, .int .i64 l.start.hi, .slice ae l.es.length cape] 46) :: (H1 ++ (H2 ++ (Hl ++ p.2)))) (fun p => m.tk.n - p.1) ((0, S)) ⟨Nat.zero_le _, hS⟩ (by repeat (first | exact trivial | refine ⟨by rfl, ?_⟩)) ((by (try simp only [List.append_assoc, List.cons_append, List.nil_append, List.set_cons_zero, List.set_cons_succ]); repeat (first | exact List.Sublist.refl _ | exact List.nil_sublist _ | exact List.sublist_append_left _ _ | apply List.Sublist.append_left | apply List.Sublist.cons_cons | apply List.Sublist.cons | refine List.Sublist.trans ?_ (List.sublist_append_right _ _)))) ?_
        rintro ⟨i, S2⟩ e ⟨hi, hS2⟩
        refine W_seq ?_
        refine W_region_lit (fun ds => ?_)
        refine WS_det hF (by rfl) (y_lss (by rfl) (by rfl)) ?_
        refine WS_nil ?_
        refine Then_normal ?_
        refine W_seq ?_
        refine W_cond (by rfl) (fun c15 => ?_) (fun c15 => ?_)
        ·
          try simp only [Bool.not_eq_true', Bool.not_eq_false', decide_eq_true_eq, decide_eq_false_iff_not, ne_eq, Classical.not_not, Int.not_lt, Int.not_le] at c15
          obtain ⟨by_, Sa, us, Sb, hz1, rfl, hle, hput⟩ := ho1.get (k := i) (by omega) hS2
          refine W_pull (by_, CB us 3) (by repeat (first | exact Pul.base0 | exact Pul.base | apply Pul.cons | apply Pul.app)) ?_
          refine W_skip ?_
          refine Then_normal ?_
          refine W_seq ?_
          refine W_block ?_
          refine W_seq ?_
          refine W_region_lit (fun ds => ?_)
          refine WS_det hF (by rfl) (y_move (c := .int .i64 _) (by rfl)) ?_
          refine WS_det hF (by rfl) (y_assign (c := .int .i64 _) (by rfl)) ?_
          refine WS_nil ?_
          refine Then_normal ?_
          refine W_region_lit (fun ds => ?_)
          refine WS_det hF (by rfl) (y_fieldAddr (by rfl) fa46_0) ?_
          refine WS_det hF (by rfl) (y_fieldAddr (by rfl) fa24_0) ?_
          refine WS_det hF (by rfl) (y_load1 (by rfl) Try.isAgg22 (Mem.own1 1 (by rfl) (by rfl))) ?_
          refine WS_det hF (by rfl) (y_move (c := .int .i64 _) (by rfl)) ?_
          rw [hz1]
          refine WS_det hF (by rfl) (y_index (k := i) (by rfl) (by rfl) (by first | rfl | omega) (by first | decide | omega) Try.runUnderlying22 Try.sizeOf3) ?_
          refine WS_store hF (i := 0) (by rfl) (by rfl) Try.sizeOf3 (by rfl) (by rfl) (by rfl) (by simp only [List.length_singleton]; omega) ?_
          refine WS_nil ?_
          refine InB_normal ?_
          refine Then_normal ?_
          refine W_push (M := (bz, _) :: (b9, _) :: (b4, _) :: (b1, _) :: (H1 ++ (H2 ++ (Hl ++ (Sa ++ (by_, CB (splice us (0 + i * 1) [.int .i64 (-7)]) 3) :: Sb))))) (by repeat (first | exact Pul.base0 | exact Pul.base | apply Pul.cons | apply Pul.app)) ?_
          obtain ⟨Sn, hSe, hSn⟩ : ∃ Sn, Sn = Sa ++ (by_, CB (splice us (0 + i * 1) [.int .i64 (-7)]) 3) :: Sb ∧ Shp (Hc1 ++ (Hc2 ++ (Hm1 ++ Hm2))) Sn := ⟨_, rfl, hput _ (length_splice (by simp only [List.length_singleton]; omega))⟩
          rw [← hSe]
          refine W_region_lit (fun ds => ?_)
          refine WS_det hF (by rfl) (y_add (by rfl) (by rfl) (by unfold I64; omega)) ?_
          refine WS_det hF (by rfl) (y_move (c := .int .i64 _) (by rfl)) ?_
          refine WS_nil ?_
          exact Loop_next (i + 1, Sn) ⟨by simp only; omega, hSn⟩ (by repeat (first | exact trivial | refine ⟨by rfl, ?_⟩)) (by (try simp only [List.append_assoc, List.cons_append, List.nil_append, List.set_cons_zero, List.set_cons_succ]); repeat (first | exact List.Sublist.refl _ | exact List.nil_sublist _ | exact List.sublist_append_left _ _ | apply List.Sublist.append_left | apply List.Sublist.cons_cons | apply List.Sublist.cons | refine List.Sublist.trans ?_ (List.sublist_append_right _ _))) (by simp only; omega)
        ·
          try simp only [Bool.not_eq_true', Bool.not_eq_false', decide_eq_true_eq, decide_eq_false_iff_not, ne_eq, Classical.not_not, Int.not_lt, Int.not_le] at c15
          refine W_exit ?_
          refine Then_exit ?_
          refine Loop_exit ?_
          refine InB_same ?_
          refine Then_normal ?_
          refine W_seq ?_
          refine W_region_lit (fun ds => ?_)
          refine WS_det hF (by rfl) (y_fieldAddr (by rfl) fa46_2) ?_
          refine WS_det hF (by rfl) (y_load1 (by rfl) Try.isAgg44 (Mem.own1 0 (by rfl) (by rfl))) ?_
          refine WS_det hF (by rfl) (y_len (by rfl) Try.runUnderlying44) ?_
          refine WS_det hF (by rfl) (y_move (c := .int .i64 _) (by rfl)) ?_
          refine WS_nil ?_
          refine Then_normal ?_
          refine W_block ?_
          refine W_loop (γ := Nat × List Blk) (fun p => p.1 ≤ m.es.length ∧ Shp (Hc1 ++ (Hc2 ++ (Hm1 ++ Hm2))) p.2) (fun p => [(124, .int .i64 (p.1 : Int)), (123, .int .i64 (m.es.length : Int)), (23, .pointer (some ⟨bz, 0, none⟩)), (104, .int .i64 (k : Int)), (102, .slice (some ⟨b9, 0, none⟩) 2 2), (103, .int .i64 2), (3, .pointer (some ⟨b1, 0, none⟩)), (7, .pointer (some ⟨b4, 0, none⟩)), (8, .slice la tn lcap), (2, .slice ta tn tcap), (21, .bool true)]) (fun p => (bz, CB [.slice z1 m.tk.n zc1, .int .i64 m.tk.leak, .int .i64 m.tk.foot, .int .i64 m.start.lo, .int .i64 m.start.hi, .slice z2 m.es.length zc2] 46) :: (b9, CB [.slice c1 (l.addL x).tk.n cc1, .int .i64 (l.addL x).tk.leak, .int .i64 (l.addL x).tk.foot, .int .i64 (l.addL x).start.lo, .int .i64 (l.addL x).start.hi, .slice c2 (l.addL x).es.length cc2, .slice m1 (l.strL D).tk.n mc1, .int .i64 (l.strL D).tk.leak, .int .i64 (l.strL D).tk.foot, .int .i64 (l.strL D).start.lo, .int .i64 (l.strL D).start.hi, .slice m2 (l.strL D).es.length mc2] 46) :: (b4, CB [.slice a' l.tk.n cap', .int .i64 l.tk.leak, .int .i64 l.tk.foot, .int .i64 l.start.lo, .int .i64 l.start.hi, .slice ae' l.es.length cape'] 46) :: (b1, CB [.slice a l.tk.n cap, .int .i64 l.tk.leak, .int .i64 l.tk.foot, .int .i64 l.start.lo, .int .i64 l.start.hi, .slice ae l.es.length cape] 46) :: (H1 ++ (H2 ++ (Hl ++ p.2)))) (fun p => m.es.length - p.1) ((0, S2)) ⟨Nat.zero_le _, hS2⟩ (by repeat (first | exact trivial | refine ⟨by rfl, ?_⟩)) ((by (try simp only [List.append_assoc, List.cons_append, List.nil_append, List.set_cons_zero, List.set_cons_succ]); repeat (first | exact List.Sublist.refl _ | exact List.nil_sublist _ | exact List.sublist_append_left _ _ | apply List.Sublist.append_left | apply List.Sublist.cons_cons | apply List.Sublist.cons | refine List.Sublist.trans ?_ (List.sublist_append_right _ _)))) ?_
          rintro ⟨j, S3⟩ e ⟨hj, hS3⟩
          refine W_seq ?_
          refine W_region_lit (fun ds => ?_)
          refine WS_det hF (by rfl) (y_lss (by rfl) (by rfl)) ?_
          refine WS_nil ?_
          refine Then_normal ?_
          refine W_seq ?_
          refine W_cond (by rfl) (fun c20 => ?_) (fun c20 => ?_)
          ·
            try simp only [Bool.not_eq_true', Bool.not_eq_false', decide_eq_true_eq, decide_eq_false_iff_not, ne_eq, Classical.not_not, Int.not_lt, Int.not_le] at c20
            obtain ⟨by_, Sa, us, Sb, hz1, rfl, hle, hput⟩ := ho2.get (k := j) (by omega) hS3
            refine W_pull (by_, CB us 48) (by repeat (first | exact Pul.base0 | exact Pul.base | apply Pul.cons | apply Pul.app)) ?_
            refine W_skip ?_
            refine Then_normal ?_
            refine W_seq ?_
            refine W_block ?_
            refine W_seq ?_
            refine W_region_lit (fun ds => ?_)
            refine WS_det hF (by rfl) (y_move (c := .int .i64 _) (by rfl)) ?_
            refine WS_det hF (by rfl) (y_assign (c := .int .i64 _) (by rfl)) ?_
            refine WS_nil ?_
            refine Then_normal ?_
            refine W_region_lit (fun ds => ?_)
            refine WS_det hF (by rfl) (y_fieldAddr (by rfl) fa46_2) ?_
            refine WS_det hF (by rfl) (y_load1 (by rfl) Try.isAgg44 (Mem.own1 1 (by rfl) (by rfl))) ?_
            refine WS_det hF (by rfl) (y_move (c := .int .i64 _) (by rfl)) ?_
            rw [hz1]
            refine WS_det hF (by rfl) (y_index (k := j) (by rfl) (by rfl) (by first | rfl | omega) (by first | decide | omega) Try.runUnderlying44 Try.sizeOf48) ?_
            refine WS_det hF (by rfl) (y_fieldAddr (by rfl) fa48_0) ?_
            refine WS_store hF (i := 0) (by rfl) (by rfl) Try.sizeOf3 (by rfl) (by rfl) (by rfl) (by simp only [List.length_singleton]; omega) ?_
            refine WS_nil ?_
            refine InB_normal ?_
            refine Then_normal ?_
            refine W_push (M := (bz, _) :: (b9, _) :: (b4, _) :: (b1, _) :: (H1 ++ (H2 ++ (Hl ++ (Sa ++ (by_, CB (splice us (0 + j * 4 + 0) [.int .i64 (-7)]) 48) :: Sb))))) (by repeat (first | exact Pul.base0 | exact Pul.base | apply Pul.cons | apply Pul.app)) ?_
            obtain ⟨Sn, hSe, hSn⟩ : ∃ Sn, Sn = Sa ++ (by_, CB (splice us (0 + j * 4 + 0) [.int .i64 (-7)]) 48) :: Sb ∧ Shp (Hc1 ++ (Hc2 ++ (Hm1 ++ Hm2))) Sn := ⟨_, rfl, hput _ (length_splice (by simp only [List.length_singleton]; omega))⟩
            rw [← hSe]
            refine W_region_lit (fun ds => ?_)
            refine WS_det hF (by rfl) (y_add (by rfl) (by rfl) (by unfold I64; omega)) ?_
            refine WS_det hF (by rfl) (y_move (c := .int .i64 _) (by rfl)) ?_
            refine WS_nil ?_
            exact Loop_next (j + 1, Sn) ⟨by simp only; omega, hSn⟩ (by repeat (first | exact trivial | refine ⟨by rfl, ?_⟩)) (by (try simp only [List.append_assoc, List.cons_append, List.nil_append, List.set_cons_zero, List.set_cons_succ]); repeat (first | exact List.Sublist.refl _ | exact List.nil_sublist _ | exact List.sublist_append_left _ _ | apply List.Sublist.append_left | apply List.Sublist.cons_cons | apply List.Sublist.cons | refine List.Sublist.trans ?_ (List.sublist_append_right _ _))) (by simp only; omega)
          ·
            try simp only [Bool.not_eq_true', Bool.not_eq_false', decide_eq_true_eq, decide_eq_false_iff_not, ne_eq, Classical.not_not, Int.not_lt, Int.not_le] at c20
            refine W_exit ?_
            refine Then_exit ?_
            refine Loop_exit ?_
            refine InB_same ?_
            refine InB_normal ?_
            refine Then_normal ?_
            refine W_region_lit (fun ds => ?_)
            refine WS_det hF (by rfl) (y_add (by rfl) (by rfl) (by unfold I64; omega)) ?_
            refine WS_det hF (by rfl) (y_move (c := .int .i64 _) (by rfl)) ?_
            refine WS_nil ?_
            exact Loop_next (k + 1, S3) ⟨by simp only; omega, hS3⟩ (by repeat (first | exact trivial | refine ⟨by rfl, ?_⟩)) (by (try simp only [List.append_assoc, List.cons_append, List.nil_append, List.set_cons_zero, List.set_cons_succ]); repeat (first | exact List.Sublist.refl _ | exact List.nil_sublist _ | exact List.sublist_append_left _ _ | apply List.Sublist.append_left | apply List.Sublist.cons_cons | apply List.Sublist.cons | refine List.Sublist.trans ?_ (List.sublist_append_right _ _))) (by simp only; omega)
      ·
        try simp only [Bool.not_eq_true', Bool.not_eq_false', decide_eq_true_eq, decide_eq_false_iff_not, ne_eq, Classical.not_not, Int.not_lt, Int.not_le] at c12
        refine W_exit ?_
        refine Then_exit ?_
        refine Loop_exit ?_
        refine InB_same ?_
        refine Then_normal ?_
        refine W_seq ?_
        refine W_region_lit (fun ds => ?_)
        refine WS_det hF (by rfl) (y_move (c := .bool _) (by rfl)) ?_
        refine WS_det hF (by rfl) (y_move (c := .bool _) (by rfl)) ?_
        refine WS_split 135 (by rfl) (fun g25_1 => ?_) (fun g25_1 => ?_)
        ·
          try simp only [Bool.not_eq_true', Bool.not_eq_false', decide_eq_true_eq, decide_eq_false_iff_not, ne_eq, Classical.not_not, Int.not_lt, Int.not_le] at g25_1
          refine WS_det hF (by rfl) (y_loadN (by rfl) Try.isAgg46 Try.sizeOf46 (Mem.own (us := [.slice _ _ _, .int .i64 _, .int .i64 _, .int .i64 _, .int .i64 _, .slice _ _ _]) 1 (by rfl) (by rfl)) (by rfl)) ?_
          refine WS_det hF (by rfl) (y_loadN (by rfl) Try.isAgg46 Try.sizeOf46 (Mem.own (us := [.slice _ _ _, .int .i64 _, .int .i64 _, .int .i64 _, .int .i64 _, .slice _ _ _]) 2 (by rfl) (by rfl)) (by rfl)) ?_
          refine WS_det hF (by rfl) (y_callL (by rfl) (by rfl) Try.call30 (fun w hw => same_any l a cap ae cape a' cap' ae' cape' w hnes hn (hx.st w hw) (he.st w hw) (NewRow.ints hr1 hx.len (by (try simp only [List.append_assoc, List.cons_append, List.nil_append, List.set_cons_zero, List.set_cons_succ]); repeat (first | exact List.Sublist.refl _ | exact List.nil_sublist _ | exact List.sublist_append_left _ _ | apply List.Sublist.append_left | apply List.Sublist.cons_cons | apply List.Sublist.cons | refine List.Sublist.trans ?_ (List.sublist_append_right _ _))) w hw) (NewRow.rws en_len hr2 he.len (by (try simp only [List.append_assoc, List.cons_append, List.nil_append, List.set_cons_zero, List.set_cons_succ]); repeat (first | exact List.Sublist.refl _ | exact List.nil_sublist _ | exact List.sublist_append_left _ _ | apply List.Sublist.append_left | apply List.Sublist.cons_cons | apply List.Sublist.cons | refine List.Sublist.trans ?_ (List.sublist_append_right _ _))) w hw))) ?_
          refine WS_det hF (by rfl) (by first | exact y_pick_t (c := .bool _) (by rfl) (by rfl) | exact y_pick_f (c := .bool _) (by rfl) (by rfl)) ?_
          refine WS_det hF (by rfl) (y_move (c := .bool _) (by rfl)) ?_
          refine WS_det hF (by rfl) (y_move (c := .slice _ _ _) (by rfl)) ?_
          refine WS_det hF (by rfl) (y_move (c := .slice _ _ _) (by rfl)) ?_
          refine WS_det hF (by rfl) (y_callL (by rfl) (by rfl) Try.call21 (fun w hw => Ct_eq (sameInts_any la ta tn tn lcap tcap D D w htn (NewRow.ints hrl2 hD.len (by (try simp only [List.append_assoc, List.cons_append, List.nil_append, List.set_cons_zero, List.set_cons_succ]); repeat (first | exact List.Sublist.refl _ | exact List.nil_sublist _ | exact List.sublist_append_left _ _ | apply List.Sublist.append_left | apply List.Sublist.cons_cons | apply List.Sublist.cons | refine List.Sublist.trans ?_ (List.sublist_append_right _ _))) w hw) (hD.st w hw)) (show Value.bool (decide (D = D)) = .bool true by simp))) ?_
          refine WS_det hF (by rfl) (by first | exact y_pick_t (c := .bool _) (by rfl) (by rfl) | exact y_pick_f (c := .bool _) (by rfl) (by rfl)) ?_
          refine WS_det hF (by rfl) (y_assign (c := .bool _) (by rfl)) ?_
          refine WS_nil ?_
          refine Then_normal ?_
          refine W_ret ?_
          refine Fin_ret [.bool _] [] Try.results4 ⟨by rfl, trivial⟩ HSub.nil ?_
          rfl
        · cases g25_1
end Go.Proofs.Ythkimgfgpphgnaa.T

namespace Go.Proofs.Ythkimgfgpphgnaa
open Go.RowKit Go.Proofs Go.Eng Go.ChangeShapes Go.WideShapes Go.ChangeAt Go.Joins T
set_option maxRecDepth 100000
set_option linter.unusedVariables false

theorem walkTankChanges (v0 v1 v2 : Value) (W : World) (h0 : ∃ (l0 : Lg) (a0 : Option Addr) (cap0 : Nat) (ae0 : Option Addr) (cape0 : Nat), v0 = .agg #[.slice a0 l0.tk.n cap0, .int .i64 l0.tk.leak, .int .i64 l0.tk.foot, .int .i64 l0.start.lo, .int .i64 l0.start.hi, .slice ae0 l0.es.length cape0] ∧ Ints W a0 l0.tk.n cap0 l0.tk.pints ∧ Ens W ae0 l0.es.length cape0 l0.es) (h1 : ∃ x1 : En, v1 = .agg x1.cells.toArray) (h2 : ∃ (ta2 : Option Addr) (tn2 tcap2 : Nat) (D2 : List Int), v2 = .slice ta2 tn2 tcap2 ∧ Ints W ta2 tn2 tcap2 D2) :
    Calls Try.prog 4 #[v0, v1, v2] W fun e W' => e = .returned (.bool true) ∧ Below W.heap.size W W' := by
  obtain ⟨l0, a0, cap0, ae0, cape0, rfl, hx0, he0⟩ := h0
  obtain ⟨x1, rfl⟩ := h1
  obtain ⟨ta2, tn2, tcap2, D2, rfl, hD2⟩ := h2
  refine Calls.mono (tankChanges_any l0 a0 cap0 ae0 cape0 x1 ta2 tn2 tcap2 D2 W hx0 he0  hD2) ?_
  rintro e W' ⟨v, rfl, Hn, hb, _, rfl⟩
  exact ⟨rfl, hb⟩

theorem liftTankChanges (os : Os) (started : os.Started) (H : Type) (enc : TypeId × Value → H) :
    ReturnsInHanded {} Try.checked os 4 .any (Rows.tankChangesSpec.pre6 enc Try.prog Try.f4 Rows.tankChangesRow.domain false) (Rows.tankChangesSpec.post enc Try.prog Try.f4 false true false false) := by
  refine returnsInHanded_of_change (C := Try.checked) own started (by kernel_rfl) Try.func4
    (ChangeSpec.witness6 (enc := enc) (C := Try.checked) false ⟨#[], #[.agg #[.slice none 0 0, .int .i64 0, .int .i64 0, .int .i64 0, .int .i64 0, .slice none 0 0], .agg #[.int .i64 0, .int .i64 0, .int .i64 0, .int .i64 0], .slice none 0 0], []⟩ 8 (by kernel_rfl) (by kernel_rfl) (by kernel_rfl) (by kernel_rfl)) ?_
  intro W base args ds gs before hval0 hW hcnd _
  have hval : ∀ (j : Nat) t v, Try.f4.params[j]? = some t → args[j]? = some v → Value.okWide Try.prog W .any base t v := hval0
  have hW' := hW
  obtain ⟨p, q, hA0, hV, rfl, hfz, hnd⟩ := hW
  have hA : DataW.TrodAll enc Try.prog W 0 (fun _ => true) true Try.f4.params.toList args.toList ds p := hA0
  rw [Try.params4] at hA hval
  obtain ⟨v0, vs0, d0, ds0, p0, q0, hargs, rfl, rfl, h0, r0⟩ := trodAll_cons hA
  obtain ⟨v1, vs1, d1, ds1, p1, q1, rfl, rfl, rfl, h1, r1⟩ := trodAll_cons r0
  obtain ⟨v2, vs2, d2, ds2, p2, q2, rfl, rfl, rfl, h2, r2⟩ := trodAll_cons r1
  obtain ⟨rfl, rfl, rfl⟩ := trodAll_nil r2
  obtain rfl : args = #[v0, v1, v2] := by cases args; simp_all
  obtain ⟨rfl, rfl⟩ := trodVars_none hV
  have lt0 : ∀ x ∈ p0, x.block < W.heap.size := by obtain ⟨m, hm⟩ := h0; exact DataW.trod_lt m _ _ _ hm
  have lt1 : ∀ x ∈ p1, x.block < W.heap.size := by obtain ⟨m, hm⟩ := h1; exact DataW.trod_lt m _ _ _ hm
  have lt2 : ∀ x ∈ p2, x.block < W.heap.size := by obtain ⟨m, hm⟩ := h2; exact DataW.trod_lt m _ _ _ hm
  have o0 : ∃ (l0 : Lg) (a0 : Option Addr) (cap0 : Nat) (ae0 : Option Addr) (cape0 : Nat), v0 = .agg #[.slice a0 l0.tk.n cap0, .int .i64 l0.tk.leak, .int .i64 l0.tk.foot, .int .i64 l0.start.lo, .int .i64 l0.start.hi, .slice ae0 l0.es.length cape0] ∧ Ints W a0 l0.tk.n cap0 l0.tk.pints ∧ Ens W ae0 l0.es.length cape0 l0.es := open_log (hval 0 _ v0 rfl rfl) h0 (fun _ => rfl)
  have o1 : ∃ x1 : En, v1 = .agg x1.cells.toArray := open_entry (hval 1 _ v1 rfl rfl) h1
  have o2 : ∃ (ta2 : Option Addr) (tn2 tcap2 : Nat) (D2 : List Int), v2 = .slice ta2 tn2 tcap2 ∧ Ints W ta2 tn2 tcap2 D2 := open_intsV (hval 2 _ v2 rfl rfl) h2 (fun _ => rfl)
  clear hA0 hval0
  refine (walkTankChanges v0 v1 v2 W o0 o1 o2).mono fun e W' ⟨he, bel⟩ => ?_
  subst he
  exact ⟨_, rfl, _, _, _, [], _, [], hW', trodAll_mk1 (shut_bool Try.underlying4 _),
    (trodAll_cons_mk (Below.trod laidOut (by kernel_rfl) (of_decide_eq_true (by kernel_rfl)) h0 bel lt0) (trodAll_cons_mk (Below.trod laidOut (by kernel_rfl) (of_decide_eq_true (by kernel_rfl)) h1 bel lt1) (trodAll_cons_mk (Below.trod laidOut (by kernel_rfl) (of_decide_eq_true (by kernel_rfl)) h2 bel lt2) trodAll_mk0))), rfl, bel.frame _, fun h => by cases h⟩

theorem tankChanges : Rows.TankChangesSaid :=
  OpenClaim.holds_of_wide 4 Try.f4 rfl rfl rfl rfl rfl rfl rfl ⟨rfl, rfl, rfl, rfl, rfl⟩ rfl rfl rfl rfl rfl (by kernel_rfl) Try.func4 (by kernel_rfl)
    (of_decide_eq_true (by kernel_rfl)) (by unfold Func.isWrapper; first | (rw [if_pos (by decide +kernel)]; kernel_rfl) | (rw [if_neg (by decide +kernel)]; exact ⟨rfl, rfl⟩))
    (fun os started H enc _ => liftTankChanges os started H enc)
end Go.Proofs.Ythkimgfgpphgnaa
