/- Scopes through which no jump goes; labels. No project text. -/
import Derived.Test.YthkimgfgpphgnaaGreatMb3
import Derived.Laws.Bits64b
import Derived.MapKept
import Derived.Scope
set_option linter.unusedVariables false
set_option linter.unusedSimpArgs false
/- What the tank holds, the first truth, what was moved, what leaks behind a time: the walks. -/
namespace Go.Proofs.YthkimgfgpphgnaaGreat.T
open Go.RowKit Go.Proofs Go.Eng
set_option maxRecDepth 100000
set_option linter.unusedVariables false
set_option linter.unusedSimpArgs false



def Lg.holdsV (l : Lg) (i : Int) : Value :=
  if l.aerr = 0 then if inB 0 l.es.length [i] then .tuple #[.agg (l.at i.toNat).cells.toArray, .int .i64 0] else .tuple #[.agg Sn.z.cells.toArray, .int .i64 2] else .tuple #[.agg Sn.z.cells.toArray, .int .i64 l.aerr]
theorem holds_any (l : Lg) (a : Option Addr) (cap : Nat) (ae : Option Addr) (cape : Nat) (i : Int) (w : World) (hn : l.tk.n ≤ 1000000) (hx : Ints w a l.tk.n cap l.tk.pints) (he : Ens w ae l.es.length cape l.es) : Ct Tryz.prog 12 #[.agg #[.slice a l.tk.n cap, .int .i64 l.tk.leak, .int .i64 l.tk.foot, .int .i64 l.start.lo, .int .i64 l.start.hi, .slice ae l.es.length cape], .int .i64 i] w fun v _ => v = l.holdsV i := by
  have hF := wide_wide
  refine Ct_start (args := [_, _]) Tryz.func12 (by rfl) Tryz.ntmps12 (by rfl) ?_
  refine W_seq ?_
  refine W_region_lit (fun ds => ?_)
  refine WS_new hF (by rfl) (y_box (by rfl)) (fun b1 => ?_)
  refine WS_new hF (by rfl) (y_alloc Tryz.zeroValue26 (by rfl)) (fun b2 => ?_)
  refine WS_det hF (by rfl) (y_assign (c := .int .i64 _) (by rfl)) ?_
  refine WS_nil ?_
  refine Then_normal ?_
  refine W_seq ?_
  refine W_region_lit (fun ds => ?_)
  refine WS_det hF (by rfl) (y_loadN (by rfl) Tryz.isAgg29 Tryz.sizeOf29 (Mem.own (us := [.slice _ _ _, .int .i64 _, .int .i64 _, .int .i64 _, .int .i64 _, .slice _ _ _]) 1 (by rfl) (by rfl)) (by rfl)) ?_
  refine WS_gen hF (by rfl) (y_callL (by rfl) (by rfl) Tryz.call42 (fun w hw => asked_any l a cap ae cape w hn (hx.st w hw) (he.st w hw))) ?_
  rintro _ Hg ⟨p, rfl, hg1, hg2⟩
  refine WS_det hF (by rfl) (y_move (c := .tuple _) (by rfl)) ?_
  refine WS_det hF (by rfl) (y_extract (c := .pointer _) (by rfl) (by rfl)) ?_
  refine WS_det hF (by rfl) (y_extract (c := .int .i64 _) (by rfl) (by rfl)) ?_
  refine WS_det hF (by rfl) (y_assign (c := .pointer _) (by rfl)) ?_
  refine WS_det hF (by rfl) (y_assign (c := .int .i64 _) (by rfl)) ?_
  refine WS_nil ?_
  refine Then_normal ?_
  refine W_seq ?_
  refine W_seq ?_
  refine W_region_lit (fun ds => ?_)
  refine WS_det hF (by rfl) (y_move (c := .int .i64 _) (by rfl)) ?_
  refine WS_det hF (by rfl) (y_neq (by rfl) (by rfl)) ?_
  refine WS_nil ?_
  refine Then_normal ?_
  refine W_cond (by rfl) (fun c2 => ?_) (fun c2 => ?_)
  ·
    try simp only [Bool.not_eq_true', Bool.not_eq_false', decide_eq_true_eq, decide_eq_false_iff_not, ne_eq, Classical.not_not, Int.not_lt, Int.not_le] at c2
    obtain rfl := hg2 c2
    refine W_seq ?_
    refine W_region_lit (fun ds => ?_)
    refine WS_det hF (by rfl) (y_buildL bd26 (by rfl)) ?_
    refine WS_det hF (by rfl) (y_move (c := .int .i64 _) (by rfl)) ?_
    refine WS_store hF (i := 0) (by rfl) (by rfl) Tryz.sizeOf26 (by rfl) (by rfl) (by rfl) (by first | decide | exact Nat.le_of_ble_eq_true rfl | simp) ?_
    refine WS_det hF (by rfl) (y_assign (c := .int .i64 _) (by rfl)) ?_
    refine WS_nil ?_
    refine Then_normal ?_
    refine W_ret ?_
    refine Then_ret ?_
    refine Fin_ret [_, .int .i64 _] [] Tryz.results12 ⟨lvN (by rfl) Tryz.isAgg26 Tryz.sizeOf26 (Mem.own (us := [.int .i64 _, .int .i64 _]) 0 (by rfl) (by rfl)) (by rfl), by rfl, trivial⟩ HSub.nil ?_
    show Value.tuple _ = _
    unfold Lg.holdsV
    rw [if_neg c2]; rfl
  ·
    try simp only [Bool.not_eq_true', Bool.not_eq_false', decide_eq_true_eq, decide_eq_false_iff_not, ne_eq, Classical.not_not, Int.not_lt, Int.not_le] at c2
    obtain ⟨kb, rfl, bk, g, fb, capf, junk, ab, bb, rfl⟩ := hg1 c2
    have hok := l.ok_of (l.aerr0 c2).1
    have hne := (l.aerr0 c2).2
    have hfull := hok.tk.full_bd
    have hlb := hok.last_bd hne
    refine W_skip ?_
    refine Then_normal ?_
    refine W_seq ?_
    refine W_seq ?_
    refine W_region_lit (fun ds => ?_)
    refine WS_det hF (by rfl) (y_fieldAddr (by rfl) fa29_2) ?_
    refine WS_det hF (by rfl) (y_load1 (by rfl) Tryz.isAgg27 (Mem.own1 7 (by rfl) (by rfl))) ?_
    refine WS_det hF (by rfl) (y_len (by rfl) Tryz.runUnderlying27) ?_
    refine WS_det hF (by rfl) (y_move (c := .int .i64 _) (by rfl)) ?_
    refine WS_newS hF (by rfl) (y_buildSliceL bs22_1_0 (by rfl)) (fun b3 => ?_)
    refine WS_det hF (by rfl) (y_callL (by rfl) (by rfl) Tryz.call43 (fun w hw => in_any _ _ _ _ _ _ w (by decide) (by first | exact Ints.one 0 rfl w hw | exact Ints.two 0 rfl w hw))) ?_
    refine WS_det hF (by rfl) (y_not (by rfl)) ?_
    refine WS_nil ?_
    refine Then_normal ?_
    refine W_cond (by rfl) (fun c4 => ?_) (fun c4 => ?_)
    ·
      try simp only [Bool.not_eq_true', Bool.not_eq_false', decide_eq_true_eq, decide_eq_false_iff_not, ne_eq, Classical.not_not, Int.not_lt, Int.not_le] at c4
      refine W_seq ?_
      refine W_region_lit (fun ds => ?_)
      refine WS_det hF (by rfl) (y_buildL bd26 (by rfl)) ?_
      refine WS_store hF (i := 7) (by rfl) (by rfl) Tryz.sizeOf26 (by rfl) (by rfl) (by rfl) (by first | decide | exact Nat.le_of_ble_eq_true rfl | simp) ?_
      refine WS_det hF (by rfl) (y_assign (c := .int .i64 _) (by rfl)) ?_
      refine WS_nil ?_
      refine Then_normal ?_
      refine W_ret ?_
      refine Then_ret ?_
      refine Fin_ret [_, .int .i64 _] [] Tryz.results12 ⟨lvN (by rfl) Tryz.isAgg26 Tryz.sizeOf26 (Mem.own (us := [.int .i64 _, .int .i64 _]) 7 (by rfl) (by rfl)) (by rfl), by rfl, trivial⟩ HSub.nil ?_
      show Value.tuple _ = _
      unfold Lg.holdsV
      rw [if_pos c2, c4]; rfl
    ·
      try simp only [Bool.not_eq_true', Bool.not_eq_false', decide_eq_true_eq, decide_eq_false_iff_not, ne_eq, Classical.not_not, Int.not_lt, Int.not_le] at c4
      have hin := inB1.1 c4
      obtain ⟨k, rfl⟩ : ∃ k : Nat, i = (k : Int) := Int.eq_ofNat_of_zero_le hin.1
      refine W_skip ?_
      refine Then_normal ?_
      refine W_seq ?_
      refine W_region_lit (fun ds => ?_)
      refine WS_det hF (by rfl) (y_move (c := .pointer _) (by rfl)) ?_
      refine WS_det hF (by rfl) (y_move (c := .int .i64 _) (by rfl)) ?_
      refine WS_det hF (by rfl) (y_callL (by rfl) (by rfl) Tryz.call44 (fun w hw => at_any kb l k w (Kn.own (a := a) (cap := cap) (ae := ae) (cape := cape) (bk := bk) (g := g) (fb := fb) (capf := capf) (junk := junk) (ab := ab) (bb := bb) (by unfold knBlocks; repeat (first | exact List.Sublist.refl _ | exact List.nil_sublist _ | apply List.Sublist.cons_cons | apply List.Sublist.cons)) c2 hx he w hw) (by omega))) ?_
      refine WS_store hF (i := 7) (by rfl) (by rfl) Tryz.sizeOf26 (by rfl) (by rfl) (by rfl) (by first | decide | exact Nat.le_of_ble_eq_true rfl | simp) ?_
      refine WS_det hF (by rfl) (y_assign (c := .int .i64 _) (by rfl)) ?_
      refine WS_nil ?_
      refine Then_normal ?_
      refine W_ret ?_
      refine Fin_ret [_, .int .i64 _] [] Tryz.results12 ⟨lvN (by rfl) Tryz.isAgg26 Tryz.sizeOf26 (Mem.own (us := [.int .i64 _, .int .i64 _]) 7 (by rfl) (by rfl)) (by rfl), by rfl, trivial⟩ HSub.nil ?_
      show Value.tuple _ = _
      unfold Lg.holdsV
      rw [if_pos c2, c4, if_pos rfl, Int.toNat_natCast]; rfl
theorem before_m (bk : Nat) (l : Lg) (i : Nat) (m : Int) (s : Sn) (w : World) (hB : Bk w bk l) (hi : i < l.es.length) (hs : s.Sm) (hm : m = (i : Int)) :
    Ct Tryz.prog 46 #[.pointer (some ⟨bk, 0, none⟩), .int .i64 m, .agg s.cells.toArray] w fun v _ => v = .agg (l.before i s).cells.toArray := by
  subst hm; exact before_any bk l i s w hB hi hs
def Lg.moved (l : Lg) (k : Nat) : Sn := if (l.e k).kind = 2 then (l.e k).size.met ((l.before k (l.hold k)).sub (l.aft (k + 1))) else (l.e k).size.met ((l.aft (k + 1)).sub (l.before k (l.hold k)))
def Lg.movedV (l : Lg) (i : Int) : Value :=
  if l.aerr = 0 then if inB 1 l.es.length [i] && !decide ((l.e (i - 1).toNat).kind = 3) then .tuple #[.agg (l.moved (i - 1).toNat).cells.toArray, .int .i64 0] else .tuple #[.agg Sn.z.cells.toArray, .int .i64 2] else .tuple #[.agg Sn.z.cells.toArray, .int .i64 l.aerr]
theorem moved_any (l : Lg) (a : Option Addr) (cap : Nat) (ae : Option Addr) (cape : Nat) (i : Int) (w : World) (hn : l.tk.n ≤ 1000000) (hx : Ints w a l.tk.n cap l.tk.pints) (he : Ens w ae l.es.length cape l.es) : Ct Tryz.prog 16 #[.agg #[.slice a l.tk.n cap, .int .i64 l.tk.leak, .int .i64 l.tk.foot, .int .i64 l.start.lo, .int .i64 l.start.hi, .slice ae l.es.length cape], .int .i64 i] w fun v _ => v = l.movedV i := by
  have hF := wide_wide
  refine Ct_start (args := [_, _]) Tryz.func16 (by rfl) Tryz.ntmps16 (by rfl) ?_
  refine W_seq ?_
  refine W_region_lit (fun ds => ?_)
  refine WS_new hF (by rfl) (y_box (by rfl)) (fun b1 => ?_)
  refine WS_new hF (by rfl) (y_alloc Tryz.zeroValue26 (by rfl)) (fun b2 => ?_)
  refine WS_det hF (by rfl) (y_assign (c := .int .i64 _) (by rfl)) ?_
  refine WS_nil ?_
  refine Then_normal ?_
  refine W_seq ?_
  refine W_region_lit (fun ds => ?_)
  refine WS_det hF (by rfl) (y_loadN (by rfl) Tryz.isAgg29 Tryz.sizeOf29 (Mem.own (us := [.slice _ _ _, .int .i64 _, .int .i64 _, .int .i64 _, .int .i64 _, .slice _ _ _]) 1 (by rfl) (by rfl)) (by rfl)) ?_
  refine WS_gen hF (by rfl) (y_callL (by rfl) (by rfl) Tryz.call42 (fun w hw => asked_any l a cap ae cape w hn (hx.st w hw) (he.st w hw))) ?_
  rintro _ Hg ⟨p, rfl, hg1, hg2⟩
  refine WS_det hF (by rfl) (y_move (c := .tuple _) (by rfl)) ?_
  refine WS_det hF (by rfl) (y_extract (c := .pointer _) (by rfl) (by rfl)) ?_
  refine WS_det hF (by rfl) (y_extract (c := .int .i64 _) (by rfl) (by rfl)) ?_
  refine WS_det hF (by rfl) (y_assign (c := .pointer _) (by rfl)) ?_
  refine WS_det hF (by rfl) (y_assign (c := .int .i64 _) (by rfl)) ?_
  refine WS_nil ?_
  refine Then_normal ?_
  refine W_seq ?_
  refine W_seq ?_
  refine W_region_lit (fun ds => ?_)
  refine WS_det hF (by rfl) (y_move (c := .int .i64 _) (by rfl)) ?_
  refine WS_det hF (by rfl) (y_neq (by rfl) (by rfl)) ?_
  refine WS_nil ?_
  refine Then_normal ?_
  refine W_cond (by rfl) (fun c2 => ?_) (fun c2 => ?_)
  ·
    try simp only [Bool.not_eq_true', Bool.not_eq_false', decide_eq_true_eq, decide_eq_false_iff_not, ne_eq, Classical.not_not, Int.not_lt, Int.not_le] at c2
    obtain rfl := hg2 c2
    refine W_seq ?_
    refine W_region_lit (fun ds => ?_)
    refine WS_det hF (by rfl) (y_buildL bd26 (by rfl)) ?_
    refine WS_det hF (by rfl) (y_move (c := .int .i64 _) (by rfl)) ?_
    refine WS_store hF (i := 0) (by rfl) (by rfl) Tryz.sizeOf26 (by rfl) (by rfl) (by rfl) (by first | decide | exact Nat.le_of_ble_eq_true rfl | simp) ?_
    refine WS_det hF (by rfl) (y_assign (c := .int .i64 _) (by rfl)) ?_
    refine WS_nil ?_
    refine Then_normal ?_
    refine W_ret ?_
    refine Then_ret ?_
    refine Fin_ret [_, .int .i64 _] [] Tryz.results16 ⟨lvN (by rfl) Tryz.isAgg26 Tryz.sizeOf26 (Mem.own (us := [.int .i64 _, .int .i64 _]) 0 (by rfl) (by rfl)) (by rfl), by rfl, trivial⟩ HSub.nil ?_
    show Value.tuple _ = _
    unfold Lg.movedV
    rw [if_neg c2]; rfl
  ·
    try simp only [Bool.not_eq_true', Bool.not_eq_false', decide_eq_true_eq, decide_eq_false_iff_not, ne_eq, Classical.not_not, Int.not_lt, Int.not_le] at c2
    obtain ⟨kb, rfl, bk, g, fb, capf, junk, ab, bb, rfl⟩ := hg1 c2
    have hok := l.ok_of (l.aerr0 c2).1
    have hne := (l.aerr0 c2).2
    have hfull := hok.tk.full_bd
    have hlb := hok.last_bd hne
    have h12 := hok.n12
    refine W_skip ?_
    refine Then_normal ?_
    refine W_seq ?_
    refine W_seq ?_
    refine W_region_lit (fun ds => ?_)
    refine WS_det hF (by rfl) (y_fieldAddr (by rfl) fa29_2) ?_
    refine WS_det hF (by rfl) (y_load1 (by rfl) Tryz.isAgg27 (Mem.own1 7 (by rfl) (by rfl))) ?_
    refine WS_det hF (by rfl) (y_len (by rfl) Tryz.runUnderlying27) ?_
    refine WS_det hF (by rfl) (y_move (c := .int .i64 _) (by rfl)) ?_
    refine WS_newS hF (by rfl) (y_buildSliceL bs22_1_0 (by rfl)) (fun b3 => ?_)
    refine WS_det hF (by rfl) (y_callL (by rfl) (by rfl) Tryz.call43 (fun w hw => in_any _ _ _ _ _ _ w (by decide) (by first | exact Ints.one 0 rfl w hw | exact Ints.two 0 rfl w hw))) ?_
    refine WS_det hF (by rfl) (y_not (by rfl)) ?_
    refine WS_det hF (by rfl) (y_move (c := .bool _) (by rfl)) ?_
    refine WS_split 27 (by rfl) (fun g4_7 => ?_) (fun g4_7 => ?_)
    ·
      try simp only [Bool.not_eq_true', Bool.not_eq_false', decide_eq_true_eq, decide_eq_false_iff_not, ne_eq, Classical.not_not, Int.not_lt, Int.not_le] at g4_7
      refine WS_no hF (by rfl) ?_
      refine WS_no hF (by rfl) ?_
      refine WS_no hF (by rfl) ?_
      refine WS_no hF (by rfl) ?_
      refine WS_no hF (by rfl) ?_
      refine WS_no hF (by rfl) ?_
      refine WS_no hF (by rfl) ?_
      refine WS_no hF (by rfl) ?_
      refine WS_det hF (by rfl) (by first | exact y_pick_t (c := .bool _) (by rfl) (by rfl) | exact y_pick_f (c := .bool _) (by rfl) (by rfl)) ?_
      refine WS_nil ?_
      refine Then_normal ?_
      refine W_cond (by rfl) (fun c4 => ?_) (fun c4 => ?_)
      ·
        try simp only [Bool.not_eq_true', Bool.not_eq_false', decide_eq_true_eq, decide_eq_false_iff_not, ne_eq, Classical.not_not, Int.not_lt, Int.not_le] at c4
        refine W_seq ?_
        refine W_region_lit (fun ds => ?_)
        refine WS_det hF (by rfl) (y_buildL bd26 (by rfl)) ?_
        refine WS_store hF (i := 7) (by rfl) (by rfl) Tryz.sizeOf26 (by rfl) (by rfl) (by rfl) (by first | decide | exact Nat.le_of_ble_eq_true rfl | simp) ?_
        refine WS_det hF (by rfl) (y_assign (c := .int .i64 _) (by rfl)) ?_
        refine WS_nil ?_
        refine Then_normal ?_
        refine W_ret ?_
        refine Then_ret ?_
        refine Fin_ret [_, .int .i64 _] [] Tryz.results16 ⟨lvN (by rfl) Tryz.isAgg26 Tryz.sizeOf26 (Mem.own (us := [.int .i64 _, .int .i64 _]) 7 (by rfl) (by rfl)) (by rfl), by rfl, trivial⟩ HSub.nil ?_
        show Value.tuple _ = _
        unfold Lg.movedV
        rw [if_pos c2, g4_7]; rfl
      · cases c4
    ·
      try simp only [Bool.not_eq_true', Bool.not_eq_false', decide_eq_true_eq, decide_eq_false_iff_not, ne_eq, Classical.not_not, Int.not_lt, Int.not_le] at g4_7
      have hin := inB1.1 g4_7
      obtain ⟨k, rfl⟩ : ∃ k : Nat, i = (k : Int) + 1 := ⟨(i - 1).toNat, by omega⟩
      obtain ⟨b, o, rfl, hc⟩ := he.cell k (by omega)
      change At w b _ (l.e k).cells at hc
      have hk : k < l.es.length := by omega
      have hsm := hok.hold_sm (k := k) (by omega) (fun j hj => hne j (by omega)) (hne k (by omega))
      have hdr := hok.drip_bd hk
      have hab := hok.aft_bd (i := k + 1) (by omega)
      have hbs : (l.before k (l.hold k)).Sm := by
        unfold Sn.Sm at hsm ⊢
        unfold Lg.before
        simp only
        omega
      have has : (l.aft (k + 1)).Sm := by unfold Sn.Sm; omega
      have hkk : ((k : Int) + 1 - 1).toNat = k := by omega
      refine WS_det hF (by rfl) (y_fieldAddr (by rfl) fa29_2) ?_
      refine WS_det hF (by rfl) (y_load1 (by rfl) Tryz.isAgg27 (Mem.own1 8 (by rfl) (by rfl))) ?_
      refine WS_det hF (by rfl) (y_move (c := .int .i64 _) (by rfl)) ?_
      refine WS_det hF (by rfl) (y_sub (by rfl) (by rfl) (by unfold I64; omega)) ?_
      refine WS_det hF (by rfl) (y_index (k := k) (by rfl) (by rfl) (by first | rfl | omega) (by first | decide | omega) Tryz.runUnderlying27 Tryz.sizeOf38) ?_
      refine WS_det hF (by rfl) (y_fieldAddr (by rfl) fa38_1) ?_
      refine WS_det hF (by rfl) (y_load1 (by rfl) Tryz.isAgg3 (by first | exact Mem.old1 (by assumption) | exact Mem.oldAt1 (by assumption) (by rfl) | exact Mem.old (by assumption) | exact Mem.oldAtL1 (by assumption) (by rfl) (by rfl))) ?_
      refine WS_det hF (by rfl) (y_eql (by rfl) (by rfl)) ?_
      refine WS_det hF (by rfl) (by first | exact y_pick_t (c := .bool _) (by rfl) (by rfl) | exact y_pick_f (c := .bool _) (by rfl) (by rfl)) ?_
      refine WS_nil ?_
      refine Then_normal ?_
      refine W_cond (by rfl) (fun c4 => ?_) (fun c4 => ?_)
      ·
        try simp only [Bool.not_eq_true', Bool.not_eq_false', decide_eq_true_eq, decide_eq_false_iff_not, ne_eq, Classical.not_not, Int.not_lt, Int.not_le] at c4
        refine W_seq ?_
        refine W_region_lit (fun ds => ?_)
        refine WS_det hF (by rfl) (y_buildL bd26 (by rfl)) ?_
        refine WS_store hF (i := 7) (by rfl) (by rfl) Tryz.sizeOf26 (by rfl) (by rfl) (by rfl) (by first | decide | exact Nat.le_of_ble_eq_true rfl | simp) ?_
        refine WS_det hF (by rfl) (y_assign (c := .int .i64 _) (by rfl)) ?_
        refine WS_nil ?_
        refine Then_normal ?_
        refine W_ret ?_
        refine Then_ret ?_
        refine Fin_ret [_, .int .i64 _] [] Tryz.results16 ⟨lvN (by rfl) Tryz.isAgg26 Tryz.sizeOf26 (Mem.own (us := [.int .i64 _, .int .i64 _]) 7 (by rfl) (by rfl)) (by rfl), by rfl, trivial⟩ HSub.nil ?_
        show Value.tuple _ = _
        unfold Lg.movedV
        rw [if_pos c2, if_neg (by rw [g4_7, Bool.true_and, hkk, decide_eq_true c4]; exact Bool.false_ne_true)]; rfl
      ·
        try simp only [Bool.not_eq_true', Bool.not_eq_false', decide_eq_true_eq, decide_eq_false_iff_not, ne_eq, Classical.not_not, Int.not_lt, Int.not_le] at c4
        refine W_skip ?_
        refine Then_normal ?_
        refine W_seq ?_
        apply W_drawMT 33 hF Tryzmixed [] [] [8, 9] (by rfl) (by decide +kernel) (by decide) HSub.refl
        intro ds
        refine P_det (by rfl) (Over_nil (y_fieldAddr (by rfl) fa29_2)) ?_
        refine P_det (by rfl) (Over_nil (y_load1 (by rfl) Tryz.isAgg27 (Mem.own1 8 (by rfl) (by rfl)))) ?_
        refine P_det (by rfl) (Over_nil (y_move (c := .int .i64 _) (by rfl))) ?_
        refine P_det (by rfl) (Over_nil (y_sub (by rfl) (by rfl) (by unfold I64; omega))) ?_
        refine P_det (by rfl) (Over_nil (y_index (k := k) (by rfl) (by rfl) (by first | rfl | omega) (by first | decide | omega) Tryz.runUnderlying27 Tryz.sizeOf38)) ?_
        refine P_det (by rfl) (Over_nil (y_loadN (by rfl) Tryz.isAgg38 Tryz.sizeOf38 (by first | exact Mem.old (by assumption) | exact Mem.oldAt (us := [.int .i64 _, .int .i64 _, .int .i64 _, .int .i64 _]) (by assumption) (by rfl) | exact Mem.oldAtL (us := [.int .i64 _, .int .i64 _, .int .i64 _, .int .i64 _]) (by assumption) (by rfl) (by rfl)) (by rfl))) ?_
        refine P_det (by rfl) (Over_nil (y_move (c := .pointer _) (by rfl))) ?_
        refine P_det (by rfl) (Over_nil (by first | exact y_nilCheck (by rfl) | exact y_nilCheckF (by rfl))) ?_
        refine P_det (by rfl) (Over_nil (y_fieldAddr (by rfl) fa79_0)) ?_
        refine P_det (by rfl) (Over_nil (y_load1 (by rfl) Tryz.isAgg76 (Mem.own1 1 (by rfl) (by rfl)))) ?_
        refine P_det (by rfl) (Over_nil (y_move (c := .int .i64 _) (by rfl))) ?_
        refine P_det (by rfl) (Over_nil (y_sub (by rfl) (by rfl) (by unfold I64; omega))) ?_
        refine P_det (by rfl) (Over_nil (y_move (c := .pointer _) (by rfl))) ?_
        refine P_det (by rfl) (Over_nil (by first | exact y_nilCheck (by rfl) | exact y_nilCheckF (by rfl))) ?_
        refine P_det (by rfl) (Over_nil (y_fieldAddr (by rfl) fa79_1)) ?_
        refine P_det (by rfl) (Over_nil (y_load1 (by rfl) Tryz.isAgg77 (Mem.own1 1 (by rfl) (by rfl)))) ?_
        refine P_det (by rfl) (Over_nil (y_move (c := .int .i64 _) (by rfl))) ?_
        refine P_det (by rfl) (Over_nil (y_sub (by rfl) (by rfl) (by unfold I64; omega))) ?_
        refine P_det (by rfl) (Over_nil (y_index (k := k) (by rfl) (by rfl) (by first | rfl | omega) (by first | decide | omega) Tryz.runUnderlying77 Tryz.sizeOf26)) ?_
        refine P_det (by rfl) (Over_nil (y_loadN (by rfl) Tryz.isAgg26 Tryz.sizeOf26 (Mem.rowJ sn_len 2 (by rfl) (k := k) (by omega) rfl (by omega)) (by rfl))) ?_
        refine P_det (by rfl) (Over_nil (y_callL (by rfl) (by rfl) Tryz.call46 (fun w hw => before_m bk l k _ (l.hold k) w (Bk.own (by repeat (first | exact List.mem_cons_self | apply List.mem_cons_of_mem)) (by repeat (first | exact List.mem_cons_self | apply List.mem_cons_of_mem)) hok hx he w hw) hk hsm (by omega)))) ?_
        refine P_det (by rfl) (Over_nil (y_move (c := .pointer _) (by rfl))) ?_
        refine P_det (by rfl) (Over_nil (by first | exact y_nilCheck (by rfl) | exact y_nilCheckF (by rfl))) ?_
        refine P_det (by rfl) (Over_nil (y_fieldAddr (by rfl) fa79_2)) ?_
        refine P_det (by rfl) (Over_nil (y_load1 (by rfl) Tryz.isAgg77 (Mem.own1 1 (by rfl) (by rfl)))) ?_
        refine P_det (by rfl) (Over_nil (y_move (c := .int .i64 _) (by rfl))) ?_
        refine P_det (by rfl) (Over_nil (y_index (k := k + 1) (by rfl) (by rfl) (by first | rfl | omega) (by first | decide | omega) Tryz.runUnderlying77 Tryz.sizeOf26)) ?_
        refine P_det (by rfl) (Over_nil (y_loadN (by rfl) Tryz.isAgg26 Tryz.sizeOf26 (Mem.row sn_len 3 (by rfl) (k := k + 1) (by omega) rfl (by omega)) (by rfl))) ?_
        apply P_newS _ (by rfl) (by rfl) (by rfl) (Over_nil (y_alloc Tryz.zeroValue38 (by rfl)))
        apply P_newS _ (by rfl) (by rfl) (by rfl) (Over_out (by rfl) (Over_nil (y_alloc Tryz.zeroValue26 (by rfl))))
        refine P_new (by rfl) (by rfl) (Over_out (by rfl) (Over_out (by rfl) (Over_nil (y_alloc Tryz.zeroValue26 (by rfl))))) ?_
        refine P_st 8 2 (by rfl) (by rfl) (by rfl) (by rfl) (by rfl) (Over_out (by rfl) (Over_out (by rfl) (Over_nil (st_new (fun _ => by rfl) Tryz.sizeOf38 (by rfl) (by rfl) (by first | decide | exact Nat.le_of_ble_eq_true rfl | simp))))) ?_
        refine P_st 9 1 (by rfl) (by rfl) (by rfl) (by rfl) (by rfl) (Over_out (by rfl) (Over_out (by rfl) (Over_nil (st_new (fun _ => by rfl) Tryz.sizeOf26 (by rfl) (by rfl) (by first | decide | exact Nat.le_of_ble_eq_true rfl | simp))))) ?_
        refine PW_end (by rfl) ?_
        refine OverAll_cons (fun w10 l10 => ?_)
        refine OverAll_cons (fun w9 l9 => ?_)
        refine OverAll_cons (fun w8 l8 => ?_)
        refine OverAll_nil ?_
        rintro ⟨⟨⟨-, h10⟩, h9⟩, h8⟩
        obtain ⟨bx10, rfl, rfl⟩ := h10
        obtain ⟨bx8, rfl, rfl⟩ := h8
        obtain ⟨bx9, rfl, rfl⟩ := h9
        refine WS_store hF (i := 2) (by rfl) (by rfl) Tryz.sizeOf26 (by rfl) (by rfl) (by rfl) (by first | decide | exact Nat.le_of_ble_eq_true rfl | simp) ?_
        refine WS_nil ?_
        refine Then_normal ?_
        refine W_seq ?_
        refine W_seq ?_
        refine W_region_lit (fun ds => ?_)
        refine WS_det hF (by rfl) (y_fieldAddr (by rfl) fa38_1) ?_
        refine WS_det hF (by rfl) (y_load1 (by rfl) Tryz.isAgg3 (Mem.own1 0 (by rfl) (by rfl))) ?_
        refine WS_det hF (by rfl) (y_eql (by rfl) (by rfl)) ?_
        refine WS_nil ?_
        refine Then_normal ?_
        refine W_cond (by rfl) (fun c7 => ?_) (fun c7 => ?_)
        ·
          try simp only [Bool.not_eq_true', Bool.not_eq_false', decide_eq_true_eq, decide_eq_false_iff_not, ne_eq, Classical.not_not, Int.not_lt, Int.not_le] at c7
          refine W_region_lit (fun ds => ?_)
          refine WS_det hF (by rfl) (y_loadN (by rfl) Tryz.isAgg26 Tryz.sizeOf26 (Mem.own (us := [.int .i64 _, .int .i64 _]) 2 (by rfl) (by rfl)) (by rfl)) ?_
          refine WS_det hF (by rfl) (y_loadN (by rfl) Tryz.isAgg26 Tryz.sizeOf26 (Mem.own (us := [.int .i64 _, .int .i64 _]) 1 (by rfl) (by rfl)) (by rfl)) ?_
          refine WS_store hF (i := 1) (by rfl) (by rfl) Tryz.sizeOf26 (by rfl) (by rfl) (by rfl) (by first | decide | exact Nat.le_of_ble_eq_true rfl | simp) ?_
          refine WS_store hF (i := 2) (by rfl) (by rfl) Tryz.sizeOf26 (by rfl) (by rfl) (by rfl) (by first | decide | exact Nat.le_of_ble_eq_true rfl | simp) ?_
          refine WS_nil ?_
          refine Then_normal ?_
          refine W_seq ?_
          apply W_draw1 hF Tryzmixed [1000000] (i := 10) (by rfl) (by decide +kernel)
          intro ds
          refine P_det (by rfl) (Over_out (by rfl) (Over_nil (y_fieldAddr (by rfl) fa38_2))) ?_
          refine P_det (by rfl) (Over_out (by rfl) (Over_nil (y_loadN (by rfl) Tryz.isAgg26 Tryz.sizeOf26 (Mem.own (us := [.int .i64 _, .int .i64 _]) 0 (by rfl) (by rfl)) (by rfl)))) ?_
          refine P_det (by rfl) (Over_out (by rfl) (Over_nil (y_loadN (by rfl) Tryz.isAgg26 Tryz.sizeOf26 (Mem.own (us := [.int .i64 _, .int .i64 _]) 2 (by rfl) (by rfl)) (by rfl)))) ?_
          refine P_det (by rfl) (Over_out (by rfl) (Over_nil (y_loadN (by rfl) Tryz.isAgg26 Tryz.sizeOf26 (Mem.own (us := [.int .i64 _, .int .i64 _]) 1 (by rfl) (by rfl)) (by rfl)))) ?_
          refine P_det (by rfl) (Over_out (by rfl) (Over_nil (y_callL (by rfl) (by rfl) Tryz.call48 (fun w hw => change_any (l.before k (l.hold k)) (l.aft (k + 1)) w hbs has)))) ?_
          refine P_det (by rfl) (Over_out (by rfl) (Over_nil (y_callL (by rfl) (by rfl) Tryz.call47 (fun w hw => met_any _ _ _ _ w)))) ?_
          refine P_st 1000000 0 (by rfl) (by rfl) (by rfl) (by rfl) (by rfl) (Over_nil (st_pre (fun _ => by rfl) (fun _ => by rfl) Tryz.sizeOf26 (by rfl) (by rfl) (by first | decide | exact Nat.le_of_ble_eq_true rfl | simp))) ?_
          refine P_det (by rfl) (Over_out (by rfl) (Over_nil (y_assign (c := .int .i64 _) (by rfl)))) ?_
          refine PW_end (by rfl) ?_
          refine OverAll_cons (fun w1000000 l1000000 => ?_)
          refine OverAll_nil ?_
          rintro ⟨-, h1000000⟩
          obtain rfl := h1000000
          refine Then_normal ?_
          refine W_ret ?_
          refine Fin_ret [_, .int .i64 _] [] Tryz.results16 ⟨lvN (by rfl) Tryz.isAgg26 Tryz.sizeOf26 (Mem.own (us := [.int .i64 _, .int .i64 _]) 0 (by rfl) (by rfl)) (by rfl), by rfl, trivial⟩ HSub.nil ?_
          show Value.tuple _ = _
          unfold Lg.movedV
          rw [if_pos c2, if_pos (by rw [g4_7, Bool.true_and, hkk, decide_eq_false c4]; rfl), hkk, Lg.moved, if_pos c7]; rfl
        ·
          try simp only [Bool.not_eq_true', Bool.not_eq_false', decide_eq_true_eq, decide_eq_false_iff_not, ne_eq, Classical.not_not, Int.not_lt, Int.not_le] at c7
          refine W_skip ?_
          refine Then_normal ?_
          refine W_seq ?_
          apply W_draw1 hF Tryzmixed [1000000] (i := 10) (by rfl) (by decide +kernel)
          intro ds
          refine P_det (by rfl) (Over_out (by rfl) (Over_nil (y_fieldAddr (by rfl) fa38_2))) ?_
          refine P_det (by rfl) (Over_out (by rfl) (Over_nil (y_loadN (by rfl) Tryz.isAgg26 Tryz.sizeOf26 (Mem.own (us := [.int .i64 _, .int .i64 _]) 0 (by rfl) (by rfl)) (by rfl)))) ?_
          refine P_det (by rfl) (Over_out (by rfl) (Over_nil (y_loadN (by rfl) Tryz.isAgg26 Tryz.sizeOf26 (Mem.own (us := [.int .i64 _, .int .i64 _]) 2 (by rfl) (by rfl)) (by rfl)))) ?_
          refine P_det (by rfl) (Over_out (by rfl) (Over_nil (y_loadN (by rfl) Tryz.isAgg26 Tryz.sizeOf26 (Mem.own (us := [.int .i64 _, .int .i64 _]) 1 (by rfl) (by rfl)) (by rfl)))) ?_
          refine P_det (by rfl) (Over_out (by rfl) (Over_nil (y_callL (by rfl) (by rfl) Tryz.call48 (fun w hw => change_any (l.aft (k + 1)) (l.before k (l.hold k)) w has hbs)))) ?_
          refine P_det (by rfl) (Over_out (by rfl) (Over_nil (y_callL (by rfl) (by rfl) Tryz.call47 (fun w hw => met_any _ _ _ _ w)))) ?_
          refine P_st 1000000 0 (by rfl) (by rfl) (by rfl) (by rfl) (by rfl) (Over_nil (st_pre (fun _ => by rfl) (fun _ => by rfl) Tryz.sizeOf26 (by rfl) (by rfl) (by first | decide | exact Nat.le_of_ble_eq_true rfl | simp))) ?_
          refine P_det (by rfl) (Over_out (by rfl) (Over_nil (y_assign (c := .int .i64 _) (by rfl)))) ?_
          refine PW_end (by rfl) ?_
          refine OverAll_cons (fun w1000000 l1000000 => ?_)
          refine OverAll_nil ?_
          rintro ⟨-, h1000000⟩
          obtain rfl := h1000000
          refine Then_normal ?_
          refine W_ret ?_
          refine Fin_ret [_, .int .i64 _] [] Tryz.results16 ⟨lvN (by rfl) Tryz.isAgg26 Tryz.sizeOf26 (Mem.own (us := [.int .i64 _, .int .i64 _]) 0 (by rfl) (by rfl)) (by rfl), by rfl, trivial⟩ HSub.nil ?_
          show Value.tuple _ = _
          unfold Lg.movedV
          rw [if_pos c2, if_pos (by rw [g4_7, Bool.true_and, hkk, decide_eq_false c4]; rfl), hkk, Lg.moved, if_neg c7]; rfl
def Lg.lostV (l : Lg) (i : Int) : Value :=
  if l.aerr = 0 then if inB 1 ((l.es.length : Int) - 1) [i] then .tuple #[.agg ((Sn.met ⟨0, l.drip i.toNat⟩ ((l.hold i.toNat).sub (l.ahd i.toNat)))).cells.toArray, .int .i64 0] else .tuple #[.agg Sn.z.cells.toArray, .int .i64 2] else .tuple #[.agg Sn.z.cells.toArray, .int .i64 l.aerr]
theorem lost_any (l : Lg) (a : Option Addr) (cap : Nat) (ae : Option Addr) (cape : Nat) (i : Int) (w : World) (hn : l.tk.n ≤ 1000000) (hx : Ints w a l.tk.n cap l.tk.pints) (he : Ens w ae l.es.length cape l.es) : Ct Tryz.prog 17 #[.agg #[.slice a l.tk.n cap, .int .i64 l.tk.leak, .int .i64 l.tk.foot, .int .i64 l.start.lo, .int .i64 l.start.hi, .slice ae l.es.length cape], .int .i64 i] w fun v _ => v = l.lostV i := by
  have hF := wide_wide
  refine Ct_start (args := [_, _]) Tryz.func17 (by rfl) Tryz.ntmps17 (by rfl) ?_
  refine W_seq ?_
  refine W_region_lit (fun ds => ?_)
  refine WS_new hF (by rfl) (y_box (by rfl)) (fun b1 => ?_)
  refine WS_new hF (by rfl) (y_alloc Tryz.zeroValue26 (by rfl)) (fun b2 => ?_)
  refine WS_det hF (by rfl) (y_assign (c := .int .i64 _) (by rfl)) ?_
  refine WS_nil ?_
  refine Then_normal ?_
  refine W_seq ?_
  refine W_region_lit (fun ds => ?_)
  refine WS_det hF (by rfl) (y_loadN (by rfl) Tryz.isAgg29 Tryz.sizeOf29 (Mem.own (us := [.slice _ _ _, .int .i64 _, .int .i64 _, .int .i64 _, .int .i64 _, .slice _ _ _]) 1 (by rfl) (by rfl)) (by rfl)) ?_
  refine WS_gen hF (by rfl) (y_callL (by rfl) (by rfl) Tryz.call42 (fun w hw => asked_any l a cap ae cape w hn (hx.st w hw) (he.st w hw))) ?_
  rintro _ Hg ⟨p, rfl, hg1, hg2⟩
  refine WS_det hF (by rfl) (y_move (c := .tuple _) (by rfl)) ?_
  refine WS_det hF (by rfl) (y_extract (c := .pointer _) (by rfl) (by rfl)) ?_
  refine WS_det hF (by rfl) (y_extract (c := .int .i64 _) (by rfl) (by rfl)) ?_
  refine WS_det hF (by rfl) (y_assign (c := .pointer _) (by rfl)) ?_
  refine WS_det hF (by rfl) (y_assign (c := .int .i64 _) (by rfl)) ?_
  refine WS_nil ?_
  refine Then_normal ?_
  refine W_seq ?_
  refine W_seq ?_
  refine W_region_lit (fun ds => ?_)
  refine WS_det hF (by rfl) (y_move (c := .int .i64 _) (by rfl)) ?_
  refine WS_det hF (by rfl) (y_neq (by rfl) (by rfl)) ?_
  refine WS_nil ?_
  refine Then_normal ?_
  refine W_cond (by rfl) (fun c2 => ?_) (fun c2 => ?_)
  ·
    try simp only [Bool.not_eq_true', Bool.not_eq_false', decide_eq_true_eq, decide_eq_false_iff_not, ne_eq, Classical.not_not, Int.not_lt, Int.not_le] at c2
    obtain rfl := hg2 c2
    refine W_seq ?_
    refine W_region_lit (fun ds => ?_)
    refine WS_det hF (by rfl) (y_buildL bd26 (by rfl)) ?_
    refine WS_det hF (by rfl) (y_move (c := .int .i64 _) (by rfl)) ?_
    refine WS_store hF (i := 0) (by rfl) (by rfl) Tryz.sizeOf26 (by rfl) (by rfl) (by rfl) (by first | decide | exact Nat.le_of_ble_eq_true rfl | simp) ?_
    refine WS_det hF (by rfl) (y_assign (c := .int .i64 _) (by rfl)) ?_
    refine WS_nil ?_
    refine Then_normal ?_
    refine W_ret ?_
    refine Then_ret ?_
    refine Fin_ret [_, .int .i64 _] [] Tryz.results17 ⟨lvN (by rfl) Tryz.isAgg26 Tryz.sizeOf26 (Mem.own (us := [.int .i64 _, .int .i64 _]) 0 (by rfl) (by rfl)) (by rfl), by rfl, trivial⟩ HSub.nil ?_
    show Value.tuple _ = _
    unfold Lg.lostV
    rw [if_neg c2]; rfl
  ·
    try simp only [Bool.not_eq_true', Bool.not_eq_false', decide_eq_true_eq, decide_eq_false_iff_not, ne_eq, Classical.not_not, Int.not_lt, Int.not_le] at c2
    obtain ⟨kb, rfl, bk, g, fb, capf, junk, ab, bb, rfl⟩ := hg1 c2
    have hok := l.ok_of (l.aerr0 c2).1
    have hne := (l.aerr0 c2).2
    have hfull := hok.tk.full_bd
    have hlb := hok.last_bd hne
    have h12 := hok.n12
    refine W_skip ?_
    refine Then_normal ?_
    refine W_seq ?_
    refine W_seq ?_
    refine W_region_lit (fun ds => ?_)
    refine WS_det hF (by rfl) (y_fieldAddr (by rfl) fa29_2) ?_
    refine WS_det hF (by rfl) (y_load1 (by rfl) Tryz.isAgg27 (Mem.own1 7 (by rfl) (by rfl))) ?_
    refine WS_det hF (by rfl) (y_len (by rfl) Tryz.runUnderlying27) ?_
    refine WS_det hF (by rfl) (y_sub (by rfl) (by rfl) (by unfold I64; omega)) ?_
    refine WS_det hF (by rfl) (y_move (c := .int .i64 _) (by rfl)) ?_
    refine WS_newS hF (by rfl) (y_buildSliceL bs22_1_0 (by rfl)) (fun b3 => ?_)
    refine WS_det hF (by rfl) (y_callL (by rfl) (by rfl) Tryz.call43 (fun w hw => in_any _ _ _ _ _ _ w (by decide) (by first | exact Ints.one 0 rfl w hw | exact Ints.two 0 rfl w hw))) ?_
    refine WS_det hF (by rfl) (y_not (by rfl)) ?_
    refine WS_nil ?_
    refine Then_normal ?_
    refine W_cond (by rfl) (fun c4 => ?_) (fun c4 => ?_)
    ·
      try simp only [Bool.not_eq_true', Bool.not_eq_false', decide_eq_true_eq, decide_eq_false_iff_not, ne_eq, Classical.not_not, Int.not_lt, Int.not_le] at c4
      refine W_seq ?_
      refine W_region_lit (fun ds => ?_)
      refine WS_det hF (by rfl) (y_buildL bd26 (by rfl)) ?_
      refine WS_store hF (i := 7) (by rfl) (by rfl) Tryz.sizeOf26 (by rfl) (by rfl) (by rfl) (by first | decide | exact Nat.le_of_ble_eq_true rfl | simp) ?_
      refine WS_det hF (by rfl) (y_assign (c := .int .i64 _) (by rfl)) ?_
      refine WS_nil ?_
      refine Then_normal ?_
      refine W_ret ?_
      refine Then_ret ?_
      refine Fin_ret [_, .int .i64 _] [] Tryz.results17 ⟨lvN (by rfl) Tryz.isAgg26 Tryz.sizeOf26 (Mem.own (us := [.int .i64 _, .int .i64 _]) 7 (by rfl) (by rfl)) (by rfl), by rfl, trivial⟩ HSub.nil ?_
      show Value.tuple _ = _
      unfold Lg.lostV
      rw [if_pos c2, c4]; rfl
    ·
      try simp only [Bool.not_eq_true', Bool.not_eq_false', decide_eq_true_eq, decide_eq_false_iff_not, ne_eq, Classical.not_not, Int.not_lt, Int.not_le] at c4
      have hin := inB1.1 c4
      obtain ⟨k, rfl⟩ : ∃ k : Nat, i = (k : Int) := Int.eq_ofNat_of_zero_le (by omega)
      have hk : k < l.es.length := by omega
      have hsm := hok.hold_sm (k := k) (by omega) (fun j hj => hne j (by omega)) (hne k (by omega))
      have hdr := hok.drip_bd hk
      have hab := hok.ahd_bd (i := k) hk
      have has : (l.ahd k).Sm := by unfold Sn.Sm; omega
      refine W_skip ?_
      refine Then_normal ?_
      refine W_seq ?_
      apply W_draw1 hF Tryzmixed [1000000] (i := 7) (by rfl) (by decide +kernel)
      intro ds
      refine P_det (by rfl) (Over_out (by rfl) (Over_nil (y_move (c := .pointer _) (by rfl)))) ?_
      refine P_det (by rfl) (Over_out (by rfl) (Over_nil (by first | exact y_nilCheck (by rfl) | exact y_nilCheckF (by rfl)))) ?_
      refine P_det (by rfl) (Over_out (by rfl) (Over_nil (y_fieldAddr (by rfl) fa79_0))) ?_
      refine P_det (by rfl) (Over_out (by rfl) (Over_nil (y_load1 (by rfl) Tryz.isAgg76 (Mem.own1 1 (by rfl) (by rfl))))) ?_
      refine P_det (by rfl) (Over_out (by rfl) (Over_nil (y_move (c := .int .i64 _) (by rfl)))) ?_
      refine P_det (by rfl) (Over_out (by rfl) (Over_nil (y_callL (by rfl) (by rfl) Tryz.call49 (fun w hw => drip_any bk l k w (Bk.own (by repeat (first | exact List.mem_cons_self | apply List.mem_cons_of_mem)) (by repeat (first | exact List.mem_cons_self | apply List.mem_cons_of_mem)) hok hx he w hw) hk)))) ?_
      refine P_det (by rfl) (Over_out (by rfl) (Over_nil (y_buildL bd26_1 (by rfl)))) ?_
      refine P_det (by rfl) (Over_out (by rfl) (Over_nil (y_move (c := .pointer _) (by rfl)))) ?_
      refine P_det (by rfl) (Over_out (by rfl) (Over_nil (by first | exact y_nilCheck (by rfl) | exact y_nilCheckF (by rfl)))) ?_
      refine P_det (by rfl) (Over_out (by rfl) (Over_nil (y_fieldAddr (by rfl) fa79_1))) ?_
      refine P_det (by rfl) (Over_out (by rfl) (Over_nil (y_load1 (by rfl) Tryz.isAgg77 (Mem.own1 1 (by rfl) (by rfl))))) ?_
      refine P_det (by rfl) (Over_out (by rfl) (Over_nil (y_move (c := .int .i64 _) (by rfl)))) ?_
      refine P_det (by rfl) (Over_out (by rfl) (Over_nil (y_index (k := k) (by rfl) (by rfl) (by first | rfl | omega) (by first | decide | omega) Tryz.runUnderlying77 Tryz.sizeOf26))) ?_
      refine P_det (by rfl) (Over_out (by rfl) (Over_nil (y_loadN (by rfl) Tryz.isAgg26 Tryz.sizeOf26 (Mem.rowJ sn_len 2 (by rfl) (k := k) (by omega) rfl (by omega)) (by rfl)))) ?_
      refine P_det (by rfl) (Over_out (by rfl) (Over_nil (y_move (c := .pointer _) (by rfl)))) ?_
      refine P_det (by rfl) (Over_out (by rfl) (Over_nil (by first | exact y_nilCheck (by rfl) | exact y_nilCheckF (by rfl)))) ?_
      refine P_det (by rfl) (Over_out (by rfl) (Over_nil (y_fieldAddr (by rfl) fa79_3))) ?_
      refine P_det (by rfl) (Over_out (by rfl) (Over_nil (y_load1 (by rfl) Tryz.isAgg77 (Mem.own1 1 (by rfl) (by rfl))))) ?_
      refine P_det (by rfl) (Over_out (by rfl) (Over_nil (y_move (c := .int .i64 _) (by rfl)))) ?_
      refine P_det (by rfl) (Over_out (by rfl) (Over_nil (y_index (k := k) (by rfl) (by rfl) (by first | rfl | omega) (by first | decide | omega) Tryz.runUnderlying77 Tryz.sizeOf26))) ?_
      refine P_det (by rfl) (Over_out (by rfl) (Over_nil (y_loadN (by rfl) Tryz.isAgg26 Tryz.sizeOf26 (Mem.row sn_len 4 (by rfl) (k := k) (by omega) rfl (by omega)) (by rfl)))) ?_
      refine P_det (by rfl) (Over_out (by rfl) (Over_nil (y_callL (by rfl) (by rfl) Tryz.call48 (fun w hw => change_any (l.hold k) (l.ahd k) w hsm has)))) ?_
      refine P_det (by rfl) (Over_out (by rfl) (Over_nil (y_callL (by rfl) (by rfl) Tryz.call47 (fun w hw => met_any _ _ _ _ w)))) ?_
      refine P_st 1000000 0 (by rfl) (by rfl) (by rfl) (by rfl) (by rfl) (Over_nil (st_pre (fun _ => by rfl) (fun _ => by rfl) Tryz.sizeOf26 (by rfl) (by rfl) (by first | decide | exact Nat.le_of_ble_eq_true rfl | simp))) ?_
      refine P_det (by rfl) (Over_out (by rfl) (Over_nil (y_assign (c := .int .i64 _) (by rfl)))) ?_
      refine PW_end (by rfl) ?_
      refine OverAll_cons (fun w1000000 l1000000 => ?_)
      refine OverAll_nil ?_
      rintro ⟨-, h1000000⟩
      obtain rfl := h1000000
      refine Then_normal ?_
      refine W_ret ?_
      refine Fin_ret [_, .int .i64 _] [] Tryz.results17 ⟨lvN (by rfl) Tryz.isAgg26 Tryz.sizeOf26 (Mem.own (us := [.int .i64 _, .int .i64 _]) 0 (by rfl) (by rfl)) (by rfl), by rfl, trivial⟩ HSub.nil ?_
      show Value.tuple _ = _
      unfold Lg.lostV
      rw [if_pos c2, c4, if_pos rfl, Int.toNat_natCast]; rfl
def Lg.tr (l : Lg) : Nat → Int
  | 0 => (l.at 0).lo
  | k + 1 => max (l.after k ⟨l.tr k, l.tr k⟩).lo (l.aft (k + 1)).lo
theorem Lg.Ok.after_lo {l : Lg} (h : l.Ok) {i : Nat} (hi : i < l.es.length) {s : Sn} (hs : 0 ≤ s.lo) : 0 ≤ (l.after i s).lo ∧ (l.after i s).lo ≤ s.lo + 1000000 := by
  have hd := h.drip_bd hi
  have hf := h.tk.full_bd
  have hz := Sn.inB_iff.1 (h.size i hi)
  have hhb : l.tk.height ≤ 160 := by have := h.tk.n21; unfold Tk.height; omega
  have hup := h.tk.eight_bd (x := (l.e i).size.lo)
  have hkd := h.kind i hi
  unfold Tk.most at hz
  unfold Lg.after Tk.forth Lg.before
  split
  · rename_i h1
    rw [if_neg (by omega)] at hz
    simp only [Sn.met, Sn.add, Tk.all]
    omega
  · split
    · rename_i h1 h2
      rw [if_neg (by omega)] at hz
      simp only [Sn.met, Sn.sub, Tk.all]
      omega
    · rename_i h1 h2
      rw [if_pos (by omega)] at hz
      have hup := hup (by omega) (by omega)
      simp only [Sn.met, Tk.dip, Tk.up]
      omega
theorem Lg.Ok.tr_bd {l : Lg} (h : l.Ok) (hne : ∀ k, k ≤ l.es.length → (l.hold k).empty = false) : ∀ k, k ≤ l.es.length → 0 ≤ l.tr k ∧ l.tr k ≤ 10000000 + 1000000 * k
  | 0, _ => by
    have := h.at_bd hne (i := 0) (by omega)
    show 0 ≤ (l.at 0).lo ∧ (l.at 0).lo ≤ _
    omega
  | k + 1, hk => by
    have ih := Lg.Ok.tr_bd h hne k (by omega)
    have h1 := h.after_lo (i := k) (by omega) (s := ⟨l.tr k, l.tr k⟩) ih.1
    have h2 := h.aft_bd hk
    simp only at h1
    show 0 ≤ max _ _ ∧ max _ _ ≤ _
    push_cast
    omega
def iEnc (x : Int) : List Value := [.int .i64 x]
theorem ii_len (x : Int) : (iEnc x).length = 1 := rfl
abbrev iRow (f : Nat → Int) (n : Nat) : List Value := rowOf iEnc f n
theorem Mem.iRowJ {C : Ctx} {H : List Blk} {b o n k : Nat} {f : Nat → Int} {T : TypeId} {junk : List Value} (i : Nat) (hi : H[i]? = some (b, CB (iRow f n ++ junk) T)) (hk : k < n) (ho : o = k * 1) : Mem C H b o [.int .i64 (f k)] :=
  Mem.rowJ (enc := iEnc) ii_len i hi hk rfl ho
def TruthV (l : Lg) (v : Value) (Hn : List Blk) : Prop :=
  (l.aerr ≠ 0 → v = .tuple #[.slice none 0 0, .int .i64 l.aerr] ∧ Hn = []) ∧ (l.aerr = 0 → ∃ tb cap junk, v = .tuple #[.slice (some ⟨tb, 0, none⟩) (l.es.length + 1) cap, .int .i64 0] ∧ l.es.length + 1 ≤ cap ∧ Hn = [(tb, CB (iRow l.tr (l.es.length + 1) ++ junk) 3)])
theorem truth_any (l : Lg) (a : Option Addr) (cap : Nat) (ae : Option Addr) (cape : Nat) (w : World) (hn : l.tk.n ≤ 1000000) (hx : Ints w a l.tk.n cap l.tk.pints) (he : Ens w ae l.es.length cape l.es) : Ct Tryz.prog 31 #[.agg #[.slice a l.tk.n cap, .int .i64 l.tk.leak, .int .i64 l.tk.foot, .int .i64 l.start.lo, .int .i64 l.start.hi, .slice ae l.es.length cape]] w (TruthV l) := by
  have hF := wide_wide
  refine Ct_start (args := [_]) Tryz.func31 (by rfl) Tryz.ntmps31 (by rfl) ?_
  refine W_seq ?_
  refine W_region_lit (fun ds => ?_)
  refine WS_new hF (by rfl) (y_box (by rfl)) (fun b1 => ?_)
  refine WS_det hF (by rfl) (y_assign (c := .slice _ _ _) (by rfl)) ?_
  refine WS_det hF (by rfl) (y_assign (c := .int .i64 _) (by rfl)) ?_
  refine WS_nil ?_
  refine Then_normal ?_
  refine W_seq ?_
  refine W_region_lit (fun ds => ?_)
  refine WS_det hF (by rfl) (y_loadN (by rfl) Tryz.isAgg29 Tryz.sizeOf29 (Mem.own (us := [.slice _ _ _, .int .i64 _, .int .i64 _, .int .i64 _, .int .i64 _, .slice _ _ _]) 0 (by rfl) (by rfl)) (by rfl)) ?_
  refine WS_gen hF (by rfl) (y_callL (by rfl) (by rfl) Tryz.call42 (fun w hw => asked_any l a cap ae cape w hn (hx.st w hw) (he.st w hw))) ?_
  rintro _ Hg ⟨p, rfl, hg1, hg2⟩
  refine WS_det hF (by rfl) (y_move (c := .tuple _) (by rfl)) ?_
  refine WS_det hF (by rfl) (y_extract (c := .pointer _) (by rfl) (by rfl)) ?_
  refine WS_det hF (by rfl) (y_extract (c := .int .i64 _) (by rfl) (by rfl)) ?_
  refine WS_det hF (by rfl) (y_assign (c := .pointer _) (by rfl)) ?_
  refine WS_det hF (by rfl) (y_assign (c := .int .i64 _) (by rfl)) ?_
  refine WS_nil ?_
  refine Then_normal ?_
  refine W_seq ?_
  refine W_seq ?_
  refine W_region_lit (fun ds => ?_)
  refine WS_det hF (by rfl) (y_move (c := .int .i64 _) (by rfl)) ?_
  refine WS_det hF (by rfl) (y_neq (by rfl) (by rfl)) ?_
  refine WS_nil ?_
  refine Then_normal ?_
  refine W_cond (by rfl) (fun c2 => ?_) (fun c2 => ?_)
  ·
    try simp only [Bool.not_eq_true', Bool.not_eq_false', decide_eq_true_eq, decide_eq_false_iff_not, ne_eq, Classical.not_not, Int.not_lt, Int.not_le] at c2
    obtain rfl := hg2 c2
    refine W_seq ?_
    refine W_region_lit (fun ds => ?_)
    refine WS_det hF (by rfl) (y_move (c := .int .i64 _) (by rfl)) ?_
    refine WS_det hF (by rfl) (y_assign (c := .slice _ _ _) (by rfl)) ?_
    refine WS_det hF (by rfl) (y_assign (c := .int .i64 _) (by rfl)) ?_
    refine WS_nil ?_
    refine Then_normal ?_
    refine W_ret ?_
    refine Then_ret ?_
    refine Fin_ret [.slice _ _ _, .int .i64 _] [] Tryz.results31 ⟨by rfl, by rfl, trivial⟩ HSub.nil ?_
    exact ⟨fun _ => ⟨rfl, rfl⟩, fun h => absurd h c2⟩
  ·
    try simp only [Bool.not_eq_true', Bool.not_eq_false', decide_eq_true_eq, decide_eq_false_iff_not, ne_eq, Classical.not_not, Int.not_lt, Int.not_le] at c2
    obtain ⟨kb, rfl, bk, g, fb, capf, junk, ab, bb, rfl⟩ := hg1 c2
    have hok := l.ok_of (l.aerr0 c2).1
    have hne := (l.aerr0 c2).2
    have hfull := hok.tk.full_bd
    have hlb := hok.last_bd hne
    have h12 := hok.n12
    refine W_skip ?_
    refine Then_normal ?_
    refine W_seq ?_
    refine W_region_lit (fun ds => ?_)
    refine WS_det hF (by rfl) (y_move (c := .pointer _) (by rfl)) ?_
    refine WS_det hF (by rfl) (y_callL (by rfl) (by rfl) Tryz.call44 (fun w hw => at_any kb l 0 w (Kn.own (a := a) (cap := cap) (ae := ae) (cape := cape) (bk := bk) (g := g) (fb := fb) (capf := capf) (junk := junk) (ab := ab) (bb := bb) (by unfold knBlocks; repeat (first | exact List.Sublist.refl _ | exact List.nil_sublist _ | apply List.Sublist.cons_cons | apply List.Sublist.cons)) c2 hx he w hw) (by omega))) ?_
    refine WS_det hF (by rfl) (y_field (by rfl) fd26_0) ?_
    refine WS_newS hF (by rfl) (y_buildSliceL bs22_1_0 (by rfl)) (fun b2 => ?_)
    refine WS_det hF (by rfl) (y_assign (c := .slice _ _ _) (by rfl)) ?_
    refine WS_nil ?_
    refine Then_normal ?_
    refine W_seq ?_
    refine W_seq ?_
    refine W_region_lit (fun ds => ?_)
    refine WS_det hF (by rfl) (y_fieldAddr (by rfl) fa29_2) ?_
    refine WS_det hF (by rfl) (y_load1 (by rfl) Tryz.isAgg27 (Mem.own1 7 (by rfl) (by rfl))) ?_
    refine WS_det hF (by rfl) (y_len (by rfl) Tryz.runUnderlying27) ?_
    refine WS_det hF (by rfl) (y_move (c := .int .i64 _) (by rfl)) ?_
    refine WS_nil ?_
    refine Then_normal ?_
    refine W_block ?_
    refine W_loop (γ := Nat × Nat × Nat × List Value) (fun p => p.1 ≤ l.es.length ∧ (iRow l.tr (p.1 + 1) ++ p.2.2.2).length = p.2.2.1 * 1 ∧ p.1 + 1 ≤ p.2.2.1) (fun p => [(4, .pointer (some ⟨kb, 0, none⟩)), (6, .slice (some ⟨p.2.1, 0, none⟩) (p.1 + 1) p.2.2.1), (23, .int .i64 (l.es.length : Int)), (24, .int .i64 (p.1 : Int))]) (fun p => (p.2.1, CB (iRow l.tr (p.1 + 1) ++ p.2.2.2) 3) :: knBlocks l a cap ae cape kb bk g fb capf junk ab bb) (fun p => l.es.length - p.1) ((0, b2, 1, [])) ⟨Nat.zero_le _, rfl, Nat.le_refl _⟩ (by repeat (first | exact trivial | refine ⟨by rfl, ?_⟩)) ((by repeat (first | exact List.Sublist.refl _ | exact List.nil_sublist _ | apply List.Sublist.cons_cons | apply List.Sublist.cons))) ?_
    rintro ⟨k, tb, tcap, tjunk⟩ e ⟨hk, hlen, hcap⟩
    refine W_seq ?_
    refine W_region_lit (fun ds => ?_)
    refine WS_det hF (by rfl) (y_lss (by rfl) (by rfl)) ?_
    refine WS_nil ?_
    refine Then_normal ?_
    refine W_seq ?_
    refine W_cond (by rfl) (fun c6 => ?_) (fun c6 => ?_)
    ·
      try simp only [Bool.not_eq_true', Bool.not_eq_false', decide_eq_true_eq, decide_eq_false_iff_not, ne_eq, Classical.not_not, Int.not_lt, Int.not_le] at c6
      simp only at hlen hcap
      have htb := hok.tr_bd hne k (by omega)
      have hto : (⟨l.tr k, l.tr k⟩ : Sn).Sm := by unfold Sn.Sm; simp only; omega
      refine W_skip ?_
      refine Then_normal ?_
      refine W_seq ?_
      refine W_block ?_
      refine W_seq ?_
      refine W_region_lit (fun ds => ?_)
      refine WS_det hF (by rfl) (y_move (c := .int .i64 _) (by rfl)) ?_
      refine WS_det hF (by rfl) (y_assign (c := .int .i64 _) (by rfl)) ?_
      refine WS_nil ?_
      refine Then_normal ?_
      refine W_seq ?_
      refine W_draw0 hF Tryzmixed [8] (by decide +kernel) (fun ds => ?_)
      refine P_det (by rfl) (Over_nil (y_move (c := .pointer _) (by rfl))) ?_
      refine P_det (by rfl) (Over_nil (by first | exact y_nilCheck (by rfl) | exact y_nilCheckF (by rfl))) ?_
      refine P_det (by rfl) (Over_nil (y_fieldAddr (by rfl) fa79_0)) ?_
      refine P_det (by rfl) (Over_nil (y_load1 (by rfl) Tryz.isAgg76 (Mem.own1 1 (by rfl) (by rfl)))) ?_
      refine P_det (by rfl) (Over_nil (y_move (c := .int .i64 _) (by rfl))) ?_
      refine P_det (by rfl) (Over_nil (y_move (c := .slice _ _ _) (by rfl))) ?_
      refine P_det (by rfl) (Over_nil (y_move (c := .int .i64 _) (by rfl))) ?_
      refine P_det (by rfl) (Over_nil (y_index (k := k) (by rfl) (by rfl) (by first | rfl | omega) (by first | decide | omega) Tryz.runUnderlying22 Tryz.sizeOf3)) ?_
      refine P_det (by rfl) (Over_nil (y_load1 (by rfl) Tryz.isAgg3 (Mem.iRowJ 0 (by rfl) (k := k) (by omega) (by omega)))) ?_
      refine P_det (by rfl) (Over_nil (y_move (c := .slice _ _ _) (by rfl))) ?_
      refine P_det (by rfl) (Over_nil (y_move (c := .int .i64 _) (by rfl))) ?_
      refine P_det (by rfl) (Over_nil (y_index (k := k) (by rfl) (by rfl) (by first | rfl | omega) (by first | decide | omega) Tryz.runUnderlying22 Tryz.sizeOf3)) ?_
      refine P_det (by rfl) (Over_nil (y_load1 (by rfl) Tryz.isAgg3 (Mem.iRowJ 0 (by rfl) (k := k) (by omega) (by omega)))) ?_
      refine P_det (by rfl) (Over_nil (y_buildL bd26_0_1 (by rfl))) ?_
      refine P_det (by rfl) (Over_nil (y_callL (by rfl) (by rfl) Tryz.call63 (fun w hw => after_any bk l k ⟨l.tr k, l.tr k⟩ w (Bk.own (by repeat (first | exact List.mem_cons_self | apply List.mem_cons_of_mem)) (by repeat (first | exact List.mem_cons_self | apply List.mem_cons_of_mem)) hok hx he w hw) (by omega) hto))) ?_
      apply P_newS _ (by rfl) (by rfl) (by rfl) (Over_nil (y_alloc Tryz.zeroValue26 (by rfl)))
      refine P_st 8 0 (by rfl) (by rfl) (by rfl) (by rfl) (by rfl) (Over_nil (st_new (fun _ => by rfl) Tryz.sizeOf26 (by rfl) (by rfl) (by first | decide | exact Nat.le_of_ble_eq_true rfl | simp))) ?_
      refine PW_end (by rfl) ?_
      refine OverAll_cons (fun w8 l8 => ?_)
      refine OverAll_nil ?_
      rintro ⟨-, h8⟩
      obtain ⟨bs, rfl, rfl⟩ := h8
      refine Then_normal ?_
      apply W_drawMT 14 hF Tryzmixed [] [] [] (by rfl) (by decide +kernel) (by decide) HSub.refl
      intro ds
      refine P_det (by rfl) (Over_nil (y_move (c := .slice _ _ _) (by rfl))) ?_
      refine P_det (by rfl) (Over_nil (y_fieldAddr (by rfl) fa26_0)) ?_
      refine P_det (by rfl) (Over_nil (y_load1 (by rfl) Tryz.isAgg3 (Mem.own1 0 (by rfl) (by rfl)))) ?_
      refine P_det (by rfl) (Over_nil (y_move (c := .pointer _) (by rfl))) ?_
      refine P_det (by rfl) (Over_nil (by first | exact y_nilCheck (by rfl) | exact y_nilCheckF (by rfl))) ?_
      refine P_det (by rfl) (Over_nil (y_fieldAddr (by rfl) fa79_2)) ?_
      refine P_det (by rfl) (Over_nil (y_load1 (by rfl) Tryz.isAgg77 (Mem.own1 2 (by rfl) (by rfl)))) ?_
      refine P_det (by rfl) (Over_nil (y_move (c := .int .i64 _) (by rfl))) ?_
      refine P_det (by rfl) (Over_nil (y_add (by rfl) (by rfl) (by unfold I64; omega))) ?_
      refine P_det (by rfl) (Over_nil (y_index (k := k + 1) (by rfl) (by rfl) (by first | rfl | omega) (by first | decide | omega) Tryz.runUnderlying77 Tryz.sizeOf26)) ?_
      refine P_det (by rfl) (Over_nil (y_fieldAddr (by rfl) fa26_0)) ?_
      refine P_det (by rfl) (Over_nil (y_load1 (by rfl) Tryz.isAgg3 (Mem.rowAt sn_len 4 (by rfl) (k := k + 1) (j := 0) (by omega) rfl (by rfl) (by omega)))) ?_
      refine P_det (by rfl) (Over_nil (y_max (by rfl) (by rfl))) ?_
      refine P_new (by rfl) (by rfl) (Over_nil (y_buildSliceL bs22_1_0 (by rfl))) ?_
      refine PW_end (by rfl) ?_
      refine OverAll_cons (fun w55 l55 => ?_)
      refine OverAll_nil ?_
      rintro ⟨-, h55⟩
      obtain ⟨b3, rfl, rfl⟩ := h55
      refine WS_append hF (H1 := [_, _]) (Hn := [(tb, CB (iRow l.tr (k + 1) ++ tjunk) 3)]) (by rfl) (by rfl) (by rfl) Tryz.underlying22 infInt (by rfl) (by rfl) (.inr ⟨tb, tjunk, rfl, rfl, by rw [rowOf_len ii_len], hlen, hcap⟩) (.inr ⟨_, _, rfl, Mem.own (us := [.int _ _]) 0 (by rfl) (by rfl)⟩) (by rfl) (by rfl) (by omega) (by omega) ?_
      intro ta2 tcap2 Hf2 hrow2
      have hrow3 : Row 3 1 ta2 (k + 1 + 1) tcap2 (iRow l.tr (k + 1 + 1)) Hf2 := by rw [iRow, rowOf_succ]; exact hrow2
      obtain ⟨_, h0, _⟩ | ⟨tb2, tjunk2, rfl, rfl, hl1, hlen2, hcap2⟩ := hrow3
      · omega
      refine WS_det hF (by rfl) (y_assign (c := .slice _ _ _) (by rfl)) ?_
      refine WS_nil ?_
      refine InB_normal ?_
      refine Then_normal ?_
      refine W_region_lit (fun ds => ?_)
      refine WS_det hF (by rfl) (y_add (by rfl) (by rfl) (by unfold I64; omega)) ?_
      refine WS_det hF (by rfl) (y_move (c := .int .i64 _) (by rfl)) ?_
      refine WS_nil ?_
      exact Loop_next (k + 1, tb2, tcap2, tjunk2) ⟨by omega, hlen2, hcap2⟩ (by repeat (first | exact trivial | refine ⟨by rfl, ?_⟩)) (by repeat (first | exact List.Sublist.refl _ | exact List.nil_sublist _ | apply List.Sublist.cons_cons | apply List.Sublist.cons)) (by simp only; omega)
    ·
      try simp only [Bool.not_eq_true', Bool.not_eq_false', decide_eq_true_eq, decide_eq_false_iff_not, ne_eq, Classical.not_not, Int.not_lt, Int.not_le] at c6
      refine W_exit ?_
      refine Then_exit ?_
      refine Loop_exit ?_
      refine InB_same ?_
      refine Then_normal ?_
      refine W_seq ?_
      refine W_region_lit (fun ds => ?_)
      refine WS_det hF (by rfl) (y_move (c := .slice _ _ _) (by rfl)) ?_
      refine WS_det hF (by rfl) (y_assign (c := .slice _ _ _) (by rfl)) ?_
      refine WS_det hF (by rfl) (y_assign (c := .int .i64 _) (by rfl)) ?_
      refine WS_nil ?_
      refine Then_normal ?_
      refine W_ret ?_
      refine Fin_ret [.slice _ _ _, .int .i64 _] [(tb, _)] Tryz.results31 ⟨by rfl, by rfl, trivial⟩ (HSub.sub (by repeat (first | exact List.nil_sublist _ | apply List.Sublist.cons_cons | apply List.Sublist.cons))) ?_
      simp only at hk hcap
      obtain rfl : k = l.es.length := by omega
      exact ⟨fun h => absurd c2 h, fun _ => ⟨tb, tcap, tjunk, rfl, hcap, rfl⟩⟩
end Go.Proofs.YthkimgfgpphgnaaGreat.T

/- Numbers without a sign; copies; readings that may go late, once more. No project text. -/
namespace Go.Eng
open Go.RowKit
section
variable {C : Ctx} {e : Env} {H : List Blk} {d : Option Tmp} {ty : TypeId} {pos : String} {af : Array Edge} {g : Option (Nat × Bool)} {x y : Operand} {t t' : TypeId} {m n : Int}
theorem wrapU {r : Int} (h0 : 0 ≤ r) (h1 : r < 18446744073709551616) : IntKind.u64.wrap r = r := by rw [IntKind.wrap_u64]; omega
theorem y_addU (hx : ev e x = .int .u64 m) (hy : ev e y = .int .u64 n) (h0 : 0 ≤ m + n) (h1 : m + n < 18446744073709551616) : YD C ⟨d, .binOp .add t x y t', ty, pos, af, g⟩ e H (.int .u64 (m + n)) :=
  yd_of fun w _ => by simp [execOp, hx, hy, eqGuard, binOp, Op.intArith, wrapU h0 h1]
theorem y_mulU (hx : ev e x = .int .u64 m) (hy : ev e y = .int .u64 n) (h0 : 0 ≤ m * n) (h1 : m * n < 18446744073709551616) : YD C ⟨d, .binOp .mul t x y t', ty, pos, af, g⟩ e H (.int .u64 (m * n)) :=
  yd_of fun w _ => by simp [execOp, hx, hy, eqGuard, binOp, Op.intArith, wrapU h0 h1]
theorem y_maskU (hx : ev e x = .int .u64 m) (hy : ev e y = .int .u64 4294967295) (h0 : 0 ≤ m) (h1 : m < 4294967296) : YD C ⟨d, .binOp .and t x y t', ty, pos, af, g⟩ e H (.int .u64 m) := yd_of fun w _ => by
  obtain ⟨k, rfl⟩ := Int.eq_ofNat_of_zero_le h0
  have h := bits_and_u64_nat k 4294967295 (by omega) (by omega)
  have e1 : k &&& 4294967295 = k % 4294967296 := Nat.and_two_pow_sub_one_eq_mod k 32
  rw [e1, Nat.mod_eq_of_lt (by omega)] at h
  have h2 : (Op.intBits .and .u64 (k : Int) 4294967295).run C.P w = .ok (.int .u64 (bits .and .u64 (k : Int) ((4294967295 : Nat) : Int))) w := rfl
  rw [h] at h2
  simp [execOp, hx, hy, eqGuard, binOp, h2]
theorem y_shrU0 (hx : ev e x = .int .u64 m) (hy : ev e y = .int .u64 32) (h0 : 0 ≤ m) (h1 : m < 4294967296) : YD C ⟨d, .binOp .shr t x y t', ty, pos, af, g⟩ e H (.int .u64 0) :=
  y_shr hx hy (by decide) (by
    rw [show min (32 : Int).toNat IntKind.u64.bits = 32 from rfl, Int.fdiv_eq_ediv_of_nonneg _ (by decide)]
    omega)
end
section
variable {C : Ctx} {F : Fence} {n : Nat} {ds : List Deferred} {all : Array Oper} {Q : Exit → Env → List Blk → Prop} {rest : List Oper} {e : Env} {H : List Blk}
variable {d : Option Tmp} {ty : TypeId} {pos : String} {af : Array Edge} {g : Option (Nat × Bool)}
theorem run_copy {x y : Operand} {T T2 E : TypeId} {i : TypeInfo} {b o b2 o2 dl dcap sl scap k : Nat} {vs us : List Value} {Tb : TypeId} {w : World} (hx : ev e x = .slice (some ⟨b, o, none⟩) dl dcap) (hy : ev e y = .slice (some ⟨b2, o2, none⟩) sl scap)
    (hT : C.P.underlying T = some (.slice E)) (hi : C.P.info? E = some i) (hk : k = min sl dl) (hm : At w b2 o2 us) (hl : us.length = k * i.size) (hone : us.all Value.oneCell' = true) (hb : w.heap[b]? = some (CB vs Tb)) (hfit : o + us.length ≤ vs.length) :
    (execOp (ev e) ⟨d, .call ⟨.builtin .copy, #[x, y], #[T, T2]⟩, ty, pos, af, g⟩).run C.P w = .ok (.value (.int .i64 (k : Int))) (w.setRow b (splice vs o us).toArray) := by
  have h := run_storeCells_at (P := C.P) b o Tb us 0 vs.toArray w hb (by simpa using hfit) (fun v hv => List.all_eq_true.1 hone v hv)
  simp only [Nat.add_zero] at h
  have h' : (storeCells ⟨b, o, none⟩ us).run C.P w = .ok () (w.setRow b (splice vs o us).toArray) := h
  have hf : (Builtin.firstCells i.size k (.slice (some ⟨b2, o2, none⟩) sl scap)).run C.P w = .ok us.toArray w := by
    have := run_loads (P := C.P) (i := 0) (acc := #[]) (by simpa using hm)
    simp [Builtin.firstCells, loadCells, ← hl, this]
  have hmin : Nat.min sl dl = k := hk.symm
  simp [execOp, resolve, invoke, builtin, hx, hy, Builtin.copy_, run_underlying hT, Builtin.lenOf, sizeOf, typeInfo, hi, hmin, hf, h', goInt]
theorem WS_copy (hF : Wide F) {x y : Operand} {T T2 E : TypeId} {b o b2 o2 dl dcap sl scap k sz by_ idx : Nat} {vs us : List Value} {z : Value} {Tb : TypeId} (hc : chk n all e ⟨d, .call ⟨.builtin .copy, #[x, y], #[T, T2]⟩, ty, pos, af, g⟩ = true)
    (hx : ev e x = .slice (some ⟨b, o, none⟩) dl dcap) (hy : ev e y = .slice (some ⟨b2, o2, none⟩) sl scap) (hT : C.P.underlying T = some (.slice E)) (hinf : (C.P.info? E).map (fun i => (i.zero, i.size, i.bytes)) = some (some z, sz, by_))
    (hk : k = min sl dl) (hm : Mem C H b2 o2 us) (hl : us.length = k * sz) (hone : us.all Value.oneCell' = true) (hi : H[idx]? = some (b, CB vs Tb)) (hfit : o + us.length ≤ vs.length)
    (hq : WS C F n ds all Q rest (updo e d (.int .i64 (k : Int))) (H.set idx (b, CB (splice vs o us) Tb))) :
    WS C F n ds all Q (⟨d, .call ⟨.builtin .copy, #[x, y], #[T, T2]⟩, ty, pos, af, g⟩ :: rest) e H := fun w hw act ha => by
  have hck := chk_spec hc
  have hwant := gd_wanted ha hck.2.1 (gOk_lt hck.2.2.1)
  have hb := hw.get hi
  unfold wpListIn
  rw [if_pos hwant]
  refine ⟨fun f _ => hF.fn f, ?_⟩
  obtain ⟨i, hii, hz, hsz, hby⟩ := info_parts hinf
  subst hsz
  rw [semAt_of hck.1, ha.eval, run_copy hx hy hT hii hk (hm w hw) hl hone hb hfit]
  exact hq _ (hw.set hi (swap_setRow hb)) _ (ha.put d hck.2.2.2)
end
section
variable {C : Ctx} {F : Fence} {n : Nat} {ds : List Deferred} {Q : Exit → Env → List Blk → Prop} {e : Env} {H : List Blk}
theorem ro_move {P : Program} {ρ : Operand → Value} {d : Option Tmp} {x : Operand} {ty : TypeId} {pos : String} {af : Array Edge} {g : Option (Nat × Bool)} (w : World) :
    (∃ v, (execOp ρ ⟨d, .move x, ty, pos, af, g⟩).run P w = .ok (.value v) w) ∨ ∃ h, (execOp ρ ⟨d, .move x, ty, pos, af, g⟩).run P w = .halt h w ∧ ∀ v, h ≠ .panic v := .inl ⟨ρ x, by simp [execOp]⟩
theorem W_drawZR {id : Nat} {l post' : List Oper} {H0 : List Blk} (m z : Nat) {om oz : Oper} {dz : Nat} (hF : Wide F) (hm : C.P.follows .mixedOrders = true) (pres : List Pre) (slots S : List Nat) (hs : pres.map (·.slot) = slots)
    (hph : (phased (l.take m).toArray slots && ((l.take m).all fun o => dOk n o.dst && gOk n (l.take m).toArray o) && (slots.all fun p => S.contains p) && tailZB l.toArray m z && Nat.ble m l.length) = true) (hnd : slots.Nodup)
    (hdrop : l.drop m = om :: post') (hoz : l[z]? = some oz) (hgz : oz.guard = none) (hdz : oz.dst = some dz) (hnd0 : noDefer oz = true) (hro : ∀ (ρ : Operand → Value) (w : World), (∃ v, (execOp ρ oz).run C.P w = .ok (.value v) w) ∨ ∃ h, (execOp ρ oz).run C.P w = .halt h w ∧ ∀ v, h ≠ .panic v)
    (hH : HSub H (pres.map (fun p => (p.b, p.o)) ++ H0))
    (hp : ∀ ds, PW (C.at ds) (l.take m).toArray S (fun us e => OverAll (fun e H => WS (C.at ds) F n ds l.toArray Q (om :: post') e H ∧ ∀ x, WS (C.at ds) F n ds l.toArray Q (om :: oz :: post') (upd e dz x) H) (fun _ => True) us e H0) H0 (l.take m) [] (pres.map Pre.un) e) :
    W C F n ds (.region id l.toArray true) Q e H := fun dd w hw a ha => by
  subst hs
  rw [List.all_map] at hph
  simp only [Bool.and_eq_true] at hph
  obtain ⟨⟨⟨⟨hph, hdk⟩, hsub⟩, ht⟩, hml⟩ := hph
  have hml : m ≤ l.length := Nat.le_of_ble_eq_true hml
  have hlen : (l.take m).length = m := by simp; omega
  have hl : l.take m ++ om :: post' = l := by rw [← hdrop]; exact List.take_append_drop m l
  have ht' : TailZ (l.take m ++ om :: post').toArray (l.take m).length z := by rw [hl, hlen]; exact tailZ_of ht
  have hozp : (l.take m)[z]? = some oz := by
    rw [List.getElem?_take, if_pos (by have := ht'.zlt; omega)]; exact hoz
  have hdzn : dz < n := by
    have := List.all_eq_true.1 hdk oz (List.mem_of_getElem? hozp)
    simp only [Bool.and_eq_true] at this
    have := this.1
    rw [hdz] at this
    simpa [dOk, Nat.blt_eq] using this
  refine wpIn_mono (Q := lift (C.at dd) n dd Q) (wpIn_region_any hm ?_) fun _ _ _ h => lift_M h
  have h1 := draw_any (C := C.at dd) (ds := dd) (F := F) (n := n) (ops := (l.take m).toArray) (Q := tailZQ (C.at dd) F n dd l.toArray om oz dz post' Q) (e := e) (H := H) (H0 := H0) hF pres S (fun _ hw => ⟨hw.1, hH _ _ hw.2, hw.3⟩) hph (by simpa using hdk) hsub hnd (hp dd) w hw a ha
  have h2 := tail_anyZ (P := C.P) (F := F) (pre := l.take m) (post' := post') (om := om) (oz := oz) (z := z) (Q := lift (C.at dd) n dd Q) (Q' := lift (C.at dd) n dd (tailZQ (C.at dd) F n dd l.toArray om oz dz post' Q)) ht' hozp (phased_spec hph).down
    (fun x hx a w ⟨e, H, g1, g2, g3⟩ => ⟨e, H, g1, g2, by cases x <;> first | exact g3 | exact absurd rfl hx⟩) (fun a w ⟨e, H, g1, g2, g3⟩ => by rw [hl]; exact g3.1 w g2 a g1)
    (fun a w hz => by
      rw [hl]
      unfold wpOpIn at hz
      rw [show (l.take m).toArray[z]? = some oz by simpa using hozp] at hz
      simp only [] at hz
      rw [if_pos (by unfold Region.wanted; rw [hgz])] at hz
      obtain ⟨_, hz⟩ := hz
      rw [semAt_of hnd0] at hz
      rcases hro a.eval w with ⟨v, hr⟩ | ⟨x, hr, hnp⟩
      · rw [hr] at hz
        obtain ⟨e', H', g1, g2, g3⟩ := hz
        rw [hdz] at g1
        have hrep : Rep n dd a (upd e' dz (a.tmps.getD dz undef)) := by
          refine ⟨by have := g1.size; simpa [Act.put] using this, by have := g1.defers; simpa [Act.put] using this, fun t => ?_⟩
          by_cases ht : t = dz
          · subst ht; rw [upd_same]
          · rw [upd_ne _ _ ht, ← g1.val t]
            simp only [Act.put, Array.getD_eq_getD_getElem?, Array.getElem?_setIfInBounds]
            rw [if_neg (fun h => ht h.symm)]
        exact g3.2 _ w g2 a hrep
      · rw [hr] at hz
        cases x
        case panic v => exact absurd rfl (hnp v)
        all_goals exact hz.elim)
    (l.take m).toArray.size l.toArray.size (Array.replicate (l.take m).toArray.size false) a w.drew (by simp) (fun j k hj => by
      unfold Lst at hj
      rw [Array.getD_eq_getD_getElem?, Array.getElem?_replicate] at hj
      split at hj <;> cases hj) (by
        have := congrArg List.length hl
        simp only [List.length_append] at this
        simp at this ⊢; omega) h1
  rw [hl] at h2
  have hrep : Array.replicate (l.take m).toArray.size false ++ Array.replicate (om :: post').length false = Array.replicate l.toArray.size false := by
    rw [Array.replicate_append_replicate]
    congr 1
    have := congrArg List.length hl
    simp only [List.length_append] at this
    simp at this ⊢; omega
  rw [hrep] at h2
  exact h2
end
section
variable {α : Type} {enc : α → List Value} {sz : Nat}
theorem rowOf_add (f : Nat → α) (a : Nat) : ∀ b, rowOf enc f (a + b) = rowOf enc f a ++ rowOf enc (fun j => f (a + j)) b
  | 0 => by simp [rowOf]
  | b + 1 => by rw [← Nat.add_assoc, rowOf_succ, rowOf_add f a b, rowOf_succ, List.append_assoc]
/-- Several elements are written. -/
theorem rowOf_splices (hz : ∀ x, (enc x).length = sz) {f g h : Nat → α} {k m n : Nat} (hkm : k + m ≤ n) (hg : ∀ j, j < m → h (k + j) = g j) (ho : ∀ j, j < n → j < k ∨ k + m ≤ j → h j = f j) : splice (rowOf enc f n) (k * sz) (rowOf enc g m) = rowOf enc h n := by
  obtain ⟨r, rfl⟩ : ∃ r, n = k + (m + r) := ⟨n - k - m, by omega⟩
  rw [rowOf_add f k, rowOf_add (fun j => f (k + j)) m, rowOf_add h k, rowOf_add (fun j => h (k + j)) m]
  rw [rowOf_congr (f := h) (g := f) k fun j hj => ho j (by omega) (.inl hj), rowOf_congr (f := fun j => h (k + j)) (g := g) m fun j hj => hg j hj,
    rowOf_congr (f := fun j => h (k + (m + j))) (g := fun j => f (k + (m + j))) r fun j hj => ho _ (by omega) (.inr (by omega))]
  unfold splice
  rw [rowOf_len hz g m, ← rowOf_len hz f k, List.take_left, List.append_assoc]
  congr 2
  rw [← List.drop_drop, List.drop_left, ← rowOf_len hz (fun j => f (k + j)) m, List.drop_left]
end
end Go.Eng

/- bits.Mul of one and a number, slices.Repeat of one number, slices.Max: the walks. -/
namespace Go.Proofs.YthkimgfgpphgnaaGreat.T
open Go.RowKit Go.Proofs Go.Eng
set_option maxRecDepth 100000
set_option linter.unusedVariables false
set_option linter.unusedSimpArgs false



theorem mul64_any (n : Int) (w : World) (h0 : 0 ≤ n) (h1 : n < 4294967296) : Ct Tryz.prog 114 #[.int .u64 1, .int .u64 n] w fun v _ => v = .tuple #[.int .u64 0, .int .u64 n] := by
  have hF := wide_wide
  refine Ct_start (args := [_, _]) Tryz.func114 (by rfl) Tryz.ntmps114 (by rfl) ?_
  refine W_seq ?_
  refine W_region_lit (fun ds => ?_)
  refine WS_det hF (by rfl) (y_assign (c := .int .u64 _) (by rfl)) ?_
  refine WS_det hF (by rfl) (y_assign (c := .int .u64 _) (by rfl)) ?_
  refine WS_nil ?_
  refine Then_normal ?_
  refine W_seq ?_
  refine W_region_lit (fun ds => ?_)
  refine WS_det hF (by rfl) (y_move (c := .int .u64 _) (by rfl)) ?_
  refine WS_det hF (by rfl) (y_maskU (by rfl) (by rfl) (by omega) (by omega)) ?_
  refine WS_det hF (by rfl) (y_assign (c := .int .u64 _) (by rfl)) ?_
  refine WS_nil ?_
  refine Then_normal ?_
  refine W_seq ?_
  refine W_region_lit (fun ds => ?_)
  refine WS_det hF (by rfl) (y_move (c := .int .u64 _) (by rfl)) ?_
  refine WS_det hF (by rfl) (y_shrU0 (by rfl) (by rfl) (by omega) (by omega)) ?_
  refine WS_det hF (by rfl) (y_assign (c := .int .u64 _) (by rfl)) ?_
  refine WS_nil ?_
  refine Then_normal ?_
  refine W_seq ?_
  refine W_region_lit (fun ds => ?_)
  refine WS_det hF (by rfl) (y_move (c := .int .u64 _) (by rfl)) ?_
  refine WS_det hF (by rfl) (y_maskU (by rfl) (by rfl) (by omega) (by omega)) ?_
  refine WS_det hF (by rfl) (y_assign (c := .int .u64 _) (by rfl)) ?_
  refine WS_nil ?_
  refine Then_normal ?_
  refine W_seq ?_
  refine W_region_lit (fun ds => ?_)
  refine WS_det hF (by rfl) (y_move (c := .int .u64 _) (by rfl)) ?_
  refine WS_det hF (by rfl) (y_shrU0 (by rfl) (by rfl) (by omega) (by omega)) ?_
  refine WS_det hF (by rfl) (y_assign (c := .int .u64 _) (by rfl)) ?_
  refine WS_nil ?_
  refine Then_normal ?_
  refine W_seq ?_
  refine W_region_lit (fun ds => ?_)
  refine WS_det hF (by rfl) (y_move (c := .int .u64 _) (by rfl)) ?_
  refine WS_det hF (by rfl) (y_move (c := .int .u64 _) (by rfl)) ?_
  refine WS_det hF (by rfl) (y_mulU (by rfl) (by rfl) (by omega) (by omega)) ?_
  refine WS_det hF (by rfl) (y_assign (c := .int .u64 _) (by rfl)) ?_
  refine WS_nil ?_
  refine Then_normal ?_
  refine W_seq ?_
  refine W_region_lit (fun ds => ?_)
  refine WS_det hF (by rfl) (y_move (c := .int .u64 _) (by rfl)) ?_
  refine WS_det hF (by rfl) (y_move (c := .int .u64 _) (by rfl)) ?_
  refine WS_det hF (by rfl) (y_mulU (by rfl) (by rfl) (by omega) (by omega)) ?_
  refine WS_det hF (by rfl) (y_move (c := .int .u64 _) (by rfl)) ?_
  refine WS_det hF (by rfl) (y_shrU0 (by rfl) (by rfl) (by omega) (by omega)) ?_
  refine WS_det hF (by rfl) (y_addU (by rfl) (by rfl) (by omega) (by omega)) ?_
  refine WS_det hF (by rfl) (y_assign (c := .int .u64 _) (by rfl)) ?_
  refine WS_nil ?_
  refine Then_normal ?_
  refine W_seq ?_
  refine W_region_lit (fun ds => ?_)
  refine WS_det hF (by rfl) (y_move (c := .int .u64 _) (by rfl)) ?_
  refine WS_det hF (by rfl) (y_maskU (by rfl) (by rfl) (by omega) (by omega)) ?_
  refine WS_det hF (by rfl) (y_assign (c := .int .u64 _) (by rfl)) ?_
  refine WS_nil ?_
  refine Then_normal ?_
  refine W_seq ?_
  refine W_region_lit (fun ds => ?_)
  refine WS_det hF (by rfl) (y_move (c := .int .u64 _) (by rfl)) ?_
  refine WS_det hF (by rfl) (y_shrU0 (by rfl) (by rfl) (by omega) (by omega)) ?_
  refine WS_det hF (by rfl) (y_assign (c := .int .u64 _) (by rfl)) ?_
  refine WS_nil ?_
  refine Then_normal ?_
  refine W_seq ?_
  refine W_region_lit (fun ds => ?_)
  refine WS_det hF (by rfl) (y_move (c := .int .u64 _) (by rfl)) ?_
  refine WS_det hF (by rfl) (y_move (c := .int .u64 _) (by rfl)) ?_
  refine WS_det hF (by rfl) (y_move (c := .int .u64 _) (by rfl)) ?_
  refine WS_det hF (by rfl) (y_mulU (by rfl) (by rfl) (by omega) (by omega)) ?_
  refine WS_det hF (by rfl) (y_addU (by rfl) (by rfl) (by omega) (by omega)) ?_
  refine WS_det hF (by rfl) (y_assign (c := .int .u64 _) (by rfl)) ?_
  refine WS_nil ?_
  refine Then_normal ?_
  refine W_seq ?_
  refine W_region_lit (fun ds => ?_)
  refine WS_det hF (by rfl) (y_move (c := .int .u64 _) (by rfl)) ?_
  refine WS_det hF (by rfl) (y_move (c := .int .u64 _) (by rfl)) ?_
  refine WS_det hF (by rfl) (y_mulU (by rfl) (by rfl) (by omega) (by omega)) ?_
  refine WS_det hF (by rfl) (y_move (c := .int .u64 _) (by rfl)) ?_
  refine WS_det hF (by rfl) (y_addU (by rfl) (by rfl) (by omega) (by omega)) ?_
  refine WS_det hF (by rfl) (y_move (c := .int .u64 _) (by rfl)) ?_
  refine WS_det hF (by rfl) (y_shrU0 (by rfl) (by rfl) (by omega) (by omega)) ?_
  refine WS_det hF (by rfl) (y_addU (by rfl) (by rfl) (by omega) (by omega)) ?_
  refine WS_det hF (by rfl) (y_assign (c := .int .u64 _) (by rfl)) ?_
  refine WS_nil ?_
  refine Then_normal ?_
  refine W_seq ?_
  refine W_region_lit (fun ds => ?_)
  refine WS_det hF (by rfl) (y_move (c := .int .u64 _) (by rfl)) ?_
  refine WS_det hF (by rfl) (y_move (c := .int .u64 _) (by rfl)) ?_
  refine WS_det hF (by rfl) (y_mulU (by rfl) (by rfl) (by omega) (by omega)) ?_
  refine WS_det hF (by rfl) (y_assign (c := .int .u64 _) (by rfl)) ?_
  refine WS_nil ?_
  refine Then_normal ?_
  refine W_ret ?_
  refine Fin_ret [.int .u64 _, .int .u64 _] [] Tryz.results114 ⟨by rfl, by rfl, trivial⟩ HSub.nil ?_
  show Value.tuple #[.int _ _, .int _ _] = _
  rw [Int.one_mul]; rfl
theorem mul_any (n : Int) (w : World) (h0 : 0 ≤ n) (h1 : n < 4294967296) : Ct Tryz.prog 99 #[.int .u64 1, .int .u64 n] w fun v _ => v = .tuple #[.int .u64 0, .int .u64 n] := by
  have hF := wide_wide
  refine Ct_start (args := [_, _]) Tryz.func99 (by rfl) Tryz.ntmps99 (by rfl) ?_
  refine W_seq ?_
  refine W_region_lit (fun ds => ?_)
  refine WS_det hF (by rfl) (y_assign (c := .int .u64 _) (by rfl)) ?_
  refine WS_det hF (by rfl) (y_assign (c := .int .u64 _) (by rfl)) ?_
  refine WS_nil ?_
  refine Then_normal ?_
  refine W_seq ?_
  refine W_cond (by rfl) (fun c0 => ?_) (fun c0 => ?_)
  · cases c0
  ·
    try simp only [Bool.not_eq_true', Bool.not_eq_false', decide_eq_true_eq, decide_eq_false_iff_not, ne_eq, Classical.not_not, Int.not_lt, Int.not_le] at c0
    refine W_skip ?_
    refine Then_normal ?_
    refine W_seq ?_
    refine W_region_lit (fun ds => ?_)
    refine WS_det hF (by rfl) (y_move (c := .int .u64 _) (by rfl)) ?_
    refine WS_det hF (by rfl) (y_move (c := .int .u64 _) (by rfl)) ?_
    refine WS_det hF (by rfl) (y_callL (by rfl) (by rfl) Tryz.call114 (fun w hw => mul64_any n w h0 h1)) ?_
    refine WS_det hF (by rfl) (y_move (c := .tuple _) (by rfl)) ?_
    refine WS_det hF (by rfl) (y_extract (c := .int .u64 _) (by rfl) (by rfl)) ?_
    refine WS_det hF (by rfl) (y_extract (c := .int .u64 _) (by rfl) (by rfl)) ?_
    refine WS_det hF (by rfl) (y_assign (c := .int .u64 _) (by rfl)) ?_
    refine WS_det hF (by rfl) (y_assign (c := .int .u64 _) (by rfl)) ?_
    refine WS_nil ?_
    refine Then_normal ?_
    refine W_seq ?_
    refine W_region_lit (fun ds => ?_)
    refine WS_det hF (by rfl) (y_move (c := .int .u64 _) (by rfl)) ?_
    refine WS_det hF (by rfl) (y_move (c := .int .u64 _) (by rfl)) ?_
    refine WS_det hF (by rfl) (y_assign (c := .int .u64 _) (by rfl)) ?_
    refine WS_det hF (by rfl) (y_assign (c := .int .u64 _) (by rfl)) ?_
    refine WS_nil ?_
    refine Then_normal ?_
    refine W_ret ?_
    refine Fin_ret [.int .u64 _, .int .u64 _] [] Tryz.results99 ⟨by rfl, by rfl, trivial⟩ HSub.nil ?_
    rfl
def maxN (f : Nat → Int) : Nat → Int
  | 0 => f 0
  | k + 1 => max (maxN f k) (f k)
theorem At.iRow {w : World} {b : Nat} {f : Nat → Int} {n k o : Nat} (h : At w b 0 (iRow f n)) (hk : k < n) (ho : o = k * 1) : At w b o [.int .i64 (f k)] := At.rowOf (enc := iEnc) ii_len h hk ho
theorem max_any (b : Nat) (n cap : Nat) (f : Nat → Int) (w : World) (hn : 0 < n) (hn1 : n ≤ 1000000) (hm : At w b 0 (iRow f n)) : Ct Tryz.prog 84 #[.slice (some ⟨b, 0, none⟩) n cap] w fun v _ => v = .int .i64 (maxN f n) := by
  have e0 : At w b (0 + 0 * 1) [.int .i64 (f 0)] := At.iRow hm hn (by omega)
  have hF := wide_wide
  refine Ct_start (args := [_]) Tryz.func84 (by rfl) Tryz.ntmps84 (by rfl) ?_
  refine W_seq ?_
  refine W_region_lit (fun ds => ?_)
  refine WS_det hF (by rfl) (y_assign (c := .int .i64 _) (by rfl)) ?_
  refine WS_nil ?_
  refine Then_normal ?_
  refine W_seq ?_
  refine W_seq ?_
  refine W_region_lit (fun ds => ?_)
  refine WS_det hF (by rfl) (y_move (c := .slice _ _ _) (by rfl)) ?_
  refine WS_det hF (by rfl) (y_len (by rfl) Tryz.runUnderlying22) ?_
  refine WS_det hF (by rfl) (y_lss (by rfl) (by rfl)) ?_
  refine WS_nil ?_
  refine Then_normal ?_
  refine W_cond (by rfl) (fun c1 => ?_) (fun c1 => ?_)
  · (simp only [decide_eq_true_eq] at c1; omega)
  ·
    try simp only [Bool.not_eq_true', Bool.not_eq_false', decide_eq_true_eq, decide_eq_false_iff_not, ne_eq, Classical.not_not, Int.not_lt, Int.not_le] at c1
    refine W_skip ?_
    refine Then_normal ?_
    refine W_seq ?_
    refine W_region_lit (fun ds => ?_)
    refine WS_det hF (by rfl) (y_move (c := .slice _ _ _) (by rfl)) ?_
    refine WS_det hF (by rfl) (y_index (k := 0) (by rfl) (by rfl) (by first | rfl | omega) (by first | decide | omega) Tryz.runUnderlying22 Tryz.sizeOf3) ?_
    refine WS_det hF (by rfl) (y_load1 (by rfl) Tryz.isAgg3 (by first | exact Mem.old1 (by assumption) | exact Mem.oldAt1 (by assumption) (by rfl) | exact Mem.old (by assumption) | exact Mem.oldAtL1 (by assumption) (by rfl) (by rfl))) ?_
    refine WS_det hF (by rfl) (y_assign (c := .int .i64 _) (by rfl)) ?_
    refine WS_nil ?_
    refine Then_normal ?_
    refine W_seq ?_
    refine W_seq ?_
    refine W_region_lit (fun ds => ?_)
    refine WS_det hF (by rfl) (y_assign (c := .int .i64 _) (by rfl)) ?_
    refine WS_nil ?_
    refine Then_normal ?_
    refine W_block ?_
    refine W_loop (γ := Nat) (fun k => 1 ≤ k ∧ k ≤ n) (fun k => [(0, .slice (some ⟨b, 0, none⟩) n cap), (3, .int .i64 (maxN f k)), (4, .int .i64 (k : Int))]) (fun _ => _) (fun k => n - k) (1) ⟨Nat.le_refl _, by omega⟩ ((by rw [show maxN f 1 = f 0 from Int.max_self _]; exact (by repeat (first | exact trivial | refine ⟨by rfl, ?_⟩)))) (List.Sublist.refl _) ?_
    rintro k e ⟨hk1, hk⟩
    refine W_seq ?_
    refine W_seq ?_
    refine W_region_lit (fun ds => ?_)
    refine WS_det hF (by rfl) (y_move (c := .int .i64 _) (by rfl)) ?_
    refine WS_det hF (by rfl) (y_move (c := .slice _ _ _) (by rfl)) ?_
    refine WS_det hF (by rfl) (y_len (by rfl) Tryz.runUnderlying22) ?_
    refine WS_det hF (by rfl) (y_lss (by rfl) (by rfl)) ?_
    refine WS_nil ?_
    refine Then_normal ?_
    refine W_cond (by rfl) (fun c5 => ?_) (fun c5 => ?_)
    ·
      try simp only [Bool.not_eq_true', Bool.not_eq_false', decide_eq_true_eq, decide_eq_false_iff_not, ne_eq, Classical.not_not, Int.not_lt, Int.not_le] at c5
      have ek : At w b (0 + k * 1) [.int .i64 (f k)] := At.iRow hm (by omega) (by omega)
      refine W_skip ?_
      refine Then_normal ?_
      refine W_seq ?_
      refine W_block ?_
      refine W_region_lit (fun ds => ?_)
      refine WS_det hF (by rfl) (y_move (c := .int .i64 _) (by rfl)) ?_
      refine WS_det hF (by rfl) (y_move (c := .slice _ _ _) (by rfl)) ?_
      refine WS_det hF (by rfl) (y_move (c := .int .i64 _) (by rfl)) ?_
      refine WS_det hF (by rfl) (y_index (k := k) (by rfl) (by rfl) (by first | rfl | omega) (by first | decide | omega) Tryz.runUnderlying22 Tryz.sizeOf3) ?_
      refine WS_det hF (by rfl) (y_load1 (by rfl) Tryz.isAgg3 (by first | exact Mem.old1 (by assumption) | exact Mem.oldAt1 (by assumption) (by rfl) | exact Mem.old (by assumption) | exact Mem.oldAtL1 (by assumption) (by rfl) (by rfl))) ?_
      refine WS_det hF (by rfl) (y_max (by rfl) (by rfl)) ?_
      refine WS_det hF (by rfl) (y_assign (c := .int .i64 _) (by rfl)) ?_
      refine WS_nil ?_
      refine InB_normal ?_
      refine Then_normal ?_
      refine W_region_lit (fun ds => ?_)
      refine WS_det hF (by rfl) (y_move (c := .int .i64 _) (by rfl)) ?_
      refine WS_det hF (by rfl) (y_add (by rfl) (by rfl) (by unfold I64; omega)) ?_
      refine WS_det hF (by rfl) (y_assign (c := .int .i64 _) (by rfl)) ?_
      refine WS_nil ?_
      exact Loop_next (k + 1) ⟨by omega, by omega⟩ (by repeat (first | exact trivial | refine ⟨by rfl, ?_⟩)) (by repeat (first | exact List.Sublist.refl _ | exact List.nil_sublist _ | apply List.Sublist.cons_cons | apply List.Sublist.cons)) (by omega)
    ·
      try simp only [Bool.not_eq_true', Bool.not_eq_false', decide_eq_true_eq, decide_eq_false_iff_not, ne_eq, Classical.not_not, Int.not_lt, Int.not_le] at c5
      refine W_exit ?_
      refine Then_exit ?_
      refine Loop_exit ?_
      refine InB_same ?_
      refine Then_normal ?_
      refine W_seq ?_
      refine W_region_lit (fun ds => ?_)
      refine WS_det hF (by rfl) (y_move (c := .int .i64 _) (by rfl)) ?_
      refine WS_det hF (by rfl) (y_assign (c := .int .i64 _) (by rfl)) ?_
      refine WS_nil ?_
      refine Then_normal ?_
      refine W_ret ?_
      refine Fin_ret [.int .i64 _] [] Tryz.results84 ⟨by rfl, trivial⟩ HSub.nil ?_
      obtain rfl : k = n := by omega
      rfl
def fillF (v0 : Int) (f i : Nat) : Int := if i < f then v0 else 0
theorem fill_one (v0 : Int) {N : Nat} (h : 0 < N) : splice (iRow (fun _ => 0) N) 0 [.int .i64 v0] = iRow (fillF v0 1) N := by
  have := rowOf_splice (enc := iEnc) (sz := 1) ii_len (f := fun _ => 0) (g := fillF v0 1) (k := 0) (n := N) h (us := [.int .i64 v0]) rfl (fun j hj hne => by unfold fillF; rw [if_neg (by omega)])
  rwa [Nat.zero_mul] at this
theorem fill_more (v0 : Int) {f m N : Nat} (h : f + m ≤ N) : splice (iRow (fillF v0 f) N) (0 + f * 1) (iRow (fun _ => v0) m) = iRow (fillF v0 (f + m)) N := by
  rw [Nat.zero_add]
  exact rowOf_splices (enc := iEnc) (sz := 1) ii_len h (fun j hj => by unfold fillF; rw [if_pos (by omega)]) (fun j hj ho => by
    unfold fillF
    by_cases h1 : j < f
    · rw [if_pos h1, if_pos (by omega)]
    · rw [if_neg h1, if_neg (by omega)])
theorem fill_pre (v0 : Int) {f m N : Nat} (h : m ≤ f) (hN : m ≤ N) : ∃ rest, iRow (fillF v0 f) N = iRow (fun _ => v0) m ++ rest := by
  obtain ⟨r, rfl⟩ : ∃ r, N = m + r := ⟨N - m, by omega⟩
  refine ⟨rowOf iEnc (fun j => fillF v0 f (m + j)) r, ?_⟩
  rw [iRow, rowOf_add, rowOf_congr (f := fillF v0 f) (g := fun _ => v0) m fun j hj => by unfold fillF; rw [if_pos (by omega)]]
theorem fill_all (v0 : Int) (N : Nat) : iRow (fillF v0 N) N = iRow (fun _ => v0) N := rowOf_congr _ fun j hj => by unfold fillF; rw [if_pos hj]
theorem iRow_one (f : Nat → Int) : ∀ n, (iRow f n).all Value.oneCell' = true
  | 0 => rfl
  | n + 1 => by rw [iRow, rowOf_succ, List.all_append, iRow_one f n]; rfl
section
variable {C : Ctx} {e : Env} {H : List Blk} {d : Option Tmp} {ty : TypeId} {pos : String} {af : Array Edge} {g : Option (Nat × Bool)}
theorem y_slice_hiE {x hi : Operand} {T E : TypeId} {b o len cap h sz : Nat} {n : Int} {kk : IntKind} (hx : ev e x = .slice (some ⟨b, o, none⟩) len cap) (hhi : ev e hi = .int kk n) (hn : n = (h : Int)) (hh : h ≤ cap) (hc : 0 < cap)
    (hT : ∀ w, (underlying T).run C.P w = .ok (.slice E) w) (hE : ∀ w, (sizeOf E).run C.P w = .ok sz w) :
    YD C ⟨d, .slice T x none (some hi) none, ty, pos, af, g⟩ e H (.slice (some ⟨b, o, none⟩) h cap) := by
  have := y_slice_hi (C := C) (H := H) (d := d) (ty := ty) (pos := pos) (af := af) (g := g) hx hhi hn hh hT hE
  rwa [shift_some (by omega), Nat.zero_mul, Nat.add_zero] at this
end
theorem repeat_any (b cap : Nat) (v0 : Int) (N : Nat) (w : World) (hN : 0 < N) (hN1 : N ≤ 100000) (hm : At w b 0 [.int .i64 v0]) : Ct Tryz.prog 82 #[.slice (some ⟨b, 0, none⟩) 1 cap, .int .i64 (N : Int)] w fun v Hn => ∃ nb, v = .slice (some ⟨nb, 0, none⟩) N N ∧ Hn = [(nb, CB (iRow (fun _ => v0) N) 3)] := by
  have hF := wide_wide
  refine Ct_start (args := [_, _]) Tryz.func82 (by rfl) Tryz.ntmps82 (by rfl) ?_
  refine W_seq ?_
  refine W_region_lit (fun ds => ?_)
  refine WS_det hF (by rfl) (y_assign (c := .slice _ _ _) (by rfl)) ?_
  refine WS_nil ?_
  refine Then_normal ?_
  refine W_seq ?_
  refine W_seq ?_
  refine W_region_lit (fun ds => ?_)
  refine WS_det hF (by rfl) (y_move (c := .int .i64 _) (by rfl)) ?_
  refine WS_det hF (by rfl) (y_lss (by rfl) (by rfl)) ?_
  refine WS_nil ?_
  refine Then_normal ?_
  refine W_cond (by rfl) (fun c1 => ?_) (fun c1 => ?_)
  · (simp only [decide_eq_true_eq] at c1; omega)
  ·
    try simp only [Bool.not_eq_true', Bool.not_eq_false', decide_eq_true_eq, decide_eq_false_iff_not, ne_eq, Classical.not_not, Int.not_lt, Int.not_le] at c1
    refine W_skip ?_
    refine Then_normal ?_
    refine W_seq ?_
    refine W_region_lit (fun ds => ?_)
    refine WS_det hF (by rfl) (y_move (c := .slice _ _ _) (by rfl)) ?_
    refine WS_det hF (by rfl) (y_len (by rfl) Tryz.runUnderlying22) ?_
    refine WS_det hF (by rfl) (y_conv_iu (by rfl) Tryz.runUnderlying3 Tryz.runUnderlying124 (by first | exact IntWalk.i64_in _ (by omega) | exact IntWalk.u64_in _ (by omega))) ?_
    refine WS_det hF (by rfl) (y_move (c := .int .i64 _) (by rfl)) ?_
    refine WS_det hF (by rfl) (y_conv_iu (by rfl) Tryz.runUnderlying3 Tryz.runUnderlying124 (by first | exact IntWalk.i64_in _ (by omega) | exact IntWalk.u64_in _ (by omega))) ?_
    refine WS_det hF (by rfl) (y_callL (by rfl) (by rfl) Tryz.call99 (fun w hw => mul_any (N : Int) w (by omega) (by omega))) ?_
    refine WS_det hF (by rfl) (y_move (c := .tuple _) (by rfl)) ?_
    refine WS_det hF (by rfl) (y_extract (c := .int .u64 _) (by rfl) (by rfl)) ?_
    refine WS_det hF (by rfl) (y_extract (c := .int .u64 _) (by rfl) (by rfl)) ?_
    refine WS_det hF (by rfl) (y_assign (c := .int .u64 _) (by rfl)) ?_
    refine WS_det hF (by rfl) (y_assign (c := .int .u64 _) (by rfl)) ?_
    refine WS_nil ?_
    refine Then_normal ?_
    refine W_seq ?_
    refine W_seq ?_
    refine W_region_lit (fun ds => ?_)
    refine WS_det hF (by rfl) (y_move (c := .int .u64 _) (by rfl)) ?_
    refine WS_det hF (by rfl) (y_gtr (by rfl) (by rfl)) ?_
    refine WS_det hF (by rfl) (y_move (c := .bool _) (by rfl)) ?_
    refine WS_split 23 (by rfl) (fun g4_2 => ?_) (fun g4_2 => ?_)
    ·
      try simp only [Bool.not_eq_true', Bool.not_eq_false', decide_eq_true_eq, decide_eq_false_iff_not, ne_eq, Classical.not_not, Int.not_lt, Int.not_le] at g4_2
      refine WS_no hF (by rfl) ?_
      refine WS_no hF (by rfl) ?_
      refine WS_det hF (by rfl) (by first | exact y_pick_t (c := .bool _) (by rfl) (by rfl) | exact y_pick_f (c := .bool _) (by rfl) (by rfl)) ?_
      refine WS_nil ?_
      refine Then_normal ?_
      refine W_cond (by rfl) (fun c4 => ?_) (fun c4 => ?_)
      · (simp only [decide_eq_true_eq] at c4; omega)
      · cases c4
    ·
      try simp only [Bool.not_eq_true', Bool.not_eq_false', decide_eq_true_eq, decide_eq_false_iff_not, ne_eq, Classical.not_not, Int.not_lt, Int.not_le] at g4_2
      refine WS_det hF (by rfl) (y_move (c := .int .u64 _) (by rfl)) ?_
      refine WS_det hF (by rfl) (y_gtr (by rfl) (by rfl)) ?_
      refine WS_det hF (by rfl) (by first | exact y_pick_t (c := .bool _) (by rfl) (by rfl) | exact y_pick_f (c := .bool _) (by rfl) (by rfl)) ?_
      refine WS_nil ?_
      refine Then_normal ?_
      refine W_cond (by rfl) (fun c4 => ?_) (fun c4 => ?_)
      · (simp only [decide_eq_true_eq] at c4; omega)
      ·
        try simp only [Bool.not_eq_true', Bool.not_eq_false', decide_eq_true_eq, decide_eq_false_iff_not, ne_eq, Classical.not_not, Int.not_lt, Int.not_le] at c4
        refine W_skip ?_
        refine Then_normal ?_
        refine W_seq ?_
        refine W_region_lit (fun ds => ?_)
        refine WS_det hF (by rfl) (y_move (c := .int .u64 _) (by rfl)) ?_
        refine WS_det hF (by rfl) (y_conv_iu (by rfl) Tryz.runUnderlying124 Tryz.runUnderlying3 (by first | exact IntWalk.i64_in _ (by omega) | exact IntWalk.u64_in _ (by omega))) ?_
        refine WS_newS hF (by rfl) (y_makeSlice (n := N) (by rfl) (by rfl) (by rfl) (by rfl) Tryz.underlying22 infInt (by rfl) (by rfl) (by omega) (by omega)) (fun b1 => ?_)
        refine WS_det hF (by rfl) (y_assign (c := .slice _ _ _) (by rfl)) ?_
        refine WS_nil ?_
        refine Then_normal ?_
        refine W_seq ?_
        refine W_region_lit (fun ds => ?_)
        refine WS_det hF (by rfl) (y_move (c := .slice _ _ _) (by rfl)) ?_
        refine WS_det hF (by rfl) (y_move (c := .slice _ _ _) (by rfl)) ?_
        refine WS_copy hF (k := 1) (idx := 0) (us := [.int .i64 v0]) (by rfl) (by rfl) (by rfl) Tryz.underlying22 infInt (by omega) (Mem.old hm) (by rfl) (by rfl) (by rfl) (by show 0 + 1 ≤ (iRow (fun _ => 0) N).length; rw [rowOf_len ii_len]; omega) ?_
        refine WS_det hF (by rfl) (y_assign (c := .int .i64 _) (by rfl)) ?_
        refine WS_nil ?_
        refine Then_normal ?_
        refine W_seq ?_
        refine W_block ?_
        refine W_loop (γ := Nat) (fun f => 1 ≤ f ∧ f ≤ N) (fun f => [(7, .slice (some ⟨b1, 0, none⟩) N N), (8, .int .i64 (f : Int))]) (fun f => [(b1, CB (iRow (fillF v0 f) N) 3)]) (fun f => N - f) (1) ⟨Nat.le_refl _, by omega⟩ (by repeat (first | exact trivial | refine ⟨by rfl, ?_⟩)) ((by rw [← fill_one v0 hN]; exact List.Sublist.refl _)) ?_
        rintro f e ⟨hf1, hf⟩
        refine W_seq ?_
        refine W_seq ?_
        refine W_region_lit (fun ds => ?_)
        refine WS_det hF (by rfl) (y_move (c := .int .i64 _) (by rfl)) ?_
        refine WS_det hF (by rfl) (y_move (c := .slice _ _ _) (by rfl)) ?_
        refine WS_det hF (by rfl) (y_len (by rfl) Tryz.runUnderlying22) ?_
        refine WS_det hF (by rfl) (y_lss (by rfl) (by rfl)) ?_
        refine WS_nil ?_
        refine Then_normal ?_
        refine W_cond (by rfl) (fun c8 => ?_) (fun c8 => ?_)
        ·
          try simp only [Bool.not_eq_true', Bool.not_eq_false', decide_eq_true_eq, decide_eq_false_iff_not, ne_eq, Classical.not_not, Int.not_lt, Int.not_le] at c8
          have hfN : f < N := by omega
          obtain ⟨rest, hrest⟩ := fill_pre v0 (f := f) (m := min f (N - f)) (N := N) (by omega) (by omega)
          refine W_skip ?_
          refine Then_normal ?_
          refine W_block ?_
          apply W_drawZR 7 0 hF Tryzmixed [] [] [] (by rfl) (by decide +kernel) (by decide) (by rfl) (by rfl) (by rfl) (by rfl) (by rfl) (fun _ w => ro_move w) HSub.refl
          intro ds
          refine P_det (by rfl) (Over_nil (y_move (c := .int .i64 _) (by rfl))) ?_
          refine P_det (by rfl) (Over_nil (y_move (c := .slice _ _ _) (by rfl))) ?_
          refine P_det (by rfl) (Over_nil (y_move (c := .int .i64 _) (by rfl))) ?_
          refine P_det (by rfl) (Over_nil (y_slice_loE (by rfl) (by rfl) (by rfl) (by omega) Tryz.runUnderlying22 Tryz.sizeOf3 (shift_some (by omega)))) ?_
          refine P_det (by rfl) (Over_nil (y_move (c := .slice _ _ _) (by rfl))) ?_
          refine P_det (by rfl) (Over_nil (y_move (c := .int .i64 _) (by rfl))) ?_
          refine P_det (by rfl) (Over_nil (y_slice_hiE (by rfl) (by rfl) (by rfl) (by omega) (by omega) Tryz.runUnderlying22 Tryz.sizeOf3)) ?_
          refine PW_end (by rfl) ?_
          refine OverAll_nil ?_
          rintro -
          refine ⟨?_, fun xz => ?_⟩
          ·
            refine WS_copy hF (k := min f (N - f)) (idx := 0) (us := iRow (fun _ => v0) (min f (N - f))) (by rfl) (by rfl) (by rfl) Tryz.underlying22 infInt (by rfl) (Mem.own (o := 0) 0 (by rfl) (by rw [List.drop_zero]; exact hrest)) (rowOf_len ii_len _ _) (iRow_one _ _) (by rfl) (by rw [rowOf_len ii_len, rowOf_len ii_len]; omega) ?_
            refine WS_det hF (by rfl) (y_add (by rfl) (by rfl) (by unfold I64; omega)) ?_
            refine WS_det hF (by rfl) (y_assign (c := .int .i64 _) (by rfl)) ?_
            refine WS_nil ?_
            refine InB_normal ?_
            exact Loop_next (f + min f (N - f)) ⟨by omega, by omega⟩ (by repeat (first | exact trivial | refine ⟨by rfl, ?_⟩)) (by rw [← fill_more v0 (f := f) (m := min f (N - f)) (by omega)]; exact List.Sublist.refl _) (by omega)
          ·
            refine WS_copy hF (k := min f (N - f)) (idx := 0) (us := iRow (fun _ => v0) (min f (N - f))) (by rfl) (by rfl) (by rfl) Tryz.underlying22 infInt (by rfl) (Mem.own (o := 0) 0 (by rfl) (by rw [List.drop_zero]; exact hrest)) (rowOf_len ii_len _ _) (iRow_one _ _) (by rfl) (by rw [rowOf_len ii_len, rowOf_len ii_len]; omega) ?_
            refine WS_det hF (by rfl) (y_move (c := .int .i64 _) (by rfl)) ?_
            refine WS_det hF (by rfl) (y_add (by rfl) (by rfl) (by unfold I64; omega)) ?_
            refine WS_det hF (by rfl) (y_assign (c := .int .i64 _) (by rfl)) ?_
            refine WS_nil ?_
            refine InB_normal ?_
            exact Loop_next (f + min f (N - f)) ⟨by omega, by omega⟩ (by repeat (first | exact trivial | refine ⟨by rfl, ?_⟩)) (by rw [← fill_more v0 (f := f) (m := min f (N - f)) (by omega)]; exact List.Sublist.refl _) (by omega)
        ·
          try simp only [Bool.not_eq_true', Bool.not_eq_false', decide_eq_true_eq, decide_eq_false_iff_not, ne_eq, Classical.not_not, Int.not_lt, Int.not_le] at c8
          refine W_exit ?_
          refine Then_exit ?_
          refine Loop_exit ?_
          refine InB_same ?_
          refine Then_normal ?_
          refine W_seq ?_
          refine W_region_lit (fun ds => ?_)
          refine WS_det hF (by rfl) (y_move (c := .slice _ _ _) (by rfl)) ?_
          refine WS_det hF (by rfl) (y_assign (c := .slice _ _ _) (by rfl)) ?_
          refine WS_nil ?_
          refine Then_normal ?_
          refine W_ret ?_
          refine Fin_ret [.slice _ _ _] [(b1, _)] Tryz.results82 ⟨by rfl, trivial⟩ (HSub.sub (by repeat (first | exact List.nil_sublist _ | apply List.Sublist.cons_cons | apply List.Sublist.cons))) ?_
          obtain rfl : f = N := by omega
          exact ⟨b1, rfl, by rw [fill_all]⟩
end Go.Proofs.YthkimgfgpphgnaaGreat.T

/- What leaks altogether: the closure that moves all sums. -/
namespace Go.Proofs.YthkimgfgpphgnaaGreat.T
open Go.RowKit Go.Proofs Go.Eng
set_option maxRecDepth 100000
set_option linter.unusedVariables false
set_option linter.unusedSimpArgs false



def never : Int := -1099511627776
def mxF (g : Nat → Int) (a : Nat) : Nat → Int
  | 0 => never
  | n + 1 => max (mxF g a n) (g (a + n))
def mvA (hi : Int) (t : Nat) : Nat := (max 0 ((t : Int) - hi)).toNat
def mvN (F : Nat) (lo hi : Int) (t : Nat) : Nat := (min (F : Int) ((t : Int) - lo) - max 0 ((t : Int) - hi) + 1).toNat
def mvG (wo : Int) (best : Nat → Int) (t : Nat) (v : Nat) : Int := best v + wo * ((v : Int) - (t : Int))
def mv (F : Nat) (lo hi wo : Int) (best : Nat → Int) (t : Nat) : Int := mxF (mvG wo best t) (mvA hi t) (mvN F lo hi t)
def nxF (F : Nat) (lo hi wo : Int) (best : Nat → Int) (t c j : Nat) : Int := if j < t then mv F lo hi wo best j else if j = t then mxF (mvG wo best t) (mvA hi t) c else never
theorem nx_next (F : Nat) (lo hi wo : Int) (best : Nat → Int) {t c : Nat} (hc : c = mvN F lo hi t) : iRow (nxF F lo hi wo best t c) (F + 1) = iRow (nxF F lo hi wo best (t + 1) 0) (F + 1) := rowOf_congr _ fun j hj => by
  unfold nxF
  by_cases h1 : j < t
  · rw [if_pos h1, if_pos (by omega)]
  · rw [if_neg h1]
    by_cases h2 : j = t
    · rw [if_pos h2, if_pos (by omega), h2, hc]; rfl
    · rw [if_neg h2, if_neg (by omega)]
      split <;> rfl
theorem nx_zero (F : Nat) (lo hi wo : Int) (best : Nat → Int) : iRow (fun _ => never) (F + 1) = iRow (nxF F lo hi wo best 0 0) (F + 1) := rowOf_congr _ fun j hj => by
  unfold nxF
  rw [if_neg (by omega)]
  split <;> rfl
theorem nx_end (F : Nat) (lo hi wo : Int) (best : Nat → Int) (c : Nat) : iRow (nxF F lo hi wo best (F + 1) c) (F + 1) = iRow (mv F lo hi wo best) (F + 1) := rowOf_congr _ fun j hj => by
  unfold nxF; rw [if_pos hj]
theorem nx_step (F : Nat) (lo hi wo : Int) (best : Nat → Int) {t c : Nat} (ht : t < F + 1) : splice (iRow (nxF F lo hi wo best t c) (F + 1)) (0 + t * 1) [.int .i64 (max (mxF (mvG wo best t) (mvA hi t) c) (best (mvA hi t + c) + wo * ((mvA hi t : Int) + (c : Int) - (t : Int))))] = iRow (nxF F lo hi wo best t (c + 1)) (F + 1) := by
  rw [Nat.zero_add]
  refine rowOf_splice (enc := iEnc) (sz := 1) ii_len ht ?_ fun j hj hne => ?_
  · unfold nxF iEnc
    rw [if_neg (by omega), if_pos rfl, ← Int.natCast_add]; rfl
  · unfold nxF
    rw [if_neg hne, if_neg hne]
theorem Mem.iRowE {C : Ctx} {H : List Blk} {b o n k : Nat} {f : Nat → Int} {v : Int} {T : TypeId} (i : Nat) (hi : H[i]? = some (b, CB (iRow f n) T)) (hk : k < n) (hs : f k = v) (ho : o = k * 1) : Mem C H b o [.int .i64 v] :=
  Mem.row (enc := iEnc) ii_len i hi hk hs ho
theorem mxF_bd {g : Nat → Int} {a : Nat} {m : Int} (hm : never ≤ m) : ∀ n, (∀ j, j < n → g (a + j) ≤ m) → never ≤ mxF g a n ∧ mxF g a n ≤ m
  | 0, _ => ⟨Int.le_refl _, hm⟩
  | n + 1, h => by
    have h1 := mxF_bd hm n fun j hj => h j (by omega)
    have h2 := h n (by omega)
    show never ≤ max _ _ ∧ max _ _ ≤ m
    omega

theorem moves_cs (w0 : World) (ds0 out0 : List Deferred) (pk pb ob kb F : Nat) (l : Lg) (s : Sn) (wo m : Int) (best : Nat → Int) (G : List Blk) (hK : Kn w0 kb l) (hfull : l.tk.full = (F : Int)) (hwo : wo = -1 ∨ wo = 0 ∨ wo = 1) (hs : s.Sm)
    (hb : ∀ j, j ≤ F → never ≤ best j ∧ best j ≤ m) (hm0 : 0 ≤ m) (hm : m ≤ 1000000) :
    Cs ⟨Tryz.prog, w0, ds0, out0⟩ 83 #[.agg s.cells.toArray, .int .i64 wo, .pointer (some ⟨pk, 0, none⟩), .pointer (some ⟨pb, 0, none⟩)]
      ((pb, CB [.slice (some ⟨ob, 0, none⟩) (F + 1) (F + 1)] 22) :: (ob, CB (iRow best (F + 1)) 3) :: (pk, CB [.pointer (some ⟨kb, 0, none⟩)] 69) :: G)
      fun _ H' => ∃ nb, H' = (pb, CB [.slice (some ⟨nb, 0, none⟩) (F + 1) (F + 1)] 22) :: (nb, CB (iRow (mv F s.lo s.hi wo best) (F + 1)) 3) :: (pk, CB [.pointer (some ⟨kb, 0, none⟩)] 69) :: G := by
  obtain ⟨hok, hne, bk, fb, capf, ab, bb, k3, _, _, _, _, g, a, cap, ae, cape, k4, ⟨_, a2, cap2, hg, _⟩, _⟩ := hK
  have hfb := hok.tk.full_bd
  have hF6 : F ≤ 600 := by omega
  have hnv : never = -1099511627776 := rfl
  rw [hfull] at hg
  unfold Sn.Sm at hs
  have hF := wide_wide
  refine Cs_start (args := [_, _, _, _]) Tryz.func83 (by rfl) Tryz.ntmps83 (by rfl) ?_
  refine W_seq ?_
  refine W_region_lit (fun ds => ?_)
  refine WS_new hF (by rfl) (y_box (by rfl)) (fun b1 => ?_)
  refine WS_nil ?_
  refine Then_normal ?_
  refine W_seq ?_
  refine W_region_lit (fun ds => ?_)
  refine WS_newS hF (by rfl) (y_buildSliceL bs22_1_0 (by rfl)) (fun b2 => ?_)
  refine WS_det hF (by rfl) (y_load1 (by rfl) Tryz.isAgg69 (Mem.own1 4 (by rfl) (by rfl))) ?_
  refine WS_det hF (by rfl) (by first | exact y_nilCheck (by rfl) | exact y_nilCheckF (by rfl)) ?_
  refine WS_det hF (by rfl) (y_fieldAddr (by rfl) fa79_0) ?_
  refine WS_det hF (by rfl) (y_load1 (by rfl) Tryz.isAgg76 (by first | exact Mem.old1 (by assumption) | exact Mem.oldAt1 (by assumption) (by rfl) | exact Mem.old (by assumption) | exact Mem.oldAtL1 (by assumption) (by rfl) (by rfl))) ?_
  refine WS_det hF (by rfl) (by first | exact y_nilCheck (by rfl) | exact y_nilCheckF (by rfl)) ?_
  refine WS_det hF (by rfl) (y_fieldAddr (by rfl) fa91_0) ?_
  refine WS_det hF (by rfl) (y_load1 (by rfl) Tryz.isAgg84 (by first | exact Mem.old1 (by assumption) | exact Mem.oldAt1 (by assumption) (by rfl) | exact Mem.old (by assumption) | exact Mem.oldAtL1 (by assumption) (by rfl) (by rfl))) ?_
  refine WS_det hF (by rfl) (by first | exact y_nilCheck (by rfl) | exact y_nilCheckF (by rfl)) ?_
  refine WS_det hF (by rfl) (y_fieldAddr (by rfl) fa95_1) ?_
  refine WS_det hF (by rfl) (y_load1 (by rfl) Tryz.isAgg3 (by first | exact Mem.old1 (by assumption) | exact Mem.oldAt1 (by assumption) (by rfl) | exact Mem.old (by assumption) | exact Mem.oldAtL1 (by assumption) (by rfl) (by rfl))) ?_
  refine WS_det hF (by rfl) (y_add (by rfl) (by rfl) (by unfold I64; omega)) ?_
  refine WS_gen hF (by rfl) (y_callL (by rfl) (by rfl) Tryz.call82 (fun w hw => repeat_any b2 1 never (F + 1) w (by omega) (by omega) (Mem.own (us := [.int _ _]) 0 (by rfl) (by rfl) w hw))) ?_
  rintro _ _ ⟨nb, rfl, rfl⟩
  refine WS_det hF (by rfl) (y_assign (c := .slice _ _ _) (by rfl)) ?_
  refine WS_nil ?_
  refine Then_normal ?_
  refine W_seq ?_
  refine W_seq ?_
  refine W_region_lit (fun ds => ?_)
  refine WS_det hF (by rfl) (y_move (c := .slice _ _ _) (by rfl)) ?_
  refine WS_det hF (by rfl) (y_len (by rfl) Tryz.runUnderlying22) ?_
  refine WS_det hF (by rfl) (y_move (c := .int .i64 _) (by rfl)) ?_
  refine WS_nil ?_
  refine Then_normal ?_
  refine W_block ?_
  refine W_loop (γ := Nat) (fun t => t ≤ F + 1) (fun t => [(1, .int .i64 wo), (2, .pointer (some ⟨pk, 0, none⟩)), (3, .pointer (some ⟨pb, 0, none⟩)), (4, .pointer (some ⟨b1, 0, none⟩)), (6, .slice (some ⟨nb, 0, none⟩) (F + 1) (F + 1)), (23, .int .i64 ((F + 1 : Nat) : Int)), (24, .int .i64 (t : Int))]) (fun t => (nb, CB (iRow (nxF F s.lo s.hi wo best t 0) (F + 1)) 3) :: (b1, CB s.cells 26) :: (pb, CB [.slice (some ⟨ob, 0, none⟩) (F + 1) (F + 1)] 22) :: (ob, CB (iRow best (F + 1)) 3) :: (pk, CB [.pointer (some ⟨kb, 0, none⟩)] 69) :: G) (fun t => F + 1 - t) (0) (Nat.zero_le _) (by repeat (first | exact trivial | refine ⟨by rfl, ?_⟩)) ((by rw [← nx_zero]; repeat (first | exact List.Sublist.refl _ | apply List.Sublist.cons_cons | apply List.Sublist.cons))) ?_
  intro t e ht
  refine W_seq ?_
  refine W_region_lit (fun ds => ?_)
  refine WS_det hF (by rfl) (y_lss (by rfl) (by rfl)) ?_
  refine WS_nil ?_
  refine Then_normal ?_
  refine W_seq ?_
  refine W_cond (by rfl) (fun c3 => ?_) (fun c3 => ?_)
  ·
    try simp only [Bool.not_eq_true', Bool.not_eq_false', decide_eq_true_eq, decide_eq_false_iff_not, ne_eq, Classical.not_not, Int.not_lt, Int.not_le] at c3
    have htF : t < F + 1 := by omega
    have hA : ((mvA s.hi t : Nat) : Int) = max 0 ((t : Int) - s.hi) := by unfold mvA; omega
    have hNn : ((mvN F s.lo s.hi t : Nat) : Int) = max 0 (min (F : Int) ((t : Int) - s.lo) - max 0 ((t : Int) - s.hi) + 1) := by unfold mvN; omega
    refine W_skip ?_
    refine Then_normal ?_
    refine W_seq ?_
    refine W_block ?_
    refine W_seq ?_
    refine W_region_lit (fun ds => ?_)
    refine WS_det hF (by rfl) (y_move (c := .int .i64 _) (by rfl)) ?_
    refine WS_det hF (by rfl) (y_assign (c := .int .i64 _) (by rfl)) ?_
    refine WS_nil ?_
    refine Then_normal ?_
    refine W_seq ?_
    refine W_region_lit (fun ds => ?_)
    refine WS_det hF (by rfl) (y_move (c := .int .i64 _) (by rfl)) ?_
    refine WS_det hF (by rfl) (y_fieldAddr (by rfl) fa26_1) ?_
    refine WS_det hF (by rfl) (y_load1 (by rfl) Tryz.isAgg3 (Mem.own1 1 (by rfl) (by rfl))) ?_
    refine WS_det hF (by rfl) (y_sub (by rfl) (by rfl) (by unfold I64; omega)) ?_
    refine WS_det hF (by rfl) (y_max (by rfl) (by rfl)) ?_
    refine WS_det hF (by rfl) (y_assign (c := .int .i64 _) (by rfl)) ?_
    refine WS_nil ?_
    refine Then_normal ?_
    refine W_block ?_
    refine W_loop (γ := Nat) (fun c => c ≤ mvN F s.lo s.hi t) (fun c => [(1, .int .i64 wo), (2, .pointer (some ⟨pk, 0, none⟩)), (3, .pointer (some ⟨pb, 0, none⟩)), (4, .pointer (some ⟨b1, 0, none⟩)), (6, .slice (some ⟨nb, 0, none⟩) (F + 1) (F + 1)), (7, .int .i64 (t : Int)), (8, .int .i64 ((mvA s.hi t : Int) + (c : Int))), (23, .int .i64 ((F + 1 : Nat) : Int)), (24, .int .i64 (t : Int))]) (fun c => (nb, CB (iRow (nxF F s.lo s.hi wo best t c) (F + 1)) 3) :: (b1, CB s.cells 26) :: (pb, CB [.slice (some ⟨ob, 0, none⟩) (F + 1) (F + 1)] 22) :: (ob, CB (iRow best (F + 1)) 3) :: (pk, CB [.pointer (some ⟨kb, 0, none⟩)] 69) :: G) (fun c => mvN F s.lo s.hi t - c) (0) (Nat.zero_le _) ((by repeat (first | exact trivial | refine ⟨by rfl, ?_⟩ | refine ⟨congrArg (Value.int _) (by first | omega | (simp only; omega) | (push_cast; omega)), ?_⟩))) (List.Sublist.refl _) ?_
    intro c e hc
    refine W_seq ?_
    refine W_seq ?_
    refine W_draw0 hF Tryzmixed [] (by decide +kernel) (fun ds => ?_)
    refine P_det (by rfl) (Over_nil (y_move (c := .int .i64 _) (by rfl))) ?_
    refine P_det (by rfl) (Over_nil (y_load1 (by rfl) Tryz.isAgg69 (Mem.own1 4 (by rfl) (by rfl)))) ?_
    refine P_det (by rfl) (Over_nil (by first | exact y_nilCheck (by rfl) | exact y_nilCheckF (by rfl))) ?_
    refine P_det (by rfl) (Over_nil (y_fieldAddr (by rfl) fa79_0)) ?_
    refine P_det (by rfl) (Over_nil (y_load1 (by rfl) Tryz.isAgg76 (by first | exact Mem.old1 (by assumption) | exact Mem.oldAt1 (by assumption) (by rfl) | exact Mem.old (by assumption) | exact Mem.oldAtL1 (by assumption) (by rfl) (by rfl)))) ?_
    refine P_det (by rfl) (Over_nil (by first | exact y_nilCheck (by rfl) | exact y_nilCheckF (by rfl))) ?_
    refine P_det (by rfl) (Over_nil (y_fieldAddr (by rfl) fa91_0)) ?_
    refine P_det (by rfl) (Over_nil (y_load1 (by rfl) Tryz.isAgg84 (by first | exact Mem.old1 (by assumption) | exact Mem.oldAt1 (by assumption) (by rfl) | exact Mem.old (by assumption) | exact Mem.oldAtL1 (by assumption) (by rfl) (by rfl)))) ?_
    refine P_det (by rfl) (Over_nil (by first | exact y_nilCheck (by rfl) | exact y_nilCheckF (by rfl))) ?_
    refine P_det (by rfl) (Over_nil (y_fieldAddr (by rfl) fa95_1)) ?_
    refine P_det (by rfl) (Over_nil (y_load1 (by rfl) Tryz.isAgg3 (by first | exact Mem.old1 (by assumption) | exact Mem.oldAt1 (by assumption) (by rfl) | exact Mem.old (by assumption) | exact Mem.oldAtL1 (by assumption) (by rfl) (by rfl)))) ?_
    refine P_det (by rfl) (Over_nil (y_move (c := .int .i64 _) (by rfl))) ?_
    refine P_det (by rfl) (Over_nil (y_fieldAddr (by rfl) fa26_0)) ?_
    refine P_det (by rfl) (Over_nil (y_load1 (by rfl) Tryz.isAgg3 (Mem.own1 1 (by rfl) (by rfl)))) ?_
    refine P_det (by rfl) (Over_nil (y_sub (by rfl) (by rfl) (by unfold I64; omega))) ?_
    refine P_det (by rfl) (Over_nil (y_min (by rfl) (by rfl))) ?_
    refine P_det (by rfl) (Over_nil (y_leq (by rfl) (by rfl))) ?_
    refine PW_end (by rfl) ?_
    refine OverAll_nil ?_
    rintro -
    refine Then_normal ?_
    refine W_cond (by rfl) (fun c6 => ?_) (fun c6 => ?_)
    ·
      try simp only [Bool.not_eq_true', Bool.not_eq_false', decide_eq_true_eq, decide_eq_false_iff_not, ne_eq, Classical.not_not, Int.not_lt, Int.not_le] at c6
      have hmul : -600 ≤ wo * ((mvA s.hi t : Int) + (c : Int) - (t : Int)) ∧ wo * ((mvA s.hi t : Int) + (c : Int) - (t : Int)) ≤ 600 := by rcases hwo with rfl | rfl | rfl <;> omega
      have hbb := hb (mvA s.hi t + c) (by omega)
      refine W_skip ?_
      refine Then_normal ?_
      refine W_seq ?_
      refine W_block ?_
      apply W_drawMT 18 hF Tryzmixed [] [] [] (by rfl) (by decide +kernel) (by decide) HSub.refl
      intro ds
      refine P_det (by rfl) (Over_nil (y_move (c := .slice _ _ _) (by rfl))) ?_
      refine P_det (by rfl) (Over_nil (y_move (c := .int .i64 _) (by rfl))) ?_
      refine P_det (by rfl) (Over_nil (y_move (c := .slice _ _ _) (by rfl))) ?_
      refine P_det (by rfl) (Over_nil (y_move (c := .int .i64 _) (by rfl))) ?_
      refine P_det (by rfl) (Over_nil (y_index (k := t) (by rfl) (by rfl) (by first | rfl | omega) (by first | decide | omega) Tryz.runUnderlying22 Tryz.sizeOf3)) ?_
      refine P_det (by rfl) (Over_nil (y_load1 (by rfl) Tryz.isAgg3 (Mem.iRowE 0 (by rfl) (k := t) htF (by unfold nxF; rw [if_neg (by omega), if_pos rfl]) (by omega)))) ?_
      refine P_det (by rfl) (Over_nil (y_load1 (by rfl) Tryz.isAgg22 (Mem.own1 2 (by rfl) (by rfl)))) ?_
      refine P_det (by rfl) (Over_nil (y_move (c := .int .i64 _) (by rfl))) ?_
      refine P_det (by rfl) (Over_nil (y_index (k := mvA s.hi t + c) (by rfl) (by rfl) (by first | rfl | omega) (by first | decide | omega) Tryz.runUnderlying22 Tryz.sizeOf3)) ?_
      refine P_det (by rfl) (Over_nil (y_load1 (by rfl) Tryz.isAgg3 (Mem.iRowE 3 (by rfl) (k := mvA s.hi t + c) (by omega) rfl (by omega)))) ?_
      refine P_det (by rfl) (Over_nil (y_move (c := .int .i64 _) (by rfl))) ?_
      refine P_det (by rfl) (Over_nil (y_move (c := .int .i64 _) (by rfl))) ?_
      refine P_det (by rfl) (Over_nil (y_move (c := .int .i64 _) (by rfl))) ?_
      refine P_det (by rfl) (Over_nil (y_sub (by rfl) (by rfl) (by unfold I64; omega))) ?_
      refine P_det (by rfl) (Over_nil (y_mul (by rfl) (by rfl) (by unfold I64; omega))) ?_
      refine P_det (by rfl) (Over_nil (y_add (by rfl) (by rfl) (by unfold I64; omega))) ?_
      refine P_det (by rfl) (Over_nil (y_max (by rfl) (by rfl))) ?_
      refine P_det (by rfl) (Over_nil (y_index (k := t) (by rfl) (by rfl) (by first | rfl | omega) (by first | decide | omega) Tryz.runUnderlying22 Tryz.sizeOf3)) ?_
      refine PW_end (by rfl) ?_
      refine OverAll_nil ?_
      rintro -
      refine WS_store hF (i := 0) (by rfl) (by rfl) Tryz.sizeOf3 (by rfl) (by rfl) (by rfl) (by show 0 + t * 1 + 1 ≤ (iRow (nxF F s.lo s.hi wo best t c) (F + 1)).length; rw [rowOf_len ii_len]; omega) ?_
      refine WS_nil ?_
      refine InB_normal ?_
      refine Then_normal ?_
      refine W_region_lit (fun ds => ?_)
      refine WS_det hF (by rfl) (y_move (c := .int .i64 _) (by rfl)) ?_
      refine WS_det hF (by rfl) (y_add (by rfl) (by rfl) (by unfold I64; omega)) ?_
      refine WS_det hF (by rfl) (y_assign (c := .int .i64 _) (by rfl)) ?_
      refine WS_nil ?_
      exact Loop_next (c + 1) (by omega) (by repeat (first | exact trivial | refine ⟨by rfl, ?_⟩ | refine ⟨congrArg (Value.int _) (by first | omega | (simp only; omega) | (push_cast; omega)), ?_⟩)) (by rw [← nx_step F s.lo s.hi wo best htF]; exact List.Sublist.refl _) (by omega)
    ·
      try simp only [Bool.not_eq_true', Bool.not_eq_false', decide_eq_true_eq, decide_eq_false_iff_not, ne_eq, Classical.not_not, Int.not_lt, Int.not_le] at c6
      have hcN : c = mvN F s.lo s.hi t := by omega
      refine W_exit ?_
      refine Then_exit ?_
      refine Loop_exit ?_
      refine InB_same ?_
      refine InB_normal ?_
      refine Then_normal ?_
      refine W_region_lit (fun ds => ?_)
      refine WS_det hF (by rfl) (y_add (by rfl) (by rfl) (by unfold I64; omega)) ?_
      refine WS_det hF (by rfl) (y_move (c := .int .i64 _) (by rfl)) ?_
      refine WS_nil ?_
      exact Loop_next (t + 1) (by omega) (by repeat (first | exact trivial | refine ⟨by rfl, ?_⟩)) (by rw [← nx_next _ _ _ _ _ hcN]; exact List.Sublist.refl _) (by omega)
  ·
    try simp only [Bool.not_eq_true', Bool.not_eq_false', decide_eq_true_eq, decide_eq_false_iff_not, ne_eq, Classical.not_not, Int.not_lt, Int.not_le] at c3
    refine W_exit ?_
    refine Then_exit ?_
    refine Loop_exit ?_
    refine InB_same ?_
    refine Then_normal ?_
    refine W_region_lit (fun ds => ?_)
    refine WS_det hF (by rfl) (y_move (c := .slice _ _ _) (by rfl)) ?_
    refine WS_store hF (i := 2) (by rfl) (by rfl) Tryz.sizeOf22 (by rfl) (by rfl) (by rfl) (by first | decide | exact Nat.le_of_ble_eq_true rfl | simp) ?_
    refine WS_nil ?_
    refine Fin_norm [] ((pb, _) :: (nb, _) :: (pk, _) :: G) Tryz.results83 trivial ((SubP.hsub (SubP.pick 2 (by rfl) (SubP.pick 0 (by rfl) (SubP.pick 2 (by rfl) (by exact SubP.drop (SubP.drop (SubP.refl)))))))) ?_
    obtain rfl : t = F + 1 := by omega
    exact ⟨nb, by rw [← nx_end F s.lo s.hi wo best 0]; rfl⟩
end Go.Proofs.YthkimgfgpphgnaaGreat.T

/- What leaks altogether: the walks. -/
namespace Go.Proofs.YthkimgfgpphgnaaGreat.T
open Go.RowKit Go.Proofs Go.Eng
set_option maxRecDepth 100000
set_option linter.unusedVariables false
set_option linter.unusedSimpArgs false

theorem bd26_0 {x0 : Int} : ∀ w, (Instr.build 26 #[(0, .int .i64 x0)]).run Tryz.prog w = .ok (.agg #[.int .i64 x0, .int .i64 0]) w := fun w => by kernel_rfl

theorem WS_sub {C : Ctx} {F : Fence} {n : Nat} {ds : List Deferred} {all : Array Oper} {Q : Exit → Env → List Blk → Prop} {rest : List Oper} {e : Env} {H H' : List Blk} (hs : HSub H H') (k : WS C F n ds all Q rest e H') : WS C F n ds all Q rest e H :=
  fun w hw a ha => k w ⟨hw.1, hs _ _ hw.2, hw.3⟩ a ha
theorem mv_bd {F : Nat} {lo hi wo m : Int} {best : Nat → Int} (hF : F ≤ 600) (hwo : wo = -1 ∨ wo = 0 ∨ wo = 1) (hm0 : 0 ≤ m) (hb : ∀ j, j ≤ F → never ≤ best j ∧ best j ≤ m) (t : Nat) (ht : t ≤ F) : never ≤ mv F lo hi wo best t ∧ mv F lo hi wo best t ≤ m + 600 := by
  have hA : ((mvA hi t : Nat) : Int) = max 0 ((t : Int) - hi) := by unfold mvA; omega
  have hN : ((mvN F lo hi t : Nat) : Int) = max 0 (min (F : Int) ((t : Int) - lo) - max 0 ((t : Int) - hi) + 1) := by unfold mvN; omega
  have hnv : never = -1099511627776 := rfl
  refine mxF_bd (by omega) _ fun j hj => ?_
  have h1 := hb (mvA hi t + j) (by omega)
  unfold mvG
  have h2 : wo * (((mvA hi t + j : Nat) : Int) - (t : Int)) ≤ 600 := by rcases hwo with rfl | rfl | rfl <;> omega
  omega
theorem mv0_bd {F : Nat} {lo hi m : Int} {best : Nat → Int} (hm0 : 0 ≤ m) (hb : ∀ j, j ≤ F → never ≤ best j ∧ best j ≤ m) (t : Nat) (ht : t ≤ F) : never ≤ mv F lo hi 0 best t ∧ mv F lo hi 0 best t ≤ m := by
  have hA : ((mvA hi t : Nat) : Int) = max 0 ((t : Int) - hi) := by unfold mvA; omega
  have hN : ((mvN F lo hi t : Nat) : Int) = max 0 (min (F : Int) ((t : Int) - lo) - max 0 ((t : Int) - hi) + 1) := by unfold mvN; omega
  have hnv : never = -1099511627776 := rfl
  refine mxF_bd (by omega) _ fun j hj => ?_
  have h1 := hb (mvA hi t + j) (by omega)
  unfold mvG
  rw [Int.zero_mul]; omega
def dipF (d : Sn) (best : Nat → Int) (v : Nat) : Int := if inB d.lo d.hi [(v : Int)] then best v else never
def Lg.best0 (l : Lg) (v : Nat) : Int := if l.start.lo ≤ (v : Int) ∧ (v : Int) ≤ l.start.hi then 0 else never
def Lg.bstep (l : Lg) (F : Nat) (sign : Int) (k : Nat) (best : Nat → Int) : Nat → Int :=
  if (l.e k).kind = 1 then mv F (l.e k).size.lo (l.e k).size.hi 0 (mv F (-l.drip k) 0 sign best)
  else if (l.e k).kind = 2 then mv F (-(l.e k).size.hi) (-(l.e k).size.lo) 0 (mv F (-l.drip k) 0 sign best)
  else dipF (l.tk.dip (l.e k).size) (mv F (-l.drip k) 0 sign best)
def Lg.bestK (l : Lg) (F : Nat) (sign : Int) : Nat → Nat → Int
  | 0 => l.best0
  | k + 1 => l.bstep F sign k (l.bestK F sign k)
theorem Lg.best_bd (l : Lg) {F : Nat} {sign : Int} (hF : F ≤ 600) (hs : sign = -1 ∨ sign = 0 ∨ sign = 1) : ∀ k v, v ≤ F → never ≤ l.bestK F sign k v ∧ l.bestK F sign k v ≤ 600 * (k : Int)
  | 0, v, _ => by
    have hnv : never = -1099511627776 := rfl
    show never ≤ l.best0 v ∧ l.best0 v ≤ _
    unfold Lg.best0
    split <;> omega
  | k + 1, v, hv => by
    have hnv : never = -1099511627776 := rfl
    have ih := Lg.best_bd l hF hs k
    have h1 : ∀ j, j ≤ F → never ≤ mv F (-l.drip k) 0 sign (l.bestK F sign k) j ∧ mv F (-l.drip k) 0 sign (l.bestK F sign k) j ≤ 600 * (k : Int) + 600 := fun j hj => mv_bd hF hs (by omega) ih j hj
    show never ≤ l.bstep F sign k (l.bestK F sign k) v ∧ l.bstep F sign k (l.bestK F sign k) v ≤ _
    push_cast
    unfold Lg.bstep
    split
    · have := mv0_bd (lo := (l.e k).size.lo) (hi := (l.e k).size.hi) (m := 600 * (k : Int) + 600) (by omega) h1 v hv; omega
    · split
      · have := mv0_bd (lo := -(l.e k).size.hi) (hi := -(l.e k).size.lo) (m := 600 * (k : Int) + 600) (by omega) h1 v hv; omega
      · unfold dipF
        split
        · have := h1 v hv; omega
        · omega
def Lg.lostI (l : Lg) (sign : Int) : Int := maxN (l.bestK l.tk.full.toNat sign l.es.length) (l.tk.full.toNat + 1)
def stF (lo : Int) (c v : Nat) : Int := if lo ≤ (v : Int) ∧ (v : Int) < lo + (c : Int) then 0 else never
def dpF (d : Sn) (best : Nat → Int) (j v : Nat) : Int := if v < j then dipF d best v else best v

theorem lost2_any (kb : Nat) (l : Lg) (sign : Int) (w : World) (hK : Kn w kb l) (hsg : sign = -1 ∨ sign = 0 ∨ sign = 1) :
    Ct Tryz.prog 52 #[.pointer (some ⟨kb, 0, none⟩), .int .i64 sign] w fun v _ => v = .int .i64 (l.lostI sign) := by
  have hK0 := hK
  obtain ⟨hok, hne, bk, fb, capf, ab, bb, k3, _, _, _, hB⟩ := hK
  have ⟨_, g, a, cap, ae, cape, k4, hG, he⟩ := hB
  have ⟨_, a2, cap2, hg, _⟩ := hG
  have hfb := hok.tk.full_bd
  have hn12 := hok.n12
  have hst := Sn.inB_iff.1 hok.start
  have hnv : never = -1099511627776 := rfl
  obtain ⟨F, hFu⟩ : ∃ F : Nat, l.tk.full = (F : Int) := Int.eq_ofNat_of_zero_le hfb.1
  have hF6 : F ≤ 600 := by omega
  have hFt : l.tk.full.toNat = F := by omega
  rw [hFu] at hg
  unfold Lg.lostI
  rw [hFt]
  have hF := wide_wide
  refine Ct_start (args := [_, _]) Tryz.func52 (by rfl) Tryz.ntmps52 (by rfl) ?_
  refine W_seq ?_
  refine W_region_lit (fun ds => ?_)
  refine WS_new hF (by rfl) (y_box (by rfl)) (fun b1 => ?_)
  refine WS_det hF (by rfl) (y_assign (c := .int .i64 _) (by rfl)) ?_
  refine WS_nil ?_
  refine Then_normal ?_
  refine W_seq ?_
  refine W_region_lit (fun ds => ?_)
  refine WS_newS hF (by rfl) (y_buildSliceL bs22_1_0 (by rfl)) (fun b2 => ?_)
  refine WS_det hF (by rfl) (y_load1 (by rfl) Tryz.isAgg69 (Mem.own1 1 (by rfl) (by rfl))) ?_
  refine WS_det hF (by rfl) (by first | exact y_nilCheck (by rfl) | exact y_nilCheckF (by rfl)) ?_
  refine WS_det hF (by rfl) (y_fieldAddr (by rfl) fa79_0) ?_
  refine WS_det hF (by rfl) (y_load1 (by rfl) Tryz.isAgg76 (by first | exact Mem.old1 (by assumption) | exact Mem.oldAt1 (by assumption) (by rfl) | exact Mem.old (by assumption) | exact Mem.oldAtL1 (by assumption) (by rfl) (by rfl))) ?_
  refine WS_det hF (by rfl) (by first | exact y_nilCheck (by rfl) | exact y_nilCheckF (by rfl)) ?_
  refine WS_det hF (by rfl) (y_fieldAddr (by rfl) fa91_0) ?_
  refine WS_det hF (by rfl) (y_load1 (by rfl) Tryz.isAgg84 (by first | exact Mem.old1 (by assumption) | exact Mem.oldAt1 (by assumption) (by rfl) | exact Mem.old (by assumption) | exact Mem.oldAtL1 (by assumption) (by rfl) (by rfl))) ?_
  refine WS_det hF (by rfl) (by first | exact y_nilCheck (by rfl) | exact y_nilCheckF (by rfl)) ?_
  refine WS_det hF (by rfl) (y_fieldAddr (by rfl) fa95_1) ?_
  refine WS_det hF (by rfl) (y_load1 (by rfl) Tryz.isAgg3 (by first | exact Mem.old1 (by assumption) | exact Mem.oldAt1 (by assumption) (by rfl) | exact Mem.old (by assumption) | exact Mem.oldAtL1 (by assumption) (by rfl) (by rfl))) ?_
  refine WS_det hF (by rfl) (y_add (by rfl) (by rfl) (by unfold I64; omega)) ?_
  refine WS_gen hF (by rfl) (y_callL (by rfl) (by rfl) Tryz.call82 (fun w hw => repeat_any b2 1 never (F + 1) w (by omega) (by omega) (Mem.own (us := [.int _ _]) 0 (by rfl) (by rfl) w hw))) ?_
  rintro _ _ ⟨ob, rfl, rfl⟩
  refine WS_new hF (by rfl) (y_alloc Tryz.zeroValue22 (by rfl)) (fun pb => ?_)
  refine WS_store hF (i := 0) (by rfl) (by rfl) Tryz.sizeOf22 (by rfl) (by rfl) (by rfl) (by first | decide | exact Nat.le_of_ble_eq_true rfl | simp) ?_
  refine WS_nil ?_
  refine Then_normal ?_
  refine W_seq ?_
  refine W_seq ?_
  refine W_region_lit (fun ds => ?_)
  refine WS_det hF (by rfl) (y_load1 (by rfl) Tryz.isAgg69 (Mem.own1 3 (by rfl) (by rfl))) ?_
  refine WS_det hF (by rfl) (by first | exact y_nilCheck (by rfl) | exact y_nilCheckF (by rfl)) ?_
  refine WS_det hF (by rfl) (y_fieldAddr (by rfl) fa79_0) ?_
  refine WS_det hF (by rfl) (y_load1 (by rfl) Tryz.isAgg76 (by first | exact Mem.old1 (by assumption) | exact Mem.oldAt1 (by assumption) (by rfl) | exact Mem.old (by assumption) | exact Mem.oldAtL1 (by assumption) (by rfl) (by rfl))) ?_
  refine WS_det hF (by rfl) (by first | exact y_nilCheck (by rfl) | exact y_nilCheckF (by rfl)) ?_
  refine WS_det hF (by rfl) (y_fieldAddr (by rfl) fa91_1) ?_
  refine WS_det hF (by rfl) (y_fieldAddr (by rfl) fa29_1) ?_
  refine WS_det hF (by rfl) (y_fieldAddr (by rfl) fa26_0) ?_
  refine WS_det hF (by rfl) (y_load1 (by rfl) Tryz.isAgg3 (by first | exact Mem.old1 (by assumption) | exact Mem.oldAt1 (by assumption) (by rfl) | exact Mem.old (by assumption) | exact Mem.oldAtL1 (by assumption) (by rfl) (by rfl))) ?_
  refine WS_det hF (by rfl) (y_assign (c := .int .i64 _) (by rfl)) ?_
  refine WS_nil ?_
  refine Then_normal ?_
  refine W_block ?_
  refine W_loop (γ := Nat) (fun c => c ≤ (l.start.hi - l.start.lo + 1).toNat) (fun c => [(1, .int .i64 sign), (2, .pointer (some ⟨b1, 0, none⟩)), (5, .pointer (some ⟨pb, 0, none⟩)), (6, .int .i64 (l.start.lo + (c : Int)))]) (fun c => [(pb, CB [.slice (some ⟨ob, 0, none⟩) (F + 1) (F + 1)] 22), (ob, CB (iRow (stF l.start.lo c) (F + 1)) 3), (b1, CB [.pointer (some ⟨kb, 0, none⟩)] 69)]) (fun c => (l.start.hi - l.start.lo + 1).toNat - c) (0) (Nat.zero_le _) ((by repeat (first | exact trivial | refine ⟨by rfl, ?_⟩ | refine ⟨congrArg (Value.int _) (by first | omega | (simp only; omega) | (push_cast; omega)), ?_⟩))) ((by rw [show iRow (stF l.start.lo 0) (F + 1) = iRow (fun _ => never) (F + 1) from rowOf_congr _ fun j hj => by unfold stF; rw [if_neg (by omega)]]; repeat (first | exact List.Sublist.refl _ | exact List.nil_sublist _ | apply List.Sublist.cons_cons | apply List.Sublist.cons))) ?_
  intro c e hc
  refine W_seq ?_
  refine W_seq ?_
  refine W_region_lit (fun ds => ?_)
  refine WS_det hF (by rfl) (y_move (c := .int .i64 _) (by rfl)) ?_
  refine WS_det hF (by rfl) (y_load1 (by rfl) Tryz.isAgg69 (Mem.own1 2 (by rfl) (by rfl))) ?_
  refine WS_det hF (by rfl) (by first | exact y_nilCheck (by rfl) | exact y_nilCheckF (by rfl)) ?_
  refine WS_det hF (by rfl) (y_fieldAddr (by rfl) fa79_0) ?_
  refine WS_det hF (by rfl) (y_load1 (by rfl) Tryz.isAgg76 (by first | exact Mem.old1 (by assumption) | exact Mem.oldAt1 (by assumption) (by rfl) | exact Mem.old (by assumption) | exact Mem.oldAtL1 (by assumption) (by rfl) (by rfl))) ?_
  refine WS_det hF (by rfl) (by first | exact y_nilCheck (by rfl) | exact y_nilCheckF (by rfl)) ?_
  refine WS_det hF (by rfl) (y_fieldAddr (by rfl) fa91_1) ?_
  refine WS_det hF (by rfl) (y_fieldAddr (by rfl) fa29_1) ?_
  refine WS_det hF (by rfl) (y_fieldAddr (by rfl) fa26_1) ?_
  refine WS_det hF (by rfl) (y_load1 (by rfl) Tryz.isAgg3 (by first | exact Mem.old1 (by assumption) | exact Mem.oldAt1 (by assumption) (by rfl) | exact Mem.old (by assumption) | exact Mem.oldAtL1 (by assumption) (by rfl) (by rfl))) ?_
  refine WS_det hF (by rfl) (y_leq (by rfl) (by rfl)) ?_
  refine WS_nil ?_
  refine Then_normal ?_
  refine W_cond (by rfl) (fun c3 => ?_) (fun c3 => ?_)
  ·
    try simp only [Bool.not_eq_true', Bool.not_eq_false', decide_eq_true_eq, decide_eq_false_iff_not, ne_eq, Classical.not_not, Int.not_lt, Int.not_le] at c3
    obtain ⟨v, hv⟩ : ∃ v : Nat, l.start.lo + (c : Int) = (v : Int) := Int.eq_ofNat_of_zero_le (by omega)
    have hst2 : splice (iRow (stF l.start.lo c) (F + 1)) (0 + v * 1) [.int .i64 0] = iRow (stF l.start.lo (c + 1)) (F + 1) := by
      rw [Nat.zero_add]
      refine rowOf_splice (enc := iEnc) (sz := 1) ii_len (by omega) ?_ fun j hj hne => ?_
      · unfold stF iEnc; rw [if_pos (by omega)]
      · unfold stF
        by_cases h1 : l.start.lo ≤ (j : Int) ∧ (j : Int) < l.start.lo + (c : Int)
        · rw [if_pos h1, if_pos (by omega)]
        · rw [if_neg h1, if_neg (by omega)]
    refine W_skip ?_
    refine Then_normal ?_
    refine W_seq ?_
    refine W_block ?_
    refine W_region_lit (fun ds => ?_)
    refine WS_det hF (by rfl) (y_load1 (by rfl) Tryz.isAgg22 (Mem.own1 0 (by rfl) (by rfl))) ?_
    refine WS_det hF (by rfl) (y_move (c := .int .i64 _) (by rfl)) ?_
    refine WS_det hF (by rfl) (y_index (k := v) (by rfl) (by rfl) (by first | rfl | omega) (by first | decide | omega) Tryz.runUnderlying22 Tryz.sizeOf3) ?_
    refine WS_store hF (i := 1) (by rfl) (by rfl) Tryz.sizeOf3 (by rfl) (by rfl) (by rfl) (by show 0 + v * 1 + 1 ≤ (iRow (stF l.start.lo c) (F + 1)).length; rw [rowOf_len ii_len]; omega) ?_
    refine WS_nil ?_
    refine InB_normal ?_
    refine Then_normal ?_
    refine W_region_lit (fun ds => ?_)
    refine WS_det hF (by rfl) (y_move (c := .int .i64 _) (by rfl)) ?_
    refine WS_det hF (by rfl) (y_add (by rfl) (by rfl) (by unfold I64; omega)) ?_
    refine WS_det hF (by rfl) (y_assign (c := .int .i64 _) (by rfl)) ?_
    refine WS_nil ?_
    exact Loop_next (c + 1) (by omega) (by repeat (first | exact trivial | refine ⟨by rfl, ?_⟩ | refine ⟨congrArg (Value.int _) (by first | omega | (simp only; omega) | (push_cast; omega)), ?_⟩)) (by rw [← hst2]; exact List.Sublist.refl _) (by omega)
  ·
    try simp only [Bool.not_eq_true', Bool.not_eq_false', decide_eq_true_eq, decide_eq_false_iff_not, ne_eq, Classical.not_not, Int.not_lt, Int.not_le] at c3
    refine W_exit ?_
    refine Then_exit ?_
    refine Loop_exit ?_
    refine InB_same ?_
    refine Then_normal ?_
    refine W_seq ?_
    have hc2 : iRow (stF l.start.lo c) (F + 1) = iRow (l.bestK F sign 0) (F + 1) := rowOf_congr _ fun j hj => by
      show stF _ _ _ = l.best0 j
      unfold stF Lg.best0
      by_cases h1 : l.start.lo ≤ (j : Int) ∧ (j : Int) ≤ l.start.hi
      · rw [if_pos h1, if_pos (by omega)]
      · rw [if_neg h1, if_neg (by omega)]
    refine W_region_lit (fun ds => ?_)
    refine WS_det hF (by rfl) (y_makeFuncL (by rfl) (by rfl)) ?_
    refine WS_det hF (by rfl) (y_assign (c := _) (by rfl)) ?_
    refine WS_nil ?_
    refine Then_normal ?_
    refine W_seq ?_
    refine W_seq ?_
    refine W_region_lit (fun ds => ?_)
    refine WS_det hF (by rfl) (y_load1 (by rfl) Tryz.isAgg69 (Mem.own1 2 (by rfl) (by rfl))) ?_
    refine WS_det hF (by rfl) (by first | exact y_nilCheck (by rfl) | exact y_nilCheckF (by rfl)) ?_
    refine WS_det hF (by rfl) (y_fieldAddr (by rfl) fa79_0) ?_
    refine WS_det hF (by rfl) (y_load1 (by rfl) Tryz.isAgg76 (by first | exact Mem.old1 (by assumption) | exact Mem.oldAt1 (by assumption) (by rfl) | exact Mem.old (by assumption) | exact Mem.oldAtL1 (by assumption) (by rfl) (by rfl))) ?_
    refine WS_det hF (by rfl) (by first | exact y_nilCheck (by rfl) | exact y_nilCheckF (by rfl)) ?_
    refine WS_det hF (by rfl) (y_fieldAddr (by rfl) fa91_1) ?_
    refine WS_det hF (by rfl) (y_fieldAddr (by rfl) fa29_2) ?_
    refine WS_det hF (by rfl) (y_load1 (by rfl) Tryz.isAgg27 (by first | exact Mem.old1 (by assumption) | exact Mem.oldAt1 (by assumption) (by rfl) | exact Mem.old (by assumption) | exact Mem.oldAtL1 (by assumption) (by rfl) (by rfl))) ?_
    refine WS_det hF (by rfl) (y_len (by rfl) Tryz.runUnderlying27) ?_
    refine WS_det hF (by rfl) (y_move (c := .int .i64 _) (by rfl)) ?_
    refine WS_nil ?_
    refine Then_normal ?_
    refine W_block ?_
    refine W_loop (γ := Nat × Nat) (fun p => p.1 ≤ l.es.length) (fun p => [(1, .int .i64 sign), (2, .pointer (some ⟨b1, 0, none⟩)), (5, .pointer (some ⟨pb, 0, none⟩)), (7, .func (.func 83) #[] #[.pointer (some ⟨b1, 0, none⟩), .pointer (some ⟨pb, 0, none⟩)]), (58, .slice ae l.es.length cape), (59, .int .i64 (l.es.length : Int)), (60, .int .i64 (p.1 : Int))]) (fun p => [(pb, CB [.slice (some ⟨p.2, 0, none⟩) (F + 1) (F + 1)] 22), (p.2, CB (iRow (l.bestK F sign p.1) (F + 1)) 3), (b1, CB [.pointer (some ⟨kb, 0, none⟩)] 69)]) (fun p => l.es.length - p.1) ((0, ob)) (Nat.zero_le _) (by repeat (first | exact trivial | refine ⟨by rfl, ?_⟩)) ((by rw [← hc2]; exact List.Sublist.refl _)) ?_
    rintro ⟨k, oc⟩ e hk
    refine W_seq ?_
    refine W_region_lit (fun ds => ?_)
    refine WS_det hF (by rfl) (y_lss (by rfl) (by rfl)) ?_
    refine WS_nil ?_
    refine Then_normal ?_
    refine W_seq ?_
    refine W_cond (by rfl) (fun c8 => ?_) (fun c8 => ?_)
    ·
      try simp only [Bool.not_eq_true', Bool.not_eq_false', decide_eq_true_eq, decide_eq_false_iff_not, ne_eq, Classical.not_not, Int.not_lt, Int.not_le] at c8
      have hkn : k < l.es.length := by omega
      obtain ⟨b, o, rfl, hce⟩ := he.cell k hkn
      change At w b _ (l.e k).cells at hce
      have hdr := hok.drip_bd hkn
      have hkd := hok.kind k hkn
      have hsz := hok.sm hkn
      have hsz2 := hsz
      unfold Sn.Sm at hsz2
      have hsmd : (⟨-l.drip k, 0⟩ : Sn).Sm := by unfold Sn.Sm; simp only; omega
      have hb0 := l.best_bd (F := F) hF6 hsg k
      have hb1 : ∀ j, j ≤ F → never ≤ mv F (-l.drip k) 0 sign (l.bestK F sign k) j ∧ mv F (-l.drip k) 0 sign (l.bestK F sign k) j ≤ 600 * (k : Int) + 600 := fun j hj => mv_bd hF6 hsg (by omega) hb0 j hj
      refine W_skip ?_
      refine Then_normal ?_
      refine W_seq ?_
      refine W_block ?_
      refine W_seq ?_
      refine W_region_lit (fun ds => ?_)
      refine WS_det hF (by rfl) (y_move (c := .int .i64 _) (by rfl)) ?_
      refine WS_det hF (by rfl) (y_index (k := k) (by rfl) (by rfl) (by first | rfl | omega) (by first | decide | omega) Tryz.runUnderlying27 Tryz.sizeOf38) ?_
      refine WS_det hF (by rfl) (y_loadN (by rfl) Tryz.isAgg38 Tryz.sizeOf38 (by first | exact Mem.old (by assumption) | exact Mem.oldAt (us := [.int .i64 _, .int .i64 _, .int .i64 _, .int .i64 _]) (by assumption) (by rfl) | exact Mem.oldAtL (us := [.int .i64 _, .int .i64 _, .int .i64 _, .int .i64 _]) (by assumption) (by rfl) (by rfl)) (by rfl)) ?_
      refine WS_new hF (by rfl) (y_alloc Tryz.zeroValue38 (by rfl)) (fun be => ?_)
      refine WS_det hF (by rfl) (y_assign (c := .int .i64 _) (by rfl)) ?_
      refine WS_store hF (i := 0) (by rfl) (by rfl) Tryz.sizeOf38 (by rfl) (by rfl) (by rfl) (by first | decide | exact Nat.le_of_ble_eq_true rfl | simp) ?_
      refine WS_nil ?_
      refine Then_normal ?_
      refine W_seq ?_
      refine W_region_lit (fun ds => ?_)
      refine WS_det hF (by rfl) (y_move (c := _) (by rfl)) ?_
      refine WS_det hF (by rfl) (y_load1 (by rfl) Tryz.isAgg69 (Mem.own1 3 (by rfl) (by rfl))) ?_
      refine WS_det hF (by rfl) (by first | exact y_nilCheck (by rfl) | exact y_nilCheckF (by rfl)) ?_
      refine WS_det hF (by rfl) (y_fieldAddr (by rfl) fa79_0) ?_
      refine WS_det hF (by rfl) (y_load1 (by rfl) Tryz.isAgg76 (by first | exact Mem.old1 (by assumption) | exact Mem.oldAt1 (by assumption) (by rfl) | exact Mem.old (by assumption) | exact Mem.oldAtL1 (by assumption) (by rfl) (by rfl))) ?_
      refine WS_det hF (by rfl) (y_move (c := .int .i64 _) (by rfl)) ?_
      refine WS_det hF (by rfl) (y_callL (by rfl) (by rfl) Tryz.call49 (fun w hw => drip_any bk l k w (hB.st w hw) hkn)) ?_
      refine WS_det hF (by rfl) (y_neg (by rfl) (by unfold I64; omega)) ?_
      refine WS_det hF (by rfl) (y_buildL bd26_0 (by rfl)) ?_
      refine WS_det hF (by rfl) (y_move (c := .int .i64 _) (by rfl)) ?_
      refine WS_sub ((SubP.hsub (SubP.pick 1 (by rfl) (SubP.pick 1 (by rfl) (SubP.pick 1 (by rfl) (SubP.pick 0 (by rfl) (SubP.nil))))))) ?_
      refine WS_callS hF (by rfl) (by rfl) (by rfl) Tryz.call83 (moves_cs _ _ _ b1 pb oc kb F l ⟨-l.drip k, 0⟩ sign (600 * (k : Int)) (l.bestK F sign k) _ hK0 hFu hsg hsmd hb0 (by omega) (by omega)) ?_
      rintro v0 _ ⟨od, rfl⟩
      refine WS_nil ?_
      refine Then_normal ?_
      refine W_seq ?_
      refine W_region_lit (fun ds => ?_)
      refine WS_det hF (by rfl) (y_fieldAddr (by rfl) fa38_1) ?_
      refine WS_det hF (by rfl) (y_load1 (by rfl) Tryz.isAgg3 (Mem.own1 3 (by rfl) (by rfl))) ?_
      refine WS_nil ?_
      refine Then_normal ?_
      refine W_block ?_
      refine W_seq ?_
      refine W_region_lit (fun ds => ?_)
      refine WS_det hF (by rfl) (y_eql (by rfl) (by rfl)) ?_
      refine WS_det hF (by rfl) (y_assign (c := .bool _) (by rfl)) ?_
      refine WS_nil ?_
      refine Then_normal ?_
      refine W_cond (by rfl) (fun c19 => ?_) (fun c19 => ?_)
      ·
        try simp only [Bool.not_eq_true', Bool.not_eq_false', decide_eq_true_eq, decide_eq_false_iff_not, ne_eq, Classical.not_not, Int.not_lt, Int.not_le] at c19
        refine W_region_lit (fun ds => ?_)
        refine WS_det hF (by rfl) (y_move (c := _) (by rfl)) ?_
        refine WS_det hF (by rfl) (y_fieldAddr (by rfl) fa38_2) ?_
        refine WS_det hF (by rfl) (y_loadN (by rfl) Tryz.isAgg26 Tryz.sizeOf26 (Mem.own (us := [.int .i64 _, .int .i64 _]) 3 (by rfl) (by rfl)) (by rfl)) ?_
        refine WS_callS hF (by rfl) (by rfl) (by rfl) Tryz.call83 (moves_cs _ _ _ b1 pb od kb F l (l.e k).size 0 (600 * (k : Int) + 600) (mv F (-l.drip k) 0 sign (l.bestK F sign k)) _ hK0 hFu (.inr (.inl rfl)) hsz hb1 (by omega) (by omega)) ?_
        rintro v1 _ ⟨oz, rfl⟩
        have hnx : mv F (l.e k).size.lo (l.e k).size.hi 0 (mv F (-l.drip k) 0 sign (l.bestK F sign k)) = l.bestK F sign (k + 1) := by
          show _ = l.bstep F sign k (l.bestK F sign k)
          unfold Lg.bstep
          rw [if_pos (by omega)]
        refine WS_nil ?_
        refine InB_normal ?_
        refine InB_normal ?_
        refine Then_normal ?_
        refine W_region_lit (fun ds => ?_)
        refine WS_det hF (by rfl) (y_add (by rfl) (by rfl) (by unfold I64; omega)) ?_
        refine WS_det hF (by rfl) (y_move (c := .int .i64 _) (by rfl)) ?_
        refine WS_nil ?_
        exact Loop_next (k + 1, oz) (by omega) (by repeat (first | exact trivial | refine ⟨by rfl, ?_⟩)) (by rw [← hnx]; exact (by repeat (first | exact List.Sublist.refl _ | exact List.nil_sublist _ | apply List.Sublist.cons_cons | apply List.Sublist.cons))) (by simp only; omega)
      ·
        try simp only [Bool.not_eq_true', Bool.not_eq_false', decide_eq_true_eq, decide_eq_false_iff_not, ne_eq, Classical.not_not, Int.not_lt, Int.not_le] at c19
        refine W_seq ?_
        refine W_region_lit (fun ds => ?_)
        refine WS_det hF (by rfl) (y_eql (by rfl) (by rfl)) ?_
        refine WS_det hF (by rfl) (y_assign (c := .bool _) (by rfl)) ?_
        refine WS_nil ?_
        refine Then_normal ?_
        refine W_cond (by rfl) (fun c21 => ?_) (fun c21 => ?_)
        ·
          try simp only [Bool.not_eq_true', Bool.not_eq_false', decide_eq_true_eq, decide_eq_false_iff_not, ne_eq, Classical.not_not, Int.not_lt, Int.not_le] at c21
          refine W_region_lit (fun ds => ?_)
          refine WS_det hF (by rfl) (y_move (c := _) (by rfl)) ?_
          refine WS_det hF (by rfl) (y_fieldAddr (by rfl) fa38_2) ?_
          refine WS_det hF (by rfl) (y_fieldAddr (by rfl) fa26_1) ?_
          refine WS_det hF (by rfl) (y_load1 (by rfl) Tryz.isAgg3 (Mem.own1 3 (by rfl) (by rfl))) ?_
          refine WS_det hF (by rfl) (y_neg (by rfl) (by unfold I64; omega)) ?_
          refine WS_det hF (by rfl) (y_fieldAddr (by rfl) fa38_2) ?_
          refine WS_det hF (by rfl) (y_fieldAddr (by rfl) fa26_0) ?_
          refine WS_det hF (by rfl) (y_load1 (by rfl) Tryz.isAgg3 (Mem.own1 3 (by rfl) (by rfl))) ?_
          refine WS_det hF (by rfl) (y_neg (by rfl) (by unfold I64; omega)) ?_
          refine WS_det hF (by rfl) (y_buildL bd26_0_1 (by rfl)) ?_
          refine WS_callS hF (by rfl) (by rfl) (by rfl) Tryz.call83 (moves_cs _ _ _ b1 pb od kb F l ⟨-(l.e k).size.hi, -(l.e k).size.lo⟩ 0 (600 * (k : Int) + 600) (mv F (-l.drip k) 0 sign (l.bestK F sign k)) _ hK0 hFu (.inr (.inl rfl)) (by unfold Sn.Sm at hsz ⊢; simp only; omega) hb1 (by omega) (by omega)) ?_
          rintro v1 _ ⟨oz, rfl⟩
          have hnx : mv F (-(l.e k).size.hi) (-(l.e k).size.lo) 0 (mv F (-l.drip k) 0 sign (l.bestK F sign k)) = l.bestK F sign (k + 1) := by
            show _ = l.bstep F sign k (l.bestK F sign k)
            unfold Lg.bstep
            rw [if_neg (by omega), if_pos (by omega)]
          refine WS_nil ?_
          refine InB_normal ?_
          refine InB_normal ?_
          refine Then_normal ?_
          refine W_region_lit (fun ds => ?_)
          refine WS_det hF (by rfl) (y_add (by rfl) (by rfl) (by unfold I64; omega)) ?_
          refine WS_det hF (by rfl) (y_move (c := .int .i64 _) (by rfl)) ?_
          refine WS_nil ?_
          exact Loop_next (k + 1, oz) (by omega) (by repeat (first | exact trivial | refine ⟨by rfl, ?_⟩)) (by rw [← hnx]; exact (by repeat (first | exact List.Sublist.refl _ | exact List.nil_sublist _ | apply List.Sublist.cons_cons | apply List.Sublist.cons))) (by simp only; omega)
        ·
          try simp only [Bool.not_eq_true', Bool.not_eq_false', decide_eq_true_eq, decide_eq_false_iff_not, ne_eq, Classical.not_not, Int.not_lt, Int.not_le] at c21
          refine W_seq ?_
          have hk3 : (l.e k).kind = 3 := by omega
          have hq2 := Sn.inB_iff.1 (hok.size k hkn)
          unfold Tk.most at hq2
          rw [if_pos hk3] at hq2
          refine W_draw0 hF Tryzmixed [10] (by decide +kernel) (fun ds => ?_)
          refine P_det (by rfl) (Over_nil (y_load1 (by rfl) Tryz.isAgg69 (Mem.own1 2 (by rfl) (by rfl)))) ?_
          refine P_det (by rfl) (Over_nil (by first | exact y_nilCheck (by rfl) | exact y_nilCheckF (by rfl))) ?_
          refine P_det (by rfl) (Over_nil (y_fieldAddr (by rfl) fa79_0)) ?_
          refine P_det (by rfl) (Over_nil (y_load1 (by rfl) Tryz.isAgg76 (by first | exact Mem.old1 (by assumption) | exact Mem.oldAt1 (by assumption) (by rfl) | exact Mem.old (by assumption) | exact Mem.oldAtL1 (by assumption) (by rfl) (by rfl)))) ?_
          refine P_det (by rfl) (Over_nil (by first | exact y_nilCheck (by rfl) | exact y_nilCheckF (by rfl))) ?_
          refine P_det (by rfl) (Over_nil (y_fieldAddr (by rfl) fa91_0)) ?_
          refine P_det (by rfl) (Over_nil (y_load1 (by rfl) Tryz.isAgg84 (by first | exact Mem.old1 (by assumption) | exact Mem.oldAt1 (by assumption) (by rfl) | exact Mem.old (by assumption) | exact Mem.oldAtL1 (by assumption) (by rfl) (by rfl)))) ?_
          refine P_det (by rfl) (Over_nil (y_fieldAddr (by rfl) fa38_2)) ?_
          refine P_det (by rfl) (Over_nil (y_loadN (by rfl) Tryz.isAgg26 Tryz.sizeOf26 (Mem.own (us := [.int .i64 _, .int .i64 _]) 3 (by rfl) (by rfl)) (by rfl))) ?_
          refine P_det (by rfl) (Over_nil (y_callL (by rfl) (by rfl) Tryz.call66 (fun w hw => dip_any g 0 l.tk (l.e k).size.lo (l.e k).size.hi w (hG.st w hw) hq2.1 (by omega) (by omega) hq2.2.2))) ?_
          apply P_newS _ (by rfl) (by rfl) (by rfl) (Over_nil (y_alloc Tryz.zeroValue26 (by rfl)))
          refine P_st 10 0 (by rfl) (by rfl) (by rfl) (by rfl) (by rfl) (Over_nil (st_new (fun _ => by rfl) Tryz.sizeOf26 (by rfl) (by rfl) (by first | decide | exact Nat.le_of_ble_eq_true rfl | simp))) ?_
          refine PW_end (by rfl) ?_
          refine OverAll_cons (fun w10 l10 => ?_)
          refine OverAll_nil ?_
          rintro ⟨-, h10⟩
          obtain ⟨bd, rfl, rfl⟩ := h10
          refine Then_normal ?_
          refine W_seq ?_
          refine W_region_lit (fun ds => ?_)
          refine WS_det hF (by rfl) (y_load1 (by rfl) Tryz.isAgg22 (Mem.own1 1 (by rfl) (by rfl))) ?_
          refine WS_det hF (by rfl) (y_len (by rfl) Tryz.runUnderlying22) ?_
          refine WS_det hF (by rfl) (y_move (c := .int .i64 _) (by rfl)) ?_
          refine WS_nil ?_
          refine Then_normal ?_
          refine W_block ?_
          refine W_loop (γ := Nat) (fun j => j ≤ F + 1) (fun j => [(1, .int .i64 sign), (2, .pointer (some ⟨b1, 0, none⟩)), (5, .pointer (some ⟨pb, 0, none⟩)), (7, .func (.func 83) #[] #[.pointer (some ⟨b1, 0, none⟩), .pointer (some ⟨pb, 0, none⟩)]), (10, .pointer (some ⟨bd, 0, none⟩)), (58, .slice (some ⟨b, o, none⟩) l.es.length cape), (59, .int .i64 (l.es.length : Int)), (60, .int .i64 (k : Int)), (89, .int .i64 ((F + 1 : Nat) : Int)), (90, .int .i64 (j : Int))]) (fun j => [(bd, CB (l.tk.dip (l.e k).size).cells 26), (pb, CB [.slice (some ⟨od, 0, none⟩) (F + 1) (F + 1)] 22), (od, CB (iRow (dpF (l.tk.dip (l.e k).size) (mv F (-l.drip k) 0 sign (l.bestK F sign k)) j) (F + 1)) 3), (b1, CB [.pointer (some ⟨kb, 0, none⟩)] 69)]) (fun j => F + 1 - j) (0) (Nat.zero_le _) (by repeat (first | exact trivial | refine ⟨by rfl, ?_⟩)) ((by rw [show iRow (dpF (l.tk.dip (l.e k).size) (mv F (-l.drip k) 0 sign (l.bestK F sign k)) 0) (F + 1) = iRow (mv F (-l.drip k) 0 sign (l.bestK F sign k)) (F + 1) from rowOf_congr _ fun j hj => if_neg (by omega)]; exact (by repeat (first | exact List.Sublist.refl _ | exact List.nil_sublist _ | apply List.Sublist.cons_cons | apply List.Sublist.cons)))) ?_
          intro j e hj
          refine W_seq ?_
          refine W_region_lit (fun ds => ?_)
          refine WS_det hF (by rfl) (y_lss (by rfl) (by rfl)) ?_
          refine WS_nil ?_
          refine Then_normal ?_
          refine W_seq ?_
          refine W_cond (by rfl) (fun c14 => ?_) (fun c14 => ?_)
          ·
            try simp only [Bool.not_eq_true', Bool.not_eq_false', decide_eq_true_eq, decide_eq_false_iff_not, ne_eq, Classical.not_not, Int.not_lt, Int.not_le] at c14
            refine W_skip ?_
            refine Then_normal ?_
            refine W_seq ?_
            refine W_block ?_
            refine W_seq ?_
            refine W_region_lit (fun ds => ?_)
            refine WS_det hF (by rfl) (y_move (c := .int .i64 _) (by rfl)) ?_
            refine WS_det hF (by rfl) (y_assign (c := .int .i64 _) (by rfl)) ?_
            refine WS_nil ?_
            refine Then_normal ?_
            refine W_seq ?_
            refine W_region_lit (fun ds => ?_)
            refine WS_det hF (by rfl) (y_fieldAddr (by rfl) fa26_0) ?_
            refine WS_det hF (by rfl) (y_load1 (by rfl) Tryz.isAgg3 (Mem.own1 0 (by rfl) (by rfl))) ?_
            refine WS_det hF (by rfl) (y_fieldAddr (by rfl) fa26_1) ?_
            refine WS_det hF (by rfl) (y_load1 (by rfl) Tryz.isAgg3 (Mem.own1 0 (by rfl) (by rfl))) ?_
            refine WS_det hF (by rfl) (y_move (c := .int .i64 _) (by rfl)) ?_
            refine WS_newS hF (by rfl) (y_buildSliceL bs22_1_0 (by rfl)) (fun b3 => ?_)
            refine WS_det hF (by rfl) (y_callL (by rfl) (by rfl) Tryz.call43 (fun w hw => in_any _ _ _ _ _ _ w (by decide) (by first | exact Ints.one 0 rfl w hw | exact Ints.two 0 rfl w hw))) ?_
            refine WS_det hF (by rfl) (y_not (by rfl)) ?_
            refine WS_nil ?_
            refine Then_normal ?_
            refine W_cond (by rfl) (fun c16 => ?_) (fun c16 => ?_)
            ·
              try simp only [Bool.not_eq_true', Bool.not_eq_false', decide_eq_true_eq, decide_eq_false_iff_not, ne_eq, Classical.not_not, Int.not_lt, Int.not_le] at c16
              have hdx1 : splice (iRow (dpF (l.tk.dip (l.e k).size) (mv F (-l.drip k) 0 sign (l.bestK F sign k)) j) (F + 1)) (0 + j * 1) [.int .i64 never] = iRow (dpF (l.tk.dip (l.e k).size) (mv F (-l.drip k) 0 sign (l.bestK F sign k)) (j + 1)) (F + 1) := by
                rw [Nat.zero_add]
                refine rowOf_splice (enc := iEnc) (sz := 1) ii_len (by omega) ?_ fun i hi hne => ?_
                · unfold dpF dipF iEnc; rw [if_pos (by omega), if_neg (by rw [show inB (l.tk.dip (l.e k).size).lo (l.tk.dip (l.e k).size).hi [(j : Int)] = false from c16]; exact Bool.false_ne_true)]
                · unfold dpF
                  by_cases h1 : i < j
                  · rw [if_pos h1, if_pos (by omega)]
                  · rw [if_neg h1, if_neg (by omega)]
              refine W_region_lit (fun ds => ?_)
              refine WS_det hF (by rfl) (y_load1 (by rfl) Tryz.isAgg22 (Mem.own1 2 (by rfl) (by rfl))) ?_
              refine WS_det hF (by rfl) (y_move (c := .int .i64 _) (by rfl)) ?_
              refine WS_det hF (by rfl) (y_index (k := j) (by rfl) (by rfl) (by first | rfl | omega) (by first | decide | omega) Tryz.runUnderlying22 Tryz.sizeOf3) ?_
              refine WS_store hF (i := 3) (by rfl) (by rfl) Tryz.sizeOf3 (by rfl) (by rfl) (by rfl) (by show 0 + j * 1 + 1 ≤ (iRow (dpF (l.tk.dip (l.e k).size) (mv F (-l.drip k) 0 sign (l.bestK F sign k)) j) (F + 1)).length; rw [rowOf_len ii_len]; omega) ?_
              refine WS_nil ?_
              refine InB_normal ?_
              refine Then_normal ?_
              refine W_region_lit (fun ds => ?_)
              refine WS_det hF (by rfl) (y_add (by rfl) (by rfl) (by unfold I64; omega)) ?_
              refine WS_det hF (by rfl) (y_move (c := .int .i64 _) (by rfl)) ?_
              refine WS_nil ?_
              exact Loop_next (j + 1) (by omega) (by repeat (first | exact trivial | refine ⟨by rfl, ?_⟩)) (by rw [← hdx1]; exact (by repeat (first | exact List.Sublist.refl _ | exact List.nil_sublist _ | apply List.Sublist.cons_cons | apply List.Sublist.cons))) (by omega)
            ·
              try simp only [Bool.not_eq_true', Bool.not_eq_false', decide_eq_true_eq, decide_eq_false_iff_not, ne_eq, Classical.not_not, Int.not_lt, Int.not_le] at c16
              have hdx2 : iRow (dpF (l.tk.dip (l.e k).size) (mv F (-l.drip k) 0 sign (l.bestK F sign k)) j) (F + 1) = iRow (dpF (l.tk.dip (l.e k).size) (mv F (-l.drip k) 0 sign (l.bestK F sign k)) (j + 1)) (F + 1) := rowOf_congr _ fun i hi => by
                unfold dpF
                by_cases h1 : i < j
                · rw [if_pos h1, if_pos (by omega)]
                · rw [if_neg h1]
                  by_cases h2 : i = j
                  · subst h2; rw [if_pos (by omega)]; unfold dipF; rw [if_pos c16]
                  · rw [if_neg (by omega)]
              refine W_skip ?_
              refine InB_normal ?_
              refine Then_normal ?_
              refine W_region_lit (fun ds => ?_)
              refine WS_det hF (by rfl) (y_add (by rfl) (by rfl) (by unfold I64; omega)) ?_
              refine WS_det hF (by rfl) (y_move (c := .int .i64 _) (by rfl)) ?_
              refine WS_nil ?_
              exact Loop_next (j + 1) (by omega) (by repeat (first | exact trivial | refine ⟨by rfl, ?_⟩)) (by rw [← hdx2]; exact (by repeat (first | exact List.Sublist.refl _ | exact List.nil_sublist _ | apply List.Sublist.cons_cons | apply List.Sublist.cons))) (by omega)
          ·
            try simp only [Bool.not_eq_true', Bool.not_eq_false', decide_eq_true_eq, decide_eq_false_iff_not, ne_eq, Classical.not_not, Int.not_lt, Int.not_le] at c14
            have hnx3 : iRow (dpF (l.tk.dip (l.e k).size) (mv F (-l.drip k) 0 sign (l.bestK F sign k)) j) (F + 1) = iRow (l.bestK F sign (k + 1)) (F + 1) := rowOf_congr _ fun i hi => by
              show _ = l.bstep F sign k (l.bestK F sign k) i
              unfold Lg.bstep dpF
              rw [if_pos (show i < j by omega), if_neg (show ¬ (l.e k).kind = 1 by omega), if_neg (show ¬ (l.e k).kind = 2 by omega)]
            refine W_exit ?_
            refine Then_exit ?_
            refine Loop_exit ?_
            refine InB_same ?_
            refine InB_normal ?_
            refine InB_normal ?_
            refine Then_normal ?_
            refine W_region_lit (fun ds => ?_)
            refine WS_det hF (by rfl) (y_add (by rfl) (by rfl) (by unfold I64; omega)) ?_
            refine WS_det hF (by rfl) (y_move (c := .int .i64 _) (by rfl)) ?_
            refine WS_nil ?_
            exact Loop_next (k + 1, od) (by omega) (by repeat (first | exact trivial | refine ⟨by rfl, ?_⟩)) (by rw [← hnx3]; exact (by repeat (first | exact List.Sublist.refl _ | exact List.nil_sublist _ | apply List.Sublist.cons_cons | apply List.Sublist.cons))) (by simp only; omega)
    ·
      try simp only [Bool.not_eq_true', Bool.not_eq_false', decide_eq_true_eq, decide_eq_false_iff_not, ne_eq, Classical.not_not, Int.not_lt, Int.not_le] at c8
      refine W_exit ?_
      refine Then_exit ?_
      refine Loop_exit ?_
      refine InB_same ?_
      refine Then_normal ?_
      refine W_seq ?_
      refine W_region_lit (fun ds => ?_)
      refine WS_det hF (by rfl) (y_load1 (by rfl) Tryz.isAgg22 (Mem.own1 0 (by rfl) (by rfl))) ?_
      refine WS_det hF (by rfl) (y_callL (by rfl) (by rfl) Tryz.call84 (fun w hw => max_any oc (F + 1) (F + 1) (l.bestK F sign k) w (by omega) (by omega) (At.block0 (by repeat (first | exact List.mem_cons_self | apply List.mem_cons_of_mem)) w hw))) ?_
      refine WS_det hF (by rfl) (y_assign (c := .int .i64 _) (by rfl)) ?_
      refine WS_nil ?_
      refine Then_normal ?_
      refine W_ret ?_
      refine Fin_ret [.int .i64 _] [] Tryz.results52 ⟨by rfl, trivial⟩ HSub.nil ?_
      obtain rfl : k = l.es.length := by have : k ≤ l.es.length := hk; omega
      rfl
def Lg.leakedV (l : Lg) : Value := if l.aerr = 0 then .tuple #[.agg (Sn.cells ⟨-l.lostI (-1), l.lostI 1⟩).toArray, .int .i64 0] else .tuple #[.agg Sn.z.cells.toArray, .int .i64 l.aerr]
theorem maxN_bd {f : Nat → Int} {m : Int} (h0 : never ≤ f 0 ∧ f 0 ≤ m) : ∀ n, (∀ j, j < n → never ≤ f j ∧ f j ≤ m) → never ≤ maxN f n ∧ maxN f n ≤ m
  | 0, _ => h0
  | n + 1, h => by
    have h1 := maxN_bd h0 n fun j hj => h j (by omega)
    have h2 := h n (by omega)
    show never ≤ max _ _ ∧ max _ _ ≤ m
    omega
theorem Lg.lost_bd (l : Lg) (hok : l.Ok) {sg : Int} (hsg : sg = -1 ∨ sg = 0 ∨ sg = 1) : never ≤ l.lostI sg ∧ l.lostI sg ≤ 7200 := by
  have hfb := hok.tk.full_bd
  have h12 := hok.n12
  unfold Lg.lostI
  have h3 : ∀ j, j < l.tk.full.toNat + 1 → never ≤ l.bestK l.tk.full.toNat sg l.es.length j ∧ l.bestK l.tk.full.toNat sg l.es.length j ≤ 7200 := fun j hj => by
    have := l.best_bd (F := l.tk.full.toNat) (by omega) hsg l.es.length j (by omega)
    omega
  exact maxN_bd (h3 0 (by omega)) _ h3
theorem leaked_any (l : Lg) (a : Option Addr) (cap : Nat) (ae : Option Addr) (cape : Nat) (w : World) (hn : l.tk.n ≤ 1000000) (hx : Ints w a l.tk.n cap l.tk.pints) (he : Ens w ae l.es.length cape l.es) : Ct Tryz.prog 21 #[.agg #[.slice a l.tk.n cap, .int .i64 l.tk.leak, .int .i64 l.tk.foot, .int .i64 l.start.lo, .int .i64 l.start.hi, .slice ae l.es.length cape]] w fun v _ => v = l.leakedV := by
  have hF := wide_wide
  refine Ct_start (args := [_]) Tryz.func21 (by rfl) Tryz.ntmps21 (by rfl) ?_
  refine W_seq ?_
  refine W_region_lit (fun ds => ?_)
  refine WS_new hF (by rfl) (y_box (by rfl)) (fun b1 => ?_)
  refine WS_new hF (by rfl) (y_alloc Tryz.zeroValue26 (by rfl)) (fun b2 => ?_)
  refine WS_det hF (by rfl) (y_assign (c := .int .i64 _) (by rfl)) ?_
  refine WS_nil ?_
  refine Then_normal ?_
  refine W_seq ?_
  refine W_region_lit (fun ds => ?_)
  refine WS_det hF (by rfl) (y_loadN (by rfl) Tryz.isAgg29 Tryz.sizeOf29 (Mem.own (us := [.slice _ _ _, .int .i64 _, .int .i64 _, .int .i64 _, .int .i64 _, .slice _ _ _]) 1 (by rfl) (by rfl)) (by rfl)) ?_
  refine WS_gen hF (by rfl) (y_callL (by rfl) (by rfl) Tryz.call42 (fun w hw => asked_any l a cap ae cape w hn (hx.st w hw) (he.st w hw))) ?_
  rintro _ Hg ⟨p, rfl, hg1, hg2⟩
  refine WS_det hF (by rfl) (y_move (c := .tuple _) (by rfl)) ?_
  refine WS_det hF (by rfl) (y_extract (c := .pointer _) (by rfl) (by rfl)) ?_
  refine WS_det hF (by rfl) (y_extract (c := .int .i64 _) (by rfl) (by rfl)) ?_
  refine WS_det hF (by rfl) (y_assign (c := .pointer _) (by rfl)) ?_
  refine WS_det hF (by rfl) (y_assign (c := .int .i64 _) (by rfl)) ?_
  refine WS_nil ?_
  refine Then_normal ?_
  refine W_seq ?_
  refine W_seq ?_
  refine W_region_lit (fun ds => ?_)
  refine WS_det hF (by rfl) (y_move (c := .int .i64 _) (by rfl)) ?_
  refine WS_det hF (by rfl) (y_neq (by rfl) (by rfl)) ?_
  refine WS_nil ?_
  refine Then_normal ?_
  refine W_cond (by rfl) (fun c2 => ?_) (fun c2 => ?_)
  ·
    try simp only [Bool.not_eq_true', Bool.not_eq_false', decide_eq_true_eq, decide_eq_false_iff_not, ne_eq, Classical.not_not, Int.not_lt, Int.not_le] at c2
    obtain rfl := hg2 c2
    refine W_seq ?_
    refine W_region_lit (fun ds => ?_)
    refine WS_det hF (by rfl) (y_buildL bd26 (by rfl)) ?_
    refine WS_det hF (by rfl) (y_move (c := .int .i64 _) (by rfl)) ?_
    refine WS_store hF (i := 0) (by rfl) (by rfl) Tryz.sizeOf26 (by rfl) (by rfl) (by rfl) (by first | decide | exact Nat.le_of_ble_eq_true rfl | simp) ?_
    refine WS_det hF (by rfl) (y_assign (c := .int .i64 _) (by rfl)) ?_
    refine WS_nil ?_
    refine Then_normal ?_
    refine W_ret ?_
    refine Then_ret ?_
    refine Fin_ret [_, .int .i64 _] [] Tryz.results21 ⟨lvN (by rfl) Tryz.isAgg26 Tryz.sizeOf26 (Mem.own (us := [.int .i64 _, .int .i64 _]) 0 (by rfl) (by rfl)) (by rfl), by rfl, trivial⟩ HSub.nil ?_
    show Value.tuple _ = _
    unfold Lg.leakedV
    rw [if_neg c2]; rfl
  ·
    try simp only [Bool.not_eq_true', Bool.not_eq_false', decide_eq_true_eq, decide_eq_false_iff_not, ne_eq, Classical.not_not, Int.not_lt, Int.not_le] at c2
    obtain ⟨kb, rfl, bk, g, fb, capf, junk, ab, bb, rfl⟩ := hg1 c2
    have hok := l.ok_of (l.aerr0 c2).1
    have hne := (l.aerr0 c2).2
    have hfull := hok.tk.full_bd
    have hlb := hok.last_bd hne
    have h12 := hok.n12
    have hnv : never = -1099511627776 := rfl
    have hb1 := l.lost_bd hok (sg := -1) (.inl rfl)
    have hb2 := l.lost_bd hok (sg := 1) (.inr (.inr rfl))
    refine W_skip ?_
    refine Then_normal ?_
    refine W_seq ?_
    refine W_region_lit (fun ds => ?_)
    refine WS_det hF (by rfl) (y_move (c := .pointer _) (by rfl)) ?_
    refine WS_det hF (by rfl) (y_callL (by rfl) (by rfl) Tryz.call52 (fun w hw => lost2_any kb l (-1) w (Kn.own (a := a) (cap := cap) (ae := ae) (cape := cape) (bk := bk) (g := g) (fb := fb) (capf := capf) (junk := junk) (ab := ab) (bb := bb) (by unfold knBlocks; repeat (first | exact List.Sublist.refl _ | exact List.nil_sublist _ | apply List.Sublist.cons_cons | apply List.Sublist.cons)) c2 hx he w hw) (.inl rfl))) ?_
    refine WS_det hF (by rfl) (y_neg (by rfl) (by unfold I64; omega)) ?_
    refine WS_det hF (by rfl) (y_move (c := .pointer _) (by rfl)) ?_
    refine WS_det hF (by rfl) (y_callL (by rfl) (by rfl) Tryz.call52 (fun w hw => lost2_any kb l 1 w (Kn.own (a := a) (cap := cap) (ae := ae) (cape := cape) (bk := bk) (g := g) (fb := fb) (capf := capf) (junk := junk) (ab := ab) (bb := bb) (by unfold knBlocks; repeat (first | exact List.Sublist.refl _ | exact List.nil_sublist _ | apply List.Sublist.cons_cons | apply List.Sublist.cons)) c2 hx he w hw) (.inr (.inr rfl)))) ?_
    refine WS_det hF (by rfl) (y_buildL bd26_0_1 (by rfl)) ?_
    refine WS_store hF (i := 6) (by rfl) (by rfl) Tryz.sizeOf26 (by rfl) (by rfl) (by rfl) (by first | decide | exact Nat.le_of_ble_eq_true rfl | simp) ?_
    refine WS_det hF (by rfl) (y_assign (c := .int .i64 _) (by rfl)) ?_
    refine WS_nil ?_
    refine Then_normal ?_
    refine W_ret ?_
    refine Fin_ret [_, .int .i64 _] [] Tryz.results21 ⟨lvN (by rfl) Tryz.isAgg26 Tryz.sizeOf26 (Mem.own (us := [.int .i64 _, .int .i64 _]) 6 (by rfl) (by rfl)) (by rfl), by rfl, trivial⟩ HSub.nil ?_
    show Value.tuple _ = _
    unfold Lg.leakedV
    rw [if_pos c2]; rfl
end Go.Proofs.YthkimgfgpphgnaaGreat.T

/- The reference: what the tank holds, the first truth, what was moved, what leaks behind a time: the walks. -/
namespace Go.Proofs.YthkimgfgpphgnaaGreat.T
open Go.RowKit Go.Proofs Go.Eng
set_option maxRecDepth 100000
set_option linter.unusedVariables false
set_option linter.unusedSimpArgs false



end Go.Proofs.YthkimgfgpphgnaaGreat.T

/- The reference: sums that leak, arrays of 601 spans: the walks of nothing, with and passed. -/
namespace Go.Proofs.YthkimgfgpphgnaaGreat.T
open Go.RowKit Go.Proofs Go.Eng
set_option maxRecDepth 100000
set_option linter.unusedVariables false
set_option linter.unusedSimpArgs false



def Sn.no : Sn := ⟨1, 0⟩
def noF (c j : Nat) : Sn := if j < c then Sn.no else Sn.z
def Sn.wth (s way : Sn) : Sn := if s.hi < s.lo then way else ⟨min s.lo way.lo, max s.hi way.hi⟩
def cw (cb : Bool) (x : Int) : Int := if cb = true then x else 0
def psN (S : Nat → Sn) (lo hi : Int) (v : Nat) : Nat := if (S v).hi < (S v).lo then 0 else (hi - lo + 1).toNat
def psI (S : Nat → Sn) (F : Nat) (cb : Bool) (lo : Int) (v c : Nat) (out : Nat → Sn) (t : Nat) : Sn :=
  if lo ≤ (t : Int) - (v : Int) ∧ (t : Int) - (v : Int) < lo + (c : Int) ∧ t ≤ F then (out t).wth ⟨(S v).lo - cw cb ((t : Int) - (v : Int)), (S v).hi - cw cb ((t : Int) - (v : Int))⟩ else out t
def psO (S : Nat → Sn) (F : Nat) (cb : Bool) (lo hi : Int) : Nat → Nat → Sn
  | 0 => fun _ => Sn.no
  | v + 1 => psI S F cb lo v (psN S lo hi v) (psO S F cb lo hi v)
end Go.Proofs.YthkimgfgpphgnaaGreat.T

/- The reference: sums that leak: what the arrays say of the least and the greatest sums; plain facts. -/
namespace Go.Proofs.YthkimgfgpphgnaaGreat.T
open Go.RowKit Go.Proofs Go.Eng
set_option maxRecDepth 100000
set_option linter.unusedVariables false
set_option linter.unusedSimpArgs false

theorem never_eq : never = -1099511627776 := rfl
/-- A span of sums, the greatest sum, and the least one turned round. -/
def Rep (M : Int) (s : Sn) (p m : Int) : Prop := (s = Sn.no ∧ p ≤ never + M ∧ m ≤ never + M) ∨ (0 ≤ s.lo ∧ s.lo ≤ s.hi ∧ s.hi ≤ M ∧ p = s.hi ∧ m = -s.lo)
theorem Rep.wth {M : Int} {a b : Sn} {p m q r : Int} (hM : M ≤ 1000000) (h : Rep M a p m) (h0 : 0 ≤ b.lo) (h1 : b.lo ≤ b.hi) (h2 : b.hi ≤ M) (hq : q = b.hi) (hr : r = -b.lo) : Rep M (a.wth b) (max p q) (max m r) := by
  have hn := never_eq
  subst hq hr
  refine .inr ?_
  unfold Sn.wth
  obtain ⟨rfl, hp, hm⟩ | ⟨g0, g1, g2, rfl, rfl⟩ := h
  · rw [if_pos (by decide)]; omega
  · rw [if_neg (by omega)]; refine ⟨?_, ?_, ?_, ?_, ?_⟩ <;> simp only <;> omega
theorem Rep.skip {M : Int} {a : Sn} {p m q r : Int} (hM : M ≤ 1000000) (h : Rep M a p m) (hq : q ≤ never + M) (hr : r ≤ never + M) : Rep M a (max p q) (max m r) := by
  have hn := never_eq
  obtain ⟨rfl, hp, hm⟩ | ⟨g0, g1, g2, rfl, rfl⟩ := h
  · exact .inl ⟨rfl, by omega, by omega⟩
  · exact .inr ⟨g0, g1, g2, by omega, by omega⟩
theorem Rep.mono {M N : Int} {a : Sn} {p m : Int} (h : Rep M a p m) (hMN : M ≤ N) : Rep N a p m := by
  obtain ⟨rfl, hp, hm⟩ | ⟨g0, g1, g2, g3, g4⟩ := h
  · exact .inl ⟨rfl, by omega, by omega⟩
  · exact .inr ⟨g0, g1, by omega, g3, g4⟩
theorem Rep.bd {M : Int} {a : Sn} {p m : Int} (h : Rep M a p m) (hM : 0 ≤ M ∧ M ≤ 1000000) : 0 ≤ a.lo ∧ a.lo ≤ 1000000 ∧ 0 ≤ a.hi ∧ a.hi ≤ 1000000 := by
  obtain ⟨rfl, hp, hm⟩ | ⟨g0, g1, g2, g3, g4⟩ := h
  · decide
  · omega
def wmx (g : Nat → Int) (a n : Nat) : Nat → Int
  | 0 => never
  | V + 1 => if a ≤ V ∧ V < a + n then max (wmx g a n V) (g V) else wmx g a n V
theorem mxF_ge {g : Nat → Int} {a : Nat} : ∀ {n j : Nat}, j < n → g (a + j) ≤ mxF g a n
  | n + 1, j, h => by
    show _ ≤ max _ _
    by_cases hj : j = n
    · subst hj; omega
    · have := mxF_ge (g := g) (a := a) (n := n) (j := j) (by omega)
      omega
theorem maxN_ge {f : Nat → Int} : ∀ {n j : Nat}, j < n → f j ≤ maxN f n
  | n + 1, j, h => by
    show _ ≤ max _ _
    by_cases hj : j = n
    · subst hj; omega
    · have := maxN_ge (f := f) (n := n) (j := j) (by omega)
      omega
theorem mv_ge {F : Nat} {lo hi wo : Int} {best : Nat → Int} {t v : Nat} (hv : v ≤ F) (h1 : lo ≤ (t : Int) - v) (h2 : (t : Int) - v ≤ hi) : mvG wo best t v ≤ mv F lo hi wo best t := by
  have hA : ((mvA hi t : Nat) : Int) = max 0 ((t : Int) - hi) := by unfold mvA; omega
  have hN : ((mvN F lo hi t : Nat) : Int) = max 0 (min (F : Int) ((t : Int) - lo) - max 0 ((t : Int) - hi) + 1) := by unfold mvN; omega
  have h := mxF_ge (g := mvG wo best t) (a := mvA hi t) (n := mvN F lo hi t) (j := v - mvA hi t) (by omega)
  rw [show mvA hi t + (v - mvA hi t) = v by omega] at h
  exact h
/-! ### The sums of a log, time by time -/
def stS (lo : Int) (c t : Nat) : Sn := if lo ≤ (t : Int) ∧ (t : Int) < lo + (c : Int) then Sn.z else Sn.no
def Lg.sum0 (l : Lg) (t : Nat) : Sn := if l.start.lo ≤ (t : Int) ∧ (t : Int) ≤ l.start.hi then Sn.z else Sn.no
def Lg.sum1 (l : Lg) (F k : Nat) (S : Nat → Sn) : Nat → Sn := if 0 < k then psO S F true (-(min (F : Int) (l.drip k))) 0 (F + 1) else S
def dpS (d : Sn) (S : Nat → Sn) (j t : Nat) : Sn := if t < j ∧ inB d.lo d.hi [(t : Int)] = false then Sn.no else S t
def Lg.sum2 (l : Lg) (F k : Nat) (S : Nat → Sn) : Nat → Sn :=
  if (l.e k).kind = 1 then psO S F false (l.e k).size.lo (l.e k).size.hi (F + 1)
  else if (l.e k).kind = 2 then psO S F false (-(l.e k).size.hi) (-(l.e k).size.lo) (F + 1)
  else dpS (l.tk.dip (l.e k).size) S (F + 1)
def Lg.sumK (l : Lg) (F : Nat) : Nat → Nat → Sn
  | 0 => l.sum0
  | k + 1 => l.sum2 F k (l.sum1 F k (l.sumK F k))
def outS (S : Nat → Sn) : Nat → Sn
  | 0 => Sn.no
  | V + 1 => if (S V).hi < (S V).lo then outS S V else (outS S V).wth (S V)
end Go.Proofs.YthkimgfgpphgnaaGreat.T

/- The reference: sums that leak: the walk. -/
namespace Go.Proofs.YthkimgfgpphgnaaGreat.T
open Go.RowKit Go.Proofs Go.Eng
set_option maxRecDepth 100000
set_option maxHeartbeats 800000
set_option linter.unusedVariables false
set_option linter.unusedSimpArgs false



end Go.Proofs.YthkimgfgpphgnaaGreat.T

/- Maps whose keys are integers, as lists of entries. No project text. -/
namespace Go.Eng
open Go.RowKit
/-- A key, its value, and when it was born. -/
abbrev Ent := Int × Value × Nat
def mEnt (x : Ent) : MapEntry := { key := .int .i64 x.1, val := x.2.1, born := x.2.2 }
def MO (l : List Ent) (clock : Nat) : Obj := .map (l.map mEnt).toArray clock
def hasK (k : Int) (x : Ent) : Bool := x.1 == k
theorem findNow_ent (k : Int) : ∀ (l : List Ent) (i : Nat), ∃ r, Instr.findNow (.int .i64) (.int .i64 k) (l.map mEnt) i = some r ∧ r.map Prod.snd = (l.find? (hasK k)).map (·.2.1) ∧ (r = none → l.eraseP (hasK k) = l) ∧ ∀ j v, r = some (j, v) → i ≤ j ∧ l.eraseIdx (j - i) = l.eraseP (hasK k)
  | [], i => ⟨none, rfl, rfl, fun _ => rfl, fun _ _ h => by cases h⟩
  | x :: l, i => by
    obtain ⟨r, h1, h2, h3, h4⟩ := findNow_ent k l (i + 1)
    by_cases hk : x.1 = k
    · refine ⟨some (i, x.2.1), ?_, ?_, (fun h => by cases h), fun j v h => ?_⟩
      · simp [Instr.findNow, mEnt, Instr.sameNow, hk]
      · simp [hasK, hk]
      · cases h
        refine ⟨Nat.le_refl _, ?_⟩
        rw [Nat.sub_self]
        simp [hasK, hk]
    · refine ⟨r, ?_, ?_, fun h => ?_, fun j v h => ?_⟩
      · have hk' : ¬ k = x.1 := fun h => hk h.symm
        have hkb : (k == x.1) = false := by simp [hk']
        simp only [List.map_cons, Instr.findNow, mEnt, Instr.sameNow, if_true, hkb]
        exact h1
      · simp [hasK, hk] at h2 ⊢; exact h2
      · have := h3 h
        have hxb : hasK k x = false := by simp [hasK, hk]
        rw [List.eraseP_cons, hxb, cond_false, this]
      · obtain ⟨h5, h6⟩ := h4 j v h
        refine ⟨by omega, ?_⟩
        obtain ⟨m, hm⟩ : ∃ m, j - i = m + 1 := ⟨j - i - 1, by omega⟩
        rw [hm, List.eraseIdx_cons_succ, show m = j - (i + 1) by omega, h6]
        simp [hasK, hk]
theorem map_eraseIdx {α β : Type} (f : α → β) : ∀ (l : List α) (j : Nat), (l.eraseIdx j).map f = (l.map f).eraseIdx j
  | [], _ => by simp
  | _ :: _, 0 => rfl
  | x :: l, j + 1 => by simp [map_eraseIdx f l j]
section
variable {C : Ctx} {F : Fence} {n : Nat} {ds : List Deferred} {all : Array Oper} {Q : Exit → Env → List Blk → Prop} {rest : List Oper} {e : Env} {H : List Blk}
variable {d : Option Tmp} {ty : TypeId} {pos : String} {af : Array Edge} {g : Option (Nat × Bool)}
def NewMap (v : Value) (Hn : List Blk) : Prop := ∃ b, v = .map (some b) ∧ Hn = [(b, MO [] 0)]
theorem y_makeMap {T : TypeId} : YR C ⟨d, .makeMap T none, ty, pos, af, g⟩ e H NewMap := fun w _ => by
  have : (execOp (ev e) ⟨d, .makeMap T none, ty, pos, af, g⟩).run C.P w = .ok (.value (.map (some w.heap.size))) (w.alloc (MO [] 0)) := by
    simp [execOp, Instr.makeMap, newObj, MO]; rfl
  rw [this]; exact out_new (fun h => by cases h) ⟨_, rfl, rfl⟩
theorem WS_newM (hF : Wide F) {o : Oper} (hc : chk n all e o = true) (hy : YR C o e H NewMap) (hk : ∀ b, WS C F n ds all Q rest (updo e o.dst (.map (some b))) ((b, MO [] 0) :: H)) : WS C F n ds all Q (o :: rest) e H :=
  WS_gen hF hc hy fun v Hn hr => by
    obtain ⟨b, rfl, rfl⟩ := hr
    exact hk b
theorem run_mapUpd {P : Program} {w : World} {T kT eT : TypeId} {b clock : Nat} {l : List Ent} {k : Int} {v : Value} (hT : P.underlying T = some (.map kT eT)) (hk : P.underlying kT = some (.int .i64)) (hb : w.heap[b]? = some (MO l clock)) (hn : l.find? (hasK k) = none) :
    (Instr.mapUpdate T (.map (some b)) (.int .i64 k) v).run P w = .ok () (w.putObj b (MO (l ++ [(k, v, clock)]) (clock + 1))) := by
  obtain ⟨r, h1, h2, _, _⟩ := findNow_ent k l 0
  rw [hn] at h2
  have hr : r = none := by cases r <;> simp_all
  subst hr
  have hkey : MapKept.IsKey (.int .i64) (.int .i64 k) := rfl
  have hf := MapKept.run_findKey (P := P) (w := w) hk h1
  have hb' : w.heap[b]? = some (.map (l.map mEnt).toArray clock) := hb
  have h3 : MO (l ++ [(k, v, clock)]) (clock + 1) = .map ((l.map mEnt).toArray.push (mEnt (k, v, clock))) (clock + 1) := by unfold MO; simp
  rw [h3]
  simp [Instr.mapUpdate, run_underlying hT, MapKept.run_getObj_map hb', MapKept.run_checkKey hk hkey, hf, MapKept.run_setObj_map _ hb', Result.andThen]
  rfl
theorem run_delete {P : Program} {w : World} {T kT eT : TypeId} {b clock : Nat} {l : List Ent} {k : Int} (hT : P.underlying T = some (.map kT eT)) (hk : P.underlying kT = some (.int .i64)) (hb : w.heap[b]? = some (MO l clock)) :
    (Builtin.delete_ #[T, kT] ty #[.map (some b), .int .i64 k]).run P w = .ok (.tuple #[]) (w.putObj b (MO (l.eraseP (hasK k)) clock)) := by
  obtain ⟨r, h1, _, h3, h4⟩ := findNow_ent k l 0
  have hkey : MapKept.IsKey (.int .i64) (.int .i64 k) := rfl
  have hf := MapKept.run_findKey (P := P) (w := w) hk h1
  have hb' : w.heap[b]? = some (.map (l.map mEnt).toArray clock) := hb
  cases r with
  | none =>
    rw [h3 rfl]
    simp [Builtin.delete_, run_underlying hT, MapKept.run_getObj_map hb', MapKept.run_checkKey hk hkey, hf, MapKept.run_setObj_map _ hb', Result.andThen]
    rfl
  | some p =>
    obtain ⟨j, v⟩ := p
    obtain ⟨_, h5⟩ := h4 j v rfl
    rw [Nat.sub_zero] at h5
    have h6 : MO (l.eraseP (hasK k)) clock = .map ((l.map mEnt).toArray.eraseIdxIfInBounds j) clock := by
      unfold MO
      rw [← h5]
      congr 1
      rw [map_eraseIdx]; simp
    rw [h6]
    simp [Builtin.delete_, run_underlying hT, MapKept.run_getObj_map hb', MapKept.run_checkKey hk hkey, hf, MapKept.run_setObj_map _ hb', Result.andThen]
    rfl
def lookV (z : Value) : Option Value → Value
  | some v => .tuple #[v, .bool true]
  | none => .tuple #[z, .bool false]
theorem run_lookup {P : Program} {w : World} {T kT eT : TypeId} {b clock : Nat} {l : List Ent} {k : Int} {z : Value} (hT : P.underlying T = some (.map kT eT)) (hk : P.underlying kT = some (.int .i64)) (hb : w.heap[b]? = some (MO l clock)) (hz : ∀ w, (zeroValue eT).run P w = .ok z w) :
    (Instr.lookup T (.map (some b)) (.int .i64 k) true).run P w = .ok (lookV z ((l.find? (hasK k)).map (·.2.1))) w := by
  obtain ⟨r, h1, h2, _, _⟩ := findNow_ent k l 0
  have hkey : MapKept.IsKey (.int .i64) (.int .i64 k) := rfl
  have hf := MapKept.run_findKey (P := P) (w := w) hk h1
  have hb' : w.heap[b]? = some (.map (l.map mEnt).toArray clock) := hb
  rw [← h2]
  cases r with
  | none => simp [Instr.lookup, run_underlying hT, MapKept.run_getObj_map hb', MapKept.run_checkKey hk hkey, hf, hz, Result.andThen, lookV]
  | some p => simp [Instr.lookup, run_underlying hT, MapKept.run_getObj_map hb', MapKept.run_checkKey hk hkey, hf, Result.andThen, lookV]
theorem WS_mapUpd (hF : Wide F) {x y v : Operand} {T kT eT : TypeId} {b clock i : Nat} {l : List Ent} {k : Int} {u : Value} (hx : ev e x = .map (some b)) (hy : ev e y = .int .i64 k) (hv : ev e v = u) (hT : C.P.underlying T = some (.map kT eT)) (hk : C.P.underlying kT = some (.int .i64))
    (hi : H[i]? = some (b, MO l clock)) (hn : l.find? (hasK k) = none) (hq : WS C F n ds all Q rest e (H.set i (b, MO (l ++ [(k, u, clock)]) (clock + 1)))) :
    WS C F n ds all Q (⟨none, .mapUpdate T x y v, ty, pos, af, none⟩ :: rest) e H := fun w hw a ha => by
  have hb := hw.get hi
  unfold wpListIn
  rw [if_pos (by rfl)]
  refine ⟨fun f _ => hF.fn f, ?_⟩
  have : (execOp (ev e) ⟨none, .mapUpdate T x y v, ty, pos, af, none⟩).run C.P w = .ok .skip (w.putObj b (MO (l ++ [(k, u, clock)]) (clock + 1))) := by
    simp [execOp, hx, hy, hv, run_mapUpd hT hk hb hn]
  rw [semAt_of rfl, ha.eval, this]
  exact hq _ (hw.set hi (swap_put hb (fun h => by cases h))) _ ha
theorem WS_delete (hF : Wide F) {x y : Operand} {T kT eT : TypeId} {b clock i : Nat} {l : List Ent} {k : Int} (hx : ev e x = .map (some b)) (hy : ev e y = .int .i64 k) (hT : C.P.underlying T = some (.map kT eT)) (hk : C.P.underlying kT = some (.int .i64))
    (hi : H[i]? = some (b, MO l clock)) (hq : WS C F n ds all Q rest e (H.set i (b, MO (l.eraseP (hasK k)) clock))) :
    WS C F n ds all Q (⟨none, .call ⟨.builtin .delete, #[x, y], #[T, kT]⟩, ty, pos, af, none⟩ :: rest) e H := fun w hw a ha => by
  have hb := hw.get hi
  unfold wpListIn
  rw [if_pos (by rfl)]
  refine ⟨fun f _ => hF.fn f, ?_⟩
  have : (execOp (ev e) ⟨none, .call ⟨.builtin .delete, #[x, y], #[T, kT]⟩, ty, pos, af, none⟩).run C.P w = .ok (.value (.tuple #[])) (w.putObj b (MO (l.eraseP (hasK k)) clock)) := by
    simp [execOp, resolve, invoke, builtin, hx, hy, run_delete hT hk hb]
  rw [semAt_of rfl, ha.eval, this]
  exact hq _ (hw.set hi (swap_put hb (fun h => by cases h))) _ ha
theorem y_lookup {x y : Operand} {T kT eT : TypeId} {b clock i : Nat} {l : List Ent} {k : Int} {z : Value} {r : Option Value} (hx : ev e x = .map (some b)) (hy : ev e y = .int .i64 k) (hT : C.P.underlying T = some (.map kT eT)) (hk : C.P.underlying kT = some (.int .i64))
    (hz : ∀ w, (zeroValue eT).run C.P w = .ok z w) (hi : H[i]? = some (b, MO l clock)) (hr : (l.find? (hasK k)).map (·.2.1) = r) :
    YD C ⟨d, .lookup T x y true, ty, pos, af, g⟩ e H (lookV z r) := yd_of fun w hw => by
  subst hr
  simp [execOp, hx, hy, run_lookup hT hk (hw.get hi) hz]
end
end Go.Eng

/- append onto a row that is the last of the blocks; a map's entry, as told. No project text. -/
namespace Go.Eng
open Go.RowKit
section
variable {C : Ctx} {F : Fence} {n : Nat} {ds : List Deferred} {all : Array Oper} {Q : Exit → Env → List Blk → Prop} {rest : List Oper} {e : Env} {H : List Blk}
variable {d : Option Tmp} {ty : TypeId} {pos : String} {af : Array Edge} {g : Option (Nat × Bool)}
theorem WS_appendE (hF : Wide F) {x y : Operand} {T E : TypeId} {a a' : Option Addr} {n' m cap cap' sz by_ : Nat} {us news : List Value} {z : Value} {H1 Hn : List Blk} (hc : chk n all e ⟨d, .call ⟨.builtin .append, #[x, y], #[T, T]⟩, ty, pos, af, g⟩ = true)
    (hx : ev e x = .slice a n' cap) (hy : ev e y = .slice a' m cap') (hT : C.P.underlying T = some (.slice E)) (hinf : (C.P.info? E).map (fun i => (i.zero, i.size, i.bytes)) = some (some z, sz, by_))
    (hzs : z.cells.size = sz) (hH : H = H1 ++ Hn) (hrow : Row E sz a n' cap us Hn) (hs : Src C H a' m news) (hl : news.length = m * sz) (hone : news.all Value.oneCell' = true) (hb : (n' + m) * by_ ≤ 140737488355328) (hm : n' + m ≤ 140737488355328)
    (hk : ∀ a' cap' Hn', Row E sz a' (n' + m) cap' (us ++ news) Hn' → WS C F n ds all Q rest (updo e d (.slice a' (n' + m) cap')) (H1 ++ Hn')) :
    WS C F n ds all Q (⟨d, .call ⟨.builtin .append, #[x, y], #[T, T]⟩, ty, pos, af, g⟩ :: rest) e H :=
  WS_append (H1 := H1) (H2 := []) hF hc hx hy hT hinf hzs (by rw [hH, List.append_nil]) hrow hs hl hone hb hm fun a' cap' Hn' hr => by
    rw [List.append_nil]; exact hk a' cap' Hn' hr
theorem y_lookupE {x y : Operand} {T kT eT : TypeId} {b clock i : Nat} {l : List Ent} {k : Int} {z c : Value} (hx : ev e x = .map (some b)) (hy : ev e y = .int .i64 k) (hT : C.P.underlying T = some (.map kT eT)) (hk : C.P.underlying kT = some (.int .i64))
    (hz : ∀ w, (zeroValue eT).run C.P w = .ok z w) (hi : H[i]? = some (b, MO l clock)) (hr : lookV z ((l.find? (hasK k)).map (·.2.1)) = c) : YD C ⟨d, .lookup T x y true, ty, pos, af, g⟩ e H c := by
  subst hr; exact y_lookup hx hy hT hk hz hi rfl
end
end Go.Eng

/- A log without entries: the walk of without, and holds. -/
namespace Go.Proofs.YthkimgfgpphgnaaGreat.T
open Go.RowKit Go.Proofs Go.Eng
set_option maxRecDepth 100000
set_option linter.unusedVariables false
set_option linter.unusedSimpArgs false

theorem bs27_1_0 {x0_0 : Int} {x0_1 : Int} {x0_2 : Int} {x0_3 : Int} : ∀ w, (Instr.buildSlice 27 1 #[(0, .agg #[.int .i64 x0_0, .int .i64 x0_1, .int .i64 x0_2, .int .i64 x0_3])]).run Tryz.prog w = .ok (.slice (some ⟨w.heap.size, 0, none⟩) 1 1) (w.alloc (CB [.int .i64 x0_0, .int .i64 x0_1, .int .i64 x0_2, .int .i64 x0_3] 38)) := fun w => by kernel_rfl

def kpB (D : List Int) (i : Nat) : Bool := !(D.contains ((i : Int) + 1))
def kpK (D : List Int) (i : Nat) : List Nat := (List.range i).filter (kpB D)
/-- The log without the entries at some times. -/
def Lg.woK (l : Lg) (D : List Int) (i : Nat) : Lg := ⟨l.tk, l.start, (kpK D i).map l.e⟩
def Lg.wo (l : Lg) (D : List Int) : Lg := l.woK D l.es.length
def Lg.ent (l : Lg) (i : Nat) : Ent := ((i : Int) + 1, .agg (l.e i).cells.toArray, i)
theorem kpK_succ (D : List Int) (i : Nat) : kpK D (i + 1) = if kpB D i then kpK D i ++ [i] else kpK D i := by
  unfold kpK
  rw [List.range_succ, List.filter_append]
  by_cases h : kpB D i = true
  · rw [if_pos h]; simp [h]
  · rw [if_neg h]; simp [h]
theorem ent_key (l : Lg) (i : Nat) (k : Int) : hasK k (l.ent i) = decide ((i : Int) + 1 = k) := by
  unfold hasK Lg.ent
  simp only []
  by_cases h : (i : Int) + 1 = k <;> simp [h]
theorem find_ent (l : Lg) (p : Nat → Bool) (i : Nat) : ∀ m, (((List.range m).filter p).map l.ent).find? (hasK ((i : Int) + 1)) = if i < m ∧ p i = true then some (l.ent i) else none
  | 0 => by simp
  | m + 1 => by
    rw [List.range_succ, List.filter_append, List.map_append, List.find?_append, find_ent l p i m]
    by_cases h : i < m ∧ p i = true
    · rw [if_pos h, if_pos ⟨by omega, h.2⟩]; rfl
    · rw [if_neg h, Option.none_or]
      by_cases hp : p m = true
      · simp only [List.filter_cons, hp, if_true, List.filter_nil, List.map_cons, List.map_nil, List.find?_cons, ent_key]
        by_cases he : m = i
        · subst he
          simp [hp]
        · rw [if_neg (fun h2 => h ⟨by omega, h2.2⟩)]
          have : ¬ ((m : Int) + 1 = (i : Int) + 1) := by omega
          simp [this]
      · have hz : (List.filter p [m]).map l.ent = [] := by simp [hp]
        rw [hz, if_neg (fun h2 => by
          obtain ⟨h3, h4⟩ := h2
          by_cases he : m = i
          · subst he; exact hp h4
          · exact h ⟨by omega, h4⟩)]
        rfl
theorem erase_ent (l : Lg) (p : Nat → Bool) (t : Int) : ∀ m, (((List.range m).filter p).map l.ent).eraseP (hasK t) = ((List.range m).filter fun i => p i && !decide ((i : Int) + 1 = t)).map l.ent
  | 0 => by simp
  | m + 1 => by
    have ih := erase_ent l p t m
    rw [List.range_succ, List.filter_append, List.filter_append, List.map_append, List.map_append]
    by_cases hany : ∃ x ∈ ((List.range m).filter p).map l.ent, hasK t x = true
    · obtain ⟨x, hx, hk⟩ := hany
      rw [List.eraseP_append_left hk _ hx, ih]
      congr 1
      obtain ⟨i, hi, rfl⟩ := List.mem_map.1 hx
      rw [ent_key, decide_eq_true_eq] at hk
      have him : i < m := by simpa using (List.mem_filter.1 hi).1
      have hne : ¬ ((m : Int) + 1 = t) := by omega
      by_cases hp : p m = true <;> simp [hp, hne]
    · have hall : ∀ b ∈ ((List.range m).filter p).map l.ent, ¬ hasK t b = true := fun b hb hk => hany ⟨b, hb, hk⟩
      rw [List.eraseP_append_right _ (by simpa using hall)]
      rw [List.eraseP_of_forall_not (by simpa using hall)] at ih
      rw [← ih]
      congr 1
      by_cases hp : p m = true
      · simp only [List.filter_cons, hp, if_true, List.filter_nil, List.map_cons, List.map_nil, Bool.true_and]
        by_cases ht : (m : Int) + 1 = t
        · simp [ht, ent_key]
        · simp [ht, ent_key]
      · simp [hp]
theorem kpB_snoc (D : List Int) (d : Int) (i : Nat) : kpB (D ++ [d]) i = (kpB D i && !decide ((i : Int) + 1 = d)) := by
  unfold kpB
  rw [Bool.eq_iff_iff]
  simp
theorem take_snoc {D : List Int} {j : Nat} (h : j < D.length) : D.take (j + 1) = D.take j ++ [D.getD j 0] := by
  rw [List.take_succ_eq_append_getElem h]
  simp [List.getD_eq_getElem?_getD, h]
theorem erase_kp (l : Lg) (D : List Int) {j : Nat} (h : j < D.length) (m : Nat) : ((kpK (D.take j) m).map l.ent).eraseP (hasK (D.getD j 0)) = (kpK (D.take (j + 1)) m).map l.ent := by
  unfold kpK
  rw [erase_ent, take_snoc h]
  congr 1
  exact List.filter_congr fun i _ => (kpB_snoc _ _ _).symm
theorem Row.rws {α : Type} {enc : α → List Value} {sz : Nat} {d : α} (hz : ∀ x, (enc x).length = sz) {C : Ctx} {H Hn : List Blk} {T : TypeId} {a : Option Addr} {n cap : Nat} {xs : List α} (h : Row T sz a n cap (rowOf enc (fun k => xs.getD k d) n) Hn) (hl : xs.length = n) (hs : Hn.Sublist H) (w : World) (hw : St C H w) : Rws enc sz d w a n cap xs := by
  rcases h with ⟨rfl, rfl, rfl, _, rfl⟩ | ⟨b, junk, rfl, rfl, h1, h2, h3⟩
  · rw [List.length_eq_zero_iff.1 hl]; exact Rws.nil _ _ _
  · refine ⟨hl, h3, fun k hk => ⟨b, 0, rfl, ?_⟩⟩
    exact Mem.rowJ (junk := junk) (k := k) (o := 0 + k * sz) hz 0 rfl hk rfl (Nat.zero_add _) w (hw.sub hs)
theorem Lg.woK_len (l : Lg) (D : List Int) (i : Nat) : (l.woK D i).es.length = (kpK D i).length := List.length_map _
theorem Lg.woK_e (l : Lg) (D : List Int) (i : Nat) : rowOf En.cells (l.woK D (i + 1)).e (l.woK D (i + 1)).es.length = if kpB D i then rowOf En.cells (l.woK D i).e (l.woK D i).es.length ++ (l.e i).cells else rowOf En.cells (l.woK D i).e (l.woK D i).es.length := by
  rw [l.woK_len, l.woK_len]
  by_cases h : kpB D i = true
  · rw [if_pos h, kpK_succ, if_pos h, List.length_append, List.length_singleton, rowOf_succ]
    have he : ∀ j, j < (kpK D i).length → (l.woK D (i + 1)).e j = (l.woK D i).e j := fun j hj => by
      unfold Lg.woK Lg.e
      simp only
      rw [kpK_succ, if_pos h, List.map_append]
      simp [List.getD_eq_getElem?_getD, List.getElem?_append_left, hj]
    rw [rowOf_congr _ he]
    congr 1
    unfold Lg.woK Lg.e
    simp only
    rw [kpK_succ, if_pos h, List.map_append]
    simp [List.getD_eq_getElem?_getD]
  · rw [if_neg h]
    unfold Lg.woK Lg.e
    simp only
    rw [kpK_succ, if_neg h]
theorem kpK_le (D : List Int) (i : Nat) : (kpK D i).length ≤ i := by
  have := List.length_filter_le (kpB D) (List.range i)
  rw [List.length_range] at this
  exact this
def WoV (l : Lg) (D : List Int) (g : Nat) (a : Option Addr) (cap : Nat) (v : Value) (Hn : List Blk) : Prop :=
  ∃ cb ae cape H2, v = .pointer (some ⟨cb, 0, none⟩) ∧ Hn = (cb, CB (bookCells g (l.wo D) a cap ae cape) 91) :: H2 ∧ Row 38 4 ae (l.wo D).es.length cape (rowOf En.cells (l.wo D).e (l.wo D).es.length) H2

theorem without_any (bk g : Nat) (l : Lg) (a : Option Addr) (cap : Nat) (ae : Option Addr) (cape : Nat) (ta : Option Addr) (tn tcap : Nat) (D : List Int) (w : World) (hok : l.Ok) (h1 : At w bk 0 (bookCells g l a cap ae cape)) (he : Ens w ae l.es.length cape l.es) (hD : Ints w ta tn tcap D) (htn : tn ≤ 1000000) :
    Ct Tryz.prog 72 #[.pointer (some ⟨bk, 0, none⟩), .slice ta tn tcap] w (WoV l D g a cap) := by
  have hn12 := hok.n12
  have hlenD := hD.len
  have hF := wide_wide
  refine Ct_start (args := [_, _]) Tryz.func72 (by rfl) Tryz.ntmps72 (by rfl) ?_
  refine W_seq ?_
  refine W_region_lit (fun ds => ?_)
  refine WS_det hF (by rfl) (y_assign (c := .pointer _) (by rfl)) ?_
  refine WS_nil ?_
  refine Then_normal ?_
  refine W_seq ?_
  refine W_region_lit (fun ds => ?_)
  refine WS_newM hF (by rfl) y_makeMap (fun mb => ?_)
  refine WS_det hF (by rfl) (y_assign (c := .map _) (by rfl)) ?_
  refine WS_nil ?_
  refine Then_normal ?_
  refine W_seq ?_
  refine W_seq ?_
  refine W_region_lit (fun ds => ?_)
  refine WS_det hF (by rfl) (y_move (c := .pointer _) (by rfl)) ?_
  refine WS_det hF (by rfl) (by first | exact y_nilCheck (by rfl) | exact y_nilCheckF (by rfl)) ?_
  refine WS_det hF (by rfl) (y_fieldAddr (by rfl) fa91_1) ?_
  refine WS_det hF (by rfl) (y_fieldAddr (by rfl) fa29_2) ?_
  refine WS_det hF (by rfl) (y_load1 (by rfl) Tryz.isAgg27 (by first | exact Mem.old1 (by assumption) | exact Mem.oldAt1 (by assumption) (by rfl) | exact Mem.old (by assumption) | exact Mem.oldAtL1 (by assumption) (by rfl) (by rfl))) ?_
  refine WS_det hF (by rfl) (y_len (by rfl) Tryz.runUnderlying27) ?_
  refine WS_det hF (by rfl) (y_move (c := .int .i64 _) (by rfl)) ?_
  refine WS_nil ?_
  refine Then_normal ?_
  refine W_block ?_
  refine W_loop (γ := Nat) (fun k => k ≤ l.es.length) (fun k => [(0, .pointer (some ⟨bk, 0, none⟩)), (1, .slice ta tn tcap), (5, .map (some mb)), (19, .slice ae l.es.length cape), (20, .int .i64 (l.es.length : Int)), (21, .int .i64 (k : Int))]) (fun k => [(mb, MO ((kpK [] k).map l.ent) k)]) (fun k => l.es.length - k) (0) (Nat.zero_le _) (by repeat (first | exact trivial | refine ⟨by rfl, ?_⟩)) (List.Sublist.refl _) ?_
  intro k e hk
  refine W_seq ?_
  refine W_region_lit (fun ds => ?_)
  refine WS_det hF (by rfl) (y_lss (by rfl) (by rfl)) ?_
  refine WS_nil ?_
  refine Then_normal ?_
  refine W_seq ?_
  refine W_cond (by rfl) (fun c3 => ?_) (fun c3 => ?_)
  ·
    try simp only [Bool.not_eq_true', Bool.not_eq_false', decide_eq_true_eq, decide_eq_false_iff_not, ne_eq, Classical.not_not, Int.not_lt, Int.not_le] at c3
    obtain ⟨b, o, rfl, hc⟩ := he.cell k (by omega)
    change At w b _ (l.e k).cells at hc
    have hmk : (kpK [] (k + 1)).map l.ent = (kpK [] k).map l.ent ++ [((k : Int) + 1, .agg (l.e k).cells.toArray, k)] := by rw [kpK_succ, if_pos (show kpB [] k = true from rfl), List.map_append]; rfl
    have hfind : ((kpK [] k).map l.ent).find? (hasK ((k : Int) + 1)) = none := by
      have := find_ent l (kpB []) k k
      rw [if_neg (by omega)] at this
      exact this
    refine W_skip ?_
    refine Then_normal ?_
    refine W_seq ?_
    refine W_block ?_
    refine W_seq ?_
    refine W_region_lit (fun ds => ?_)
    refine WS_det hF (by rfl) (y_move (c := .int .i64 _) (by rfl)) ?_
    refine WS_det hF (by rfl) (y_index (k := k) (by rfl) (by rfl) (by first | rfl | omega) (by first | decide | omega) Tryz.runUnderlying27 Tryz.sizeOf38) ?_
    refine WS_det hF (by rfl) (y_loadN (by rfl) Tryz.isAgg38 Tryz.sizeOf38 (by first | exact Mem.old (by assumption) | exact Mem.oldAt (us := [.int .i64 _, .int .i64 _, .int .i64 _, .int .i64 _]) (by assumption) (by rfl) | exact Mem.oldAtL (us := [.int .i64 _, .int .i64 _, .int .i64 _, .int .i64 _]) (by assumption) (by rfl) (by rfl)) (by rfl)) ?_
    refine WS_new hF (by rfl) (y_alloc Tryz.zeroValue38 (by rfl)) (fun b1 => ?_)
    refine WS_det hF (by rfl) (y_assign (c := .int .i64 _) (by rfl)) ?_
    refine WS_store hF (i := 0) (by rfl) (by rfl) Tryz.sizeOf38 (by rfl) (by rfl) (by rfl) (by first | decide | exact Nat.le_of_ble_eq_true rfl | simp) ?_
    refine WS_nil ?_
    refine Then_normal ?_
    refine W_region_lit (fun ds => ?_)
    refine WS_det hF (by rfl) (y_move (c := .map _) (by rfl)) ?_
    refine WS_det hF (by rfl) (y_move (c := .int .i64 _) (by rfl)) ?_
    refine WS_det hF (by rfl) (y_add (by rfl) (by rfl) (by unfold I64; omega)) ?_
    refine WS_det hF (by rfl) (y_loadN (by rfl) Tryz.isAgg38 Tryz.sizeOf38 (Mem.own (us := [.int .i64 _, .int .i64 _, .int .i64 _, .int .i64 _]) 0 (by rfl) (by rfl)) (by rfl)) ?_
    refine WS_mapUpd hF (i := 1) (by rfl) (by rfl) (by rfl) Tryz.underlying127 Tryz.underlying3 (by rfl) hfind ?_
    refine WS_nil ?_
    refine InB_normal ?_
    refine Then_normal ?_
    refine W_region_lit (fun ds => ?_)
    refine WS_det hF (by rfl) (y_add (by rfl) (by rfl) (by unfold I64; omega)) ?_
    refine WS_det hF (by rfl) (y_move (c := .int .i64 _) (by rfl)) ?_
    refine WS_nil ?_
    exact Loop_next (k + 1) (by omega) (by repeat (first | exact trivial | refine ⟨by rfl, ?_⟩)) (by rw [hmk]; exact (by repeat (first | exact List.Sublist.refl _ | exact List.nil_sublist _ | apply List.Sublist.cons_cons | apply List.Sublist.cons))) (by omega)
  ·
    try simp only [Bool.not_eq_true', Bool.not_eq_false', decide_eq_true_eq, decide_eq_false_iff_not, ne_eq, Classical.not_not, Int.not_lt, Int.not_le] at c3
    refine W_exit ?_
    refine Then_exit ?_
    refine Loop_exit ?_
    refine InB_same ?_
    refine Then_normal ?_
    refine W_seq ?_
    refine W_seq ?_
    refine W_region_lit (fun ds => ?_)
    refine WS_det hF (by rfl) (y_move (c := .slice _ _ _) (by rfl)) ?_
    refine WS_det hF (by rfl) (y_len (by rfl) Tryz.runUnderlying22) ?_
    refine WS_det hF (by rfl) (y_move (c := .int .i64 _) (by rfl)) ?_
    refine WS_nil ?_
    refine Then_normal ?_
    refine W_block ?_
    refine W_loop (γ := Nat) (fun j => j ≤ tn) (fun j => [(0, .pointer (some ⟨bk, 0, none⟩)), (5, .map (some mb)), (31, .slice ta tn tcap), (32, .int .i64 (tn : Int)), (33, .int .i64 (j : Int))]) (fun j => [(mb, MO ((kpK (D.take j) l.es.length).map l.ent) l.es.length)]) (fun j => tn - j) (0) (Nat.zero_le _) (by repeat (first | exact trivial | refine ⟨by rfl, ?_⟩)) ((by obtain rfl : k = l.es.length := (by omega); exact (by repeat (first | exact List.Sublist.refl _ | exact List.nil_sublist _ | apply List.Sublist.cons_cons | apply List.Sublist.cons)))) ?_
    intro j e hj
    refine W_seq ?_
    refine W_region_lit (fun ds => ?_)
    refine WS_det hF (by rfl) (y_lss (by rfl) (by rfl)) ?_
    refine WS_nil ?_
    refine Then_normal ?_
    refine W_seq ?_
    refine W_cond (by rfl) (fun c8 => ?_) (fun c8 => ?_)
    ·
      try simp only [Bool.not_eq_true', Bool.not_eq_false', decide_eq_true_eq, decide_eq_false_iff_not, ne_eq, Classical.not_not, Int.not_lt, Int.not_le] at c8
      obtain ⟨bt, ot, rfl, hct⟩ := hD.cell j (by omega)
      refine W_skip ?_
      refine Then_normal ?_
      refine W_seq ?_
      refine W_block ?_
      refine W_seq ?_
      refine W_region_lit (fun ds => ?_)
      refine WS_det hF (by rfl) (y_index (k := j) (by rfl) (by rfl) (by first | rfl | omega) (by first | decide | omega) Tryz.runUnderlying22 Tryz.sizeOf3) ?_
      refine WS_det hF (by rfl) (y_load1 (by rfl) Tryz.isAgg3 (by first | exact Mem.old1 (by assumption) | exact Mem.oldAt1 (by assumption) (by rfl) | exact Mem.old (by assumption) | exact Mem.oldAtL1 (by assumption) (by rfl) (by rfl))) ?_
      refine WS_det hF (by rfl) (y_assign (c := .int .i64 _) (by rfl)) ?_
      refine WS_nil ?_
      refine Then_normal ?_
      refine W_region_lit (fun ds => ?_)
      refine WS_det hF (by rfl) (y_move (c := .map _) (by rfl)) ?_
      refine WS_det hF (by rfl) (y_move (c := .int .i64 _) (by rfl)) ?_
      refine WS_delete hF (i := 0) (by rfl) (by rfl) Tryz.underlying127 Tryz.underlying3 (by rfl) ?_
      refine WS_nil ?_
      refine InB_normal ?_
      refine Then_normal ?_
      refine W_region_lit (fun ds => ?_)
      refine WS_det hF (by rfl) (y_add (by rfl) (by rfl) (by unfold I64; omega)) ?_
      refine WS_det hF (by rfl) (y_move (c := .int .i64 _) (by rfl)) ?_
      refine WS_nil ?_
      exact Loop_next (j + 1) (by omega) (by repeat (first | exact trivial | refine ⟨by rfl, ?_⟩)) (by rw [← erase_kp l D (j := j) (by omega)]; exact (by repeat (first | exact List.Sublist.refl _ | exact List.nil_sublist _ | apply List.Sublist.cons_cons | apply List.Sublist.cons))) (by omega)
    ·
      try simp only [Bool.not_eq_true', Bool.not_eq_false', decide_eq_true_eq, decide_eq_false_iff_not, ne_eq, Classical.not_not, Int.not_lt, Int.not_le] at c8
      refine W_exit ?_
      refine Then_exit ?_
      refine Loop_exit ?_
      refine InB_same ?_
      refine Then_normal ?_
      refine W_seq ?_
      refine W_region_lit (fun ds => ?_)
      refine WS_det hF (by rfl) (y_move (c := .pointer _) (by rfl)) ?_
      refine WS_det hF (by rfl) (by first | exact y_nilCheck (by rfl) | exact y_nilCheckF (by rfl)) ?_
      refine WS_det hF (by rfl) (y_loadN (by rfl) Tryz.isAgg91 Tryz.sizeOf91 (by first | exact Mem.old (by assumption) | exact Mem.oldAt (us := [.pointer _, .slice _ _ _, .int .i64 _, .int .i64 _, .int .i64 _, .int .i64 _, .slice _ _ _, _, _, _, _, _, _, _, _, _, _, _, _]) (by assumption) (by rfl) | exact Mem.oldAtL (us := [.pointer _, .slice _ _ _, .int .i64 _, .int .i64 _, .int .i64 _, .int .i64 _, .slice _ _ _, _, _, _, _, _, _, _, _, _, _, _, _]) (by assumption) (by rfl) (by rfl)) (by rfl)) ?_
      refine WS_new hF (by rfl) (y_alloc Tryz.zeroValue91 (by rfl)) (fun cb => ?_)
      refine WS_store hF (i := 0) (by rfl) (by rfl) Tryz.sizeOf91 (by rfl) (by rfl) (by rfl) (by first | decide | exact Nat.le_of_ble_eq_true rfl | simp) ?_
      refine WS_nil ?_
      refine Then_normal ?_
      refine W_seq ?_
      refine W_region_lit (fun ds => ?_)
      refine WS_det hF (by rfl) (y_fieldAddr (by rfl) fa91_1) ?_
      refine WS_det hF (by rfl) (y_fieldAddr (by rfl) fa29_2) ?_
      refine WS_store hF (i := 0) (by rfl) (by rfl) Tryz.sizeOf27 (by rfl) (by rfl) (by rfl) (by first | decide | exact Nat.le_of_ble_eq_true rfl | simp) ?_
      refine WS_nil ?_
      refine Then_normal ?_
      refine W_seq ?_
      refine W_seq ?_
      refine W_region_lit (fun ds => ?_)
      refine WS_det hF (by rfl) (y_move (c := .pointer _) (by rfl)) ?_
      refine WS_det hF (by rfl) (by first | exact y_nilCheck (by rfl) | exact y_nilCheckF (by rfl)) ?_
      refine WS_det hF (by rfl) (y_fieldAddr (by rfl) fa91_1) ?_
      refine WS_det hF (by rfl) (y_fieldAddr (by rfl) fa29_2) ?_
      refine WS_det hF (by rfl) (y_load1 (by rfl) Tryz.isAgg27 (by first | exact Mem.old1 (by assumption) | exact Mem.oldAt1 (by assumption) (by rfl) | exact Mem.old (by assumption) | exact Mem.oldAtL1 (by assumption) (by rfl) (by rfl))) ?_
      refine WS_det hF (by rfl) (y_len (by rfl) Tryz.runUnderlying27) ?_
      refine WS_det hF (by rfl) (y_move (c := .int .i64 _) (by rfl)) ?_
      refine WS_nil ?_
      refine Then_normal ?_
      refine W_block ?_
      refine W_loop (γ := Nat × Option Addr × Nat × List Blk) (fun p => p.1 ≤ l.es.length ∧ Row 38 4 p.2.1 (l.woK D p.1).es.length p.2.2.1 (rowOf En.cells (l.woK D p.1).e (l.woK D p.1).es.length) p.2.2.2) (fun p => [(5, .map (some mb)), (10, .pointer (some ⟨cb, 0, none⟩)), (50, .int .i64 (l.es.length : Int)), (51, .int .i64 (p.1 : Int))]) (fun p => (cb, CB (bookCells g (l.woK D p.1) a cap p.2.1 p.2.2.1) 91) :: (mb, MO ((kpK D l.es.length).map l.ent) l.es.length) :: p.2.2.2) (fun p => l.es.length - p.1) ((0, none, 0, [])) ⟨Nat.zero_le _, Row.nil 38 4⟩ (by repeat (first | exact trivial | refine ⟨by rfl, ?_⟩)) ((by obtain rfl : j = tn := (by omega); rw [List.take_of_length_le (show D.length ≤ j by omega)]; exact (by repeat (first | exact List.Sublist.refl _ | exact List.nil_sublist _ | apply List.Sublist.cons_cons | apply List.Sublist.cons)))) ?_
      rintro ⟨i, ra, rcap, Hf⟩ e ⟨hi, hrow⟩
      refine W_seq ?_
      refine W_region_lit (fun ds => ?_)
      refine WS_det hF (by rfl) (y_lss (by rfl) (by rfl)) ?_
      refine WS_nil ?_
      refine Then_normal ?_
      refine W_seq ?_
      refine W_cond (by rfl) (fun c15 => ?_) (fun c15 => ?_)
      ·
        try simp only [Bool.not_eq_true', Bool.not_eq_false', decide_eq_true_eq, decide_eq_false_iff_not, ne_eq, Classical.not_not, Int.not_lt, Int.not_le] at c15
        have hin : i < l.es.length := by omega
        have hkl : (l.woK D i).es.length ≤ i := by rw [l.woK_len]; exact kpK_le D i
        have hlk : lookV (.agg #[.int .i64 0, .int .i64 0, .int .i64 0, .int .i64 0]) ((((kpK D l.es.length).map l.ent).find? (hasK ((i : Int) + 1))).map (·.2.1)) = .tuple #[.agg (if kpB D i then l.e i else En.z).cells.toArray, .bool (kpB D i)] := by
          rw [show ((kpK D l.es.length).map l.ent).find? (hasK ((i : Int) + 1)) = _ from find_ent l (kpB D) i l.es.length]
          by_cases h : kpB D i = true
          · rw [if_pos ⟨hin, h⟩, if_pos h, h]; rfl
          · rw [if_neg (fun h2 => h h2.2), if_neg h, Bool.eq_false_iff.2 h]; rfl
        refine W_skip ?_
        refine Then_normal ?_
        refine W_seq ?_
        refine W_block ?_
        refine W_seq ?_
        refine W_region_lit (fun ds => ?_)
        refine WS_det hF (by rfl) (y_move (c := .int .i64 _) (by rfl)) ?_
        refine WS_det hF (by rfl) (y_assign (c := .int .i64 _) (by rfl)) ?_
        refine WS_nil ?_
        refine Then_normal ?_
        refine W_seq ?_
        refine W_region_lit (fun ds => ?_)
        refine WS_det hF (by rfl) (y_move (c := .map _) (by rfl)) ?_
        refine WS_det hF (by rfl) (y_move (c := .int .i64 _) (by rfl)) ?_
        refine WS_det hF (by rfl) (y_add (by rfl) (by rfl) (by unfold I64; omega)) ?_
        refine WS_det hF (by rfl) (y_lookupE (i := 1) (by rfl) (by rfl) Tryz.underlying127 Tryz.underlying3 Tryz.zeroValue38 (by rfl) hlk) ?_
        refine WS_det hF (by rfl) (y_move (c := .tuple _) (by rfl)) ?_
        refine WS_det hF (by rfl) (y_extract (c := .agg _) (by rfl) (by rfl)) ?_
        refine WS_det hF (by rfl) (y_extract (c := .bool _) (by rfl) (by rfl)) ?_
        refine WS_new hF (by rfl) (y_alloc Tryz.zeroValue38 (by rfl)) (fun bz => ?_)
        refine WS_store hF (i := 0) (by rfl) (by rfl) Tryz.sizeOf38 (by rfl) (by rfl) (by rfl) (by first | decide | exact Nat.le_of_ble_eq_true rfl | simp) ?_
        refine WS_det hF (by rfl) (y_assign (c := .bool _) (by rfl)) ?_
        refine WS_nil ?_
        refine Then_normal ?_
        refine W_seq ?_
        refine W_region_lit (fun ds => ?_)
        refine WS_det hF (by rfl) (y_move (c := .bool _) (by rfl)) ?_
        refine WS_nil ?_
        refine Then_normal ?_
        refine W_cond (by rfl) (fun c18 => ?_) (fun c18 => ?_)
        ·
          try simp only [Bool.not_eq_true', Bool.not_eq_false', decide_eq_true_eq, decide_eq_false_iff_not, ne_eq, Classical.not_not, Int.not_lt, Int.not_le] at c18
          refine W_region_lit (fun ds => ?_)
          refine WS_det hF (by rfl) (y_fieldAddr (by rfl) fa91_1) ?_
          refine WS_det hF (by rfl) (y_fieldAddr (by rfl) fa29_2) ?_
          refine WS_det hF (by rfl) (y_load1 (by rfl) Tryz.isAgg27 (Mem.own1 1 (by rfl) (by rfl))) ?_
          refine WS_det hF (by rfl) (y_loadN (by rfl) Tryz.isAgg38 Tryz.sizeOf38 (Mem.own (us := [.int .i64 _, .int .i64 _, .int .i64 _, .int .i64 _]) 0 (by rfl) (by rfl)) (by rfl)) ?_
          refine WS_newS hF (by rfl) (y_buildSliceL bs27_1_0 (by rfl)) (fun b2 => ?_)
          refine WS_appendE hF (n' := (l.woK D i).es.length) (H1 := [_, _, _, _]) (by rfl) (by rfl) (by rfl) Tryz.underlying27 infEntry (by rfl) (by rfl) hrow (.inr ⟨_, _, rfl, Mem.own (us := [.int _ _, .int _ _, .int _ _, .int _ _]) 0 (by rfl) (by rfl)⟩) (by rfl) (by rfl) (by omega) (by omega) ?_
          intro ra2 rcap2 Hf2 hrow2
          have hle : (l.woK D (i + 1)).es.length = (l.woK D i).es.length + 1 := by rw [l.woK_len, l.woK_len, kpK_succ, if_pos c18, List.length_append]; rfl
          have hrow3 : Row 38 4 ra2 (l.woK D (i + 1)).es.length rcap2 (rowOf En.cells (l.woK D (i + 1)).e (l.woK D (i + 1)).es.length) Hf2 := by
            rw [l.woK_e, if_pos c18, hle]
            have he2 : (if kpB D i then l.e i else En.z) = l.e i := if_pos c18
            rw [← he2]
            exact hrow2
          refine WS_det hF (by rfl) (y_fieldAddr (by rfl) fa91_1) ?_
          refine WS_det hF (by rfl) (y_fieldAddr (by rfl) fa29_2) ?_
          refine WS_store hF (i := 2) (by rfl) (by rfl) Tryz.sizeOf27 (by rfl) (by rfl) (by rfl) (by first | decide | exact Nat.le_of_ble_eq_true rfl | simp) ?_
          refine WS_nil ?_
          refine InB_normal ?_
          refine Then_normal ?_
          refine W_region_lit (fun ds => ?_)
          refine WS_det hF (by rfl) (y_add (by rfl) (by rfl) (by unfold I64; omega)) ?_
          refine WS_det hF (by rfl) (y_move (c := .int .i64 _) (by rfl)) ?_
          refine WS_nil ?_
          exact Loop_next (i + 1, ra2, rcap2, Hf2) ⟨by omega, hrow3⟩ (by repeat (first | exact trivial | refine ⟨by rfl, ?_⟩)) (by unfold bookCells; rw [hle]; exact (by repeat (first | exact List.Sublist.refl _ | exact List.nil_sublist _ | apply List.Sublist.cons_cons | apply List.Sublist.cons))) (by simp only; omega)
        ·
          try simp only [Bool.not_eq_true', Bool.not_eq_false', decide_eq_true_eq, decide_eq_false_iff_not, ne_eq, Classical.not_not, Int.not_lt, Int.not_le] at c18
          have hkk : kpK D (i + 1) = kpK D i := by rw [kpK_succ, if_neg (by rw [c18]; exact Bool.false_ne_true)]
          have hww : l.woK D (i + 1) = l.woK D i := by unfold Lg.woK; rw [hkk]
          refine W_skip ?_
          refine InB_normal ?_
          refine Then_normal ?_
          refine W_region_lit (fun ds => ?_)
          refine WS_det hF (by rfl) (y_add (by rfl) (by rfl) (by unfold I64; omega)) ?_
          refine WS_det hF (by rfl) (y_move (c := .int .i64 _) (by rfl)) ?_
          refine WS_nil ?_
          exact Loop_next (i + 1, ra, rcap, Hf) ⟨by omega, by rw [hww]; exact hrow⟩ (by repeat (first | exact trivial | refine ⟨by rfl, ?_⟩)) (by rw [hww]; exact (by repeat (first | exact List.Sublist.refl _ | exact List.nil_sublist _ | apply List.Sublist.cons_cons | apply List.Sublist.cons))) (by simp only; omega)
      ·
        try simp only [Bool.not_eq_true', Bool.not_eq_false', decide_eq_true_eq, decide_eq_false_iff_not, ne_eq, Classical.not_not, Int.not_lt, Int.not_le] at c15
        refine W_exit ?_
        refine Then_exit ?_
        refine Loop_exit ?_
        refine InB_same ?_
        refine Then_normal ?_
        refine W_seq ?_
        refine W_region_lit (fun ds => ?_)
        refine WS_det hF (by rfl) (y_assign (c := .pointer _) (by rfl)) ?_
        refine WS_nil ?_
        refine Then_normal ?_
        refine W_ret ?_
        refine Fin_ret [.pointer _] ((cb, _) :: Hf) Tryz.results72 ⟨by rfl, trivial⟩ ((SubP.hsub (SubP.pick 0 (by rfl) (by exact SubP.drop (SubP.refl))))) ?_
        obtain rfl : i = l.es.length := by have : i ≤ l.es.length := hi; omega
        exact ⟨cb, ra, rcap, Hf, rfl, rfl, hrow⟩
end Go.Proofs.YthkimgfgpphgnaaGreat.T

/- Whether a log has a truth: the walk of holds. -/
namespace Go.Proofs.YthkimgfgpphgnaaGreat.T
open Go.RowKit Go.Proofs Go.Eng
set_option maxRecDepth 100000
set_option linter.unusedVariables false
set_option linter.unusedSimpArgs false



theorem holding_it2 (l : Lg) (w0 : World) (ds0 out0 : List Deferred) (bx bk : Nat) (hB : Bk w0 bk l) :
    It ⟨Tryz.prog, w0, ds0, out0⟩ 96 [.pointer (some ⟨bx, 0, none⟩)] (fun k => [.int .i64 (k : Int), .agg (l.hold k).cells.toArray]) l.times
      [(bx, CB [.pointer (some ⟨bk, 0, none⟩)] 76)] := by
  intro lp J Jx hY G hJ
  have hB0 := hB
  obtain ⟨hok, g, a, cap, ae, cape, k1, hG, he⟩ := hB
  have h0 : 0 < l.times := l.steps_pos 0 _
  have hn := hok.n12
  have he0 : (l.hold 0).empty = false := by
    have := Sn.inB_iff.1 hok.start
    show decide (l.start.hi < l.start.lo) = false
    simp only [decide_eq_false_iff_not]; omega
  have hF := wide_wide
  refine Cs_start (args := [_, _]) Tryz.func96 (by rfl) Tryz.ntmps96 (by rfl) ?_
  refine W_seq ?_
  refine W_region_lit (fun ds => ?_)
  refine WS_det hF (by rfl) (y_load1 (by rfl) Tryz.isAgg76 (Mem.own1 0 (by rfl) (by rfl))) ?_
  refine WS_det hF (by rfl) (by first | exact y_nilCheck (by rfl) | exact y_nilCheckF (by rfl)) ?_
  refine WS_det hF (by rfl) (y_fieldAddr (by rfl) fa91_1) ?_
  refine WS_det hF (by rfl) (y_fieldAddr (by rfl) fa29_1) ?_
  refine WS_det hF (by rfl) (y_loadN (by rfl) Tryz.isAgg26 Tryz.sizeOf26 (by first | exact Mem.old (by assumption) | exact Mem.oldAt (us := [.int .i64 _, .int .i64 _]) (by assumption) (by rfl) | exact Mem.oldAtL (us := [.int .i64 _, .int .i64 _]) (by assumption) (by rfl) (by rfl)) (by rfl)) ?_
  refine WS_new hF (by rfl) (y_alloc Tryz.zeroValue26 (by rfl)) (fun b1 => ?_)
  refine WS_store hF (i := 0) (by rfl) (by rfl) Tryz.sizeOf26 (by rfl) (by rfl) (by rfl) (by first | decide | exact Nat.le_of_ble_eq_true rfl | simp) ?_
  refine WS_nil ?_
  refine Then_normal ?_
  refine W_seq ?_
  refine W_seq ?_
  refine W_region_lit (fun ds => ?_)
  refine WS_det hF (by rfl) (y_move (c := _) (by rfl)) ?_
  refine WS_det hF (by rfl) (y_loadN (by rfl) Tryz.isAgg26 Tryz.sizeOf26 (Mem.own (us := [.int .i64 _, .int .i64 _]) 0 (by rfl) (by rfl)) (by rfl)) ?_
  refine WS_yield (by rfl) (by rfl) (by rfl) (hY 0 h0 ds [_, _] G hJ) ?_
  rintro yb _ ⟨G1, rfl, hb⟩
  refine WS_det hF (by rfl) (y_not (by rfl)) ?_
  refine WS_nil ?_
  refine Then_normal ?_
  refine W_cond (by rfl) (fun c1 => ?_) (fun c1 => ?_)
  ·
    try simp only [Bool.not_eq_true', Bool.not_eq_false', decide_eq_true_eq, decide_eq_false_iff_not, ne_eq, Classical.not_not, Int.not_lt, Int.not_le] at c1
    obtain ⟨rfl, hj⟩ | ⟨_, hj⟩ := hb
    · cases c1
    refine W_ret ?_
    refine Then_ret ?_
    refine Fin_ret [] ((bx, _) :: G1) Tryz.results96 trivial (HSub.sub (by repeat (first | exact List.Sublist.refl _ | exact List.nil_sublist _ | apply List.Sublist.cons_cons | apply List.Sublist.cons))) ?_
    exact ⟨G1, rfl, .inr ⟨0, h0, hj⟩⟩
  ·
    try simp only [Bool.not_eq_true', Bool.not_eq_false', decide_eq_true_eq, decide_eq_false_iff_not, ne_eq, Classical.not_not, Int.not_lt, Int.not_le] at c1
    obtain ⟨_, hj⟩ | ⟨rfl, hj⟩ := hb
    case inr => cases c1
    refine W_skip ?_
    refine Then_normal ?_
    refine W_seq ?_
    refine W_region_lit (fun ds => ?_)
    refine WS_det hF (by rfl) (y_load1 (by rfl) Tryz.isAgg76 (Mem.own1 1 (by rfl) (by rfl))) ?_
    refine WS_det hF (by rfl) (by first | exact y_nilCheck (by rfl) | exact y_nilCheckF (by rfl)) ?_
    refine WS_det hF (by rfl) (y_fieldAddr (by rfl) fa91_1) ?_
    refine WS_det hF (by rfl) (y_fieldAddr (by rfl) fa29_2) ?_
    refine WS_det hF (by rfl) (y_load1 (by rfl) Tryz.isAgg27 (by first | exact Mem.old1 (by assumption) | exact Mem.oldAt1 (by assumption) (by rfl) | exact Mem.old (by assumption) | exact Mem.oldAtL1 (by assumption) (by rfl) (by rfl))) ?_
    refine WS_det hF (by rfl) (y_len (by rfl) Tryz.runUnderlying27) ?_
    refine WS_det hF (by rfl) (y_move (c := .int .i64 _) (by rfl)) ?_
    refine WS_nil ?_
    refine Then_normal ?_
    refine W_block ?_
    refine W_loop (γ := Nat × List Blk) (fun p => p.1 ≤ l.es.length ∧ (∀ j, j ≤ p.1 → (l.hold j).empty = false) ∧ l.times = p.1 + l.steps p.1 (l.es.length - p.1) ∧ J (p.1 + 1) p.2) (fun p => [(0, .func (.yield lp) #[] #[]), (1, .pointer (some ⟨bx, 0, none⟩)), (3, .pointer (some ⟨b1, 0, none⟩)), (19, .int .i64 (l.es.length : Int)), (20, .int .i64 (p.1 : Int))]) (fun p => (b1, CB (l.hold p.1).cells 26) :: (bx, CB [.pointer (some ⟨bk, 0, none⟩)] 76) :: p.2) (fun p => l.es.length - p.1) ((0, G1)) ⟨Nat.zero_le _, fun j hj => by obtain rfl : j = 0 := (by omega); exact he0, by show l.times = 0 + l.times; omega, hj⟩ (by repeat (first | exact trivial | refine ⟨by rfl, ?_⟩)) (List.Sublist.refl _) ?_
    rintro ⟨k, G2⟩ e ⟨hk, hne, htm, hj2⟩
    refine W_seq ?_
    refine W_region_lit (fun ds => ?_)
    refine WS_det hF (by rfl) (y_lss (by rfl) (by rfl)) ?_
    refine WS_nil ?_
    refine Then_normal ?_
    refine W_seq ?_
    refine W_cond (by rfl) (fun c3 => ?_) (fun c3 => ?_)
    ·
      try simp only [Bool.not_eq_true', Bool.not_eq_false', decide_eq_true_eq, decide_eq_false_iff_not, ne_eq, Classical.not_not, Int.not_lt, Int.not_le] at c3
      have hk1 : k + 1 < l.times := by
        rw [htm, show l.es.length - k = (l.es.length - (k + 1)) + 1 by omega, l.steps_more (hne k (Nat.le_refl _))]
        have := l.steps_pos (k + 1) (l.es.length - (k + 1))
        omega
      refine W_skip ?_
      refine Then_normal ?_
      refine W_seq ?_
      refine W_block ?_
      refine W_seq ?_
      refine W_region_lit (fun ds => ?_)
      refine WS_det hF (by rfl) (y_move (c := .int .i64 _) (by rfl)) ?_
      refine WS_det hF (by rfl) (y_assign (c := .int .i64 _) (by rfl)) ?_
      refine WS_nil ?_
      refine Then_normal ?_
      refine W_seq ?_
      refine W_region_lit (fun ds => ?_)
      refine WS_det hF (by rfl) (y_load1 (by rfl) Tryz.isAgg76 (Mem.own1 1 (by rfl) (by rfl))) ?_
      refine WS_det hF (by rfl) (y_move (c := .int .i64 _) (by rfl)) ?_
      refine WS_det hF (by rfl) (y_loadN (by rfl) Tryz.isAgg26 Tryz.sizeOf26 (Mem.own (us := [.int .i64 _, .int .i64 _]) 0 (by rfl) (by rfl)) (by rfl)) ?_
      refine WS_det hF (by rfl) (y_callL (by rfl) (by rfl) Tryz.call63 (fun w hw => after_any bk l k (l.hold k) w (hB0.st w hw) (by omega) (hok.hold_sm (by omega) (fun j hj => hne j (by omega)) (hne k (Nat.le_refl _))))) ?_
      refine WS_store hF (i := 0) (by rfl) (by rfl) Tryz.sizeOf26 (by rfl) (by rfl) (by rfl) (by first | decide | exact Nat.le_of_ble_eq_true rfl | simp) ?_
      refine WS_nil ?_
      refine Then_normal ?_
      refine W_seq ?_
      refine W_region_lit (fun ds => ?_)
      refine WS_det hF (by rfl) (y_move (c := _) (by rfl)) ?_
      refine WS_det hF (by rfl) (y_move (c := .int .i64 _) (by rfl)) ?_
      refine WS_det hF (by rfl) (y_add (by rfl) (by rfl) (by unfold I64; omega)) ?_
      refine WS_det hF (by rfl) (y_loadN (by rfl) Tryz.isAgg26 Tryz.sizeOf26 (Mem.own (us := [.int .i64 _, .int .i64 _]) 0 (by rfl) (by rfl)) (by rfl)) ?_
      refine WS_yield (by rfl) (by rfl) (by rfl) (hY (k + 1) hk1 ds [_, _] G2 hj2) ?_
      rintro yb _ ⟨G3, rfl, hb⟩
      refine WS_det hF (by rfl) (y_not (by rfl)) ?_
      refine WS_det hF (by rfl) (y_move (c := .bool _) (by rfl)) ?_
      refine WS_split 33 (by rfl) (fun g6_6 => ?_) (fun g6_6 => ?_)
      ·
        try simp only [Bool.not_eq_true', Bool.not_eq_false', decide_eq_true_eq, decide_eq_false_iff_not, ne_eq, Classical.not_not, Int.not_lt, Int.not_le] at g6_6
        obtain ⟨rfl, hj3⟩ | ⟨_, hj3⟩ := hb
        · cases g6_6
        refine WS_no hF (by rfl) ?_
        refine WS_no hF (by rfl) ?_
        refine WS_det hF (by rfl) (by first | exact y_pick_t (c := .bool _) (by rfl) (by rfl) | exact y_pick_f (c := .bool _) (by rfl) (by rfl)) ?_
        refine WS_nil ?_
        refine Then_normal ?_
        refine W_cond (by rfl) (fun c6 => ?_) (fun c6 => ?_)
        ·
          try simp only [Bool.not_eq_true', Bool.not_eq_false', decide_eq_true_eq, decide_eq_false_iff_not, ne_eq, Classical.not_not, Int.not_lt, Int.not_le] at c6
          refine W_ret ?_
          refine InB_ret ?_
          refine Then_ret ?_
          refine Loop_ret ?_
          refine InB_ret ?_
          refine Fin_ret [] ((bx, _) :: G3) Tryz.results96 trivial (HSub.sub (by repeat (first | exact List.Sublist.refl _ | exact List.nil_sublist _ | apply List.Sublist.cons_cons | apply List.Sublist.cons))) ?_
          exact ⟨G3, rfl, .inr ⟨k + 1, hk1, hj3⟩⟩
        · cases c6
      ·
        try simp only [Bool.not_eq_true', Bool.not_eq_false', decide_eq_true_eq, decide_eq_false_iff_not, ne_eq, Classical.not_not, Int.not_lt, Int.not_le] at g6_6
        obtain ⟨_, hj3⟩ | ⟨rfl, hj3⟩ := hb
        case inr => cases g6_6
        refine WS_det hF (by rfl) (y_loadN (by rfl) Tryz.isAgg26 Tryz.sizeOf26 (Mem.own (us := [.int .i64 _, .int .i64 _]) 0 (by rfl) (by rfl)) (by rfl)) ?_
        refine WS_det hF (by rfl) (y_callL (by rfl) (by rfl) Tryz.call67 (fun w hw => empty_any (l.hold (k + 1)).lo (l.hold (k + 1)).hi w)) ?_
        refine WS_det hF (by rfl) (by first | exact y_pick_t (c := .bool _) (by rfl) (by rfl) | exact y_pick_f (c := .bool _) (by rfl) (by rfl)) ?_
        refine WS_nil ?_
        refine Then_normal ?_
        refine W_cond (by rfl) (fun c6 => ?_) (fun c6 => ?_)
        ·
          try simp only [Bool.not_eq_true', Bool.not_eq_false', decide_eq_true_eq, decide_eq_false_iff_not, ne_eq, Classical.not_not, Int.not_lt, Int.not_le] at c6
          refine W_ret ?_
          refine InB_ret ?_
          refine Then_ret ?_
          refine Loop_ret ?_
          refine InB_ret ?_
          refine Fin_ret [] ((bx, _) :: G3) Tryz.results96 trivial (HSub.sub (by repeat (first | exact List.Sublist.refl _ | exact List.nil_sublist _ | apply List.Sublist.cons_cons | apply List.Sublist.cons))) ?_
          refine ⟨G3, rfl, .inl ?_⟩
          rw [htm, show l.es.length - k = (l.es.length - (k + 1)) + 1 by omega, l.steps_more (hne k (Nat.le_refl _)), l.steps_end (by unfold Sn.empty; simp only [decide_eq_true_eq]; omega)]
          rw [show k + (1 + 1) = k + 1 + 1 by omega]
          exact hj3
        ·
          try simp only [Bool.not_eq_true', Bool.not_eq_false', decide_eq_true_eq, decide_eq_false_iff_not, ne_eq, Classical.not_not, Int.not_lt, Int.not_le] at c6
          have hne1 : ∀ j, j ≤ k + 1 → (l.hold j).empty = false := fun j hj => by
            obtain hj | rfl : j ≤ k ∨ j = k + 1 := by omega
            · exact hne j hj
            · unfold Sn.empty; simp only [decide_eq_false_iff_not]; omega
          have htm1 : l.times = (k + 1) + l.steps (k + 1) (l.es.length - (k + 1)) := by
            rw [htm, show l.es.length - k = (l.es.length - (k + 1)) + 1 by omega, l.steps_more (hne k (Nat.le_refl _))]; omega
          refine W_skip ?_
          refine InB_normal ?_
          refine Then_normal ?_
          refine W_region_lit (fun ds => ?_)
          refine WS_det hF (by rfl) (y_add (by rfl) (by rfl) (by unfold I64; omega)) ?_
          refine WS_det hF (by rfl) (y_move (c := .int .i64 _) (by rfl)) ?_
          refine WS_nil ?_
          exact Loop_next (k + 1, G3) ⟨by omega, hne1, htm1, hj3⟩ (by repeat (first | exact trivial | refine ⟨by rfl, ?_⟩)) (by repeat (first | exact List.Sublist.refl _ | exact List.nil_sublist _ | apply List.Sublist.cons_cons | apply List.Sublist.cons)) (by simp only; omega)
    ·
      try simp only [Bool.not_eq_true', Bool.not_eq_false', decide_eq_true_eq, decide_eq_false_iff_not, ne_eq, Classical.not_not, Int.not_lt, Int.not_le] at c3
      refine W_exit ?_
      refine Then_exit ?_
      refine Loop_exit ?_
      refine InB_same ?_
      refine Fin_norm [] ((bx, _) :: G2) Tryz.results96 trivial (HSub.sub (by repeat (first | exact List.Sublist.refl _ | exact List.nil_sublist _ | apply List.Sublist.cons_cons | apply List.Sublist.cons))) ?_
      refine ⟨G2, rfl, .inl ?_⟩
      obtain rfl : k = l.es.length := by omega
      rw [htm, Nat.sub_self]; exact hj2
theorem holds2_any (bk : Nat) (l : Lg) (w : World) (hB : Bk w bk l) : Ct Tryz.prog 73 #[.pointer (some ⟨bk, 0, none⟩)] w fun v _ => v = .bool l.holdsB := by
  have htl := l.times_le
  have hF := wide_wide
  refine Ct_start (args := [_]) Tryz.func73 (by rfl) Tryz.ntmps73 (by rfl) ?_
  refine W_seq ?_
  refine W_region_lit (fun ds => ?_)
  refine WS_new hF (by rfl) (y_alloc Tryz.zeroValue4 (by rfl)) (fun b1 => ?_)
  refine WS_nil ?_
  refine Then_normal ?_
  refine W_seq ?_
  refine W_seq ?_
  refine W_region_lit (fun ds => ?_)
  refine WS_det hF (by rfl) (y_move (c := .pointer _) (by rfl)) ?_
  refine WS_gen hF (by rfl) (y_callL (by rfl) (by rfl) Tryz.call77 (fun w hw => holding_any bk w)) ?_
  rintro _ _ ⟨bx, rfl, rfl⟩
  refine WS_nil ?_
  refine Then_normal ?_
  refine W_block ?_
  refine W_range hF (by rfl) (encs := (fun k => [.int .i64 (k : Int), .agg (l.hold k).cells.toArray])) (N := l.times) (H0 := [(bx, CB [.pointer (some ⟨bk, 0, none⟩)] 76)]) (G0 := [_]) (fun k G => G = [(b1, CB [.bool false] 4)] ∧ ∀ j, j < k → (l.hold j).empty = false) (fun c k G => c = .ret ∧ (l.hold (k - 1)).empty = true ∧ G = [(b1, CB [.bool false] 4)]) (by rfl) Tryz.call96 (by rfl) (fun _ => rfl) (fun ds => holding_it2 l _ _ _ bx bk hB) (⟨rfl, fun j hj => by omega⟩) ((SubP.hsub (SubP.pick 0 (by rfl) (SubP.pick 0 (by rfl) (SubP.nil))))) ?_ ?_ ?_
  · rintro k hk G hj out lpr R R'
    have hF := wide_inRound wide_wide lpr
    obtain ⟨rfl, hne⟩ := hj
    refine W_region_lit (fun ds => ?_)
    refine WS_new hF (by rfl) (y_alloc Tryz.zeroValue26 (by rfl)) (fun b2 => ?_)
    refine WS_store hF (i := 0) (by rfl) (by rfl) Tryz.sizeOf26 (by rfl) (by rfl) (by rfl) (by first | decide | exact Nat.le_of_ble_eq_true rfl | simp) ?_
    refine WS_nil ?_
    refine Then_normal ?_
    refine ⟨[_, _], rfl, ?_⟩
    refine W_block ?_
    refine W_seq ?_
    refine W_region_lit (fun ds => ?_)
    refine WS_det hF (by rfl) (y_loadN (by rfl) Tryz.isAgg26 Tryz.sizeOf26 (Mem.own (us := [.int .i64 _, .int .i64 _]) 0 (by rfl) (by rfl)) (by rfl)) ?_
    refine WS_det hF (by rfl) (y_callL (by rfl) (by rfl) Tryz.call67 (fun w hw => empty_any (l.hold k).lo (l.hold k).hi w)) ?_
    refine WS_nil ?_
    refine Then_normal ?_
    refine W_cond (by rfl) (fun c3 => ?_) (fun c3 => ?_)
    ·
      try simp only [Bool.not_eq_true', Bool.not_eq_false', decide_eq_true_eq, decide_eq_false_iff_not, ne_eq, Classical.not_not, Int.not_lt, Int.not_le] at c3
      refine W_seq ?_
      refine W_region_lit (fun ds => ?_)
      refine WS_store hF (i := 1) (by rfl) (by rfl) Tryz.sizeOf4 (by rfl) (by rfl) (by rfl) (by first | decide | exact Nat.le_of_ble_eq_true rfl | simp) ?_
      refine WS_nil ?_
      refine Then_normal ?_
      refine W_ret ?_
      refine InB_ret ?_
      refine ⟨[_], (SubP.hsub (SubP.pick 1 (by rfl) (by exact SubP.drop (SubP.refl)))), rfl, ?_, rfl⟩
      show (l.hold k).empty = true
      unfold Sn.empty; simp only [decide_eq_true_eq]; omega
    ·
      try simp only [Bool.not_eq_true', Bool.not_eq_false', decide_eq_true_eq, decide_eq_false_iff_not, ne_eq, Classical.not_not, Int.not_lt, Int.not_le] at c3
      refine W_skip ?_
      refine InB_normal ?_
      refine ⟨[_], (SubP.hsub (SubP.pick 1 (by rfl) (by exact SubP.drop (SubP.refl)))), rfl, fun j hj => ?_⟩
      obtain hj | rfl : j < k ∨ j = k := by omega
      · exact hne j hj
      · unfold Sn.empty; simp only [decide_eq_false_iff_not]; omega
  · rintro G hj
    obtain ⟨rfl, hne⟩ := hj
    have htf := l.times_full hne
    refine InB_normal ?_
    refine Then_normal ?_
    refine W_seq ?_
    refine W_region_lit (fun ds => ?_)
    refine WS_store hF (i := 1) (by rfl) (by rfl) Tryz.sizeOf4 (by rfl) (by rfl) (by rfl) (by first | decide | exact Nat.le_of_ble_eq_true rfl | simp) ?_
    refine WS_nil ?_
    refine Then_normal ?_
    refine W_ret ?_
    refine Fin_ret [_] [] Tryz.results73 ⟨lv1 (by rfl) Tryz.isAgg4 (Mem.own1 1 (by rfl) (by rfl)), trivial⟩ HSub.nil ?_
    show Value.bool true = _
    rw [l.holdsB_iff.2 fun k hk => hne k (by omega)]
  · rintro c k G hk hj
    obtain ⟨rfl, hemp, rfl⟩ := hj
    refine W_ret ?_
    refine InB_ret ?_
    refine Then_ret ?_
    refine Fin_ret [_] [] Tryz.results73 ⟨lv1 (by rfl) Tryz.isAgg4 (Mem.own1 1 (by rfl) (by rfl)), trivial⟩ HSub.nil ?_
    show Value.bool false = _
    congr 1
    cases hb : l.holdsB with
    | false => rfl
    | true => rw [Nat.add_sub_cancel, l.holdsB_iff.1 hb k (by omega)] at hemp; cases hemp
theorem kp_sorted {l : Lg} (h : l.Ok) (D : List Int) : ∀ i, i ≤ l.es.length → (∀ j, j < (l.woK D i).es.length → ∃ m, m < i ∧ (l.woK D i).e j = l.e m) ∧ ∀ j, j + 1 < (l.woK D i).es.length → ((l.woK D i).e j).day ≤ ((l.woK D i).e (j + 1)).day
  | 0, _ => ⟨fun j hj => by simp [Lg.woK, kpK] at hj, fun j hj => by simp [Lg.woK, kpK] at hj⟩
  | i + 1, hi => by
    obtain ⟨h1, h2⟩ := kp_sorted h D i (by omega)
    have hdm : ∀ a b, a ≤ b → b < l.es.length → (l.e a).day ≤ (l.e b).day := by
      intro a b hab
      induction b with
      | zero => intro _; obtain rfl : a = 0 := (by omega); exact Int.le_refl _
      | succ b ih =>
        intro hb
        by_cases hx : a = b + 1
        · subst hx; exact Int.le_refl _
        · exact Int.le_trans (ih (by omega) (by omega)) (h.mono b hb)
    by_cases hk : kpB D i = true
    · have hlen : (l.woK D (i + 1)).es.length = (l.woK D i).es.length + 1 := by rw [l.woK_len, l.woK_len, kpK_succ, if_pos hk, List.length_append]; rfl
      have he : ∀ j, j < (l.woK D i).es.length → (l.woK D (i + 1)).e j = (l.woK D i).e j := fun j hj => by
        rw [l.woK_len] at hj
        unfold Lg.woK Lg.e
        simp only
        rw [kpK_succ, if_pos hk, List.map_append]
        simp [List.getD_eq_getElem?_getD, List.getElem?_append_left, hj]
      have hl : (l.woK D (i + 1)).e (l.woK D i).es.length = l.e i := by
        rw [l.woK_len]
        unfold Lg.woK Lg.e
        simp only
        rw [kpK_succ, if_pos hk, List.map_append]
        simp [List.getD_eq_getElem?_getD]
      refine ⟨fun j hj => ?_, fun j hj => ?_⟩
      · by_cases hjl : j < (l.woK D i).es.length
        · obtain ⟨m, hm, hme⟩ := h1 j hjl
          exact ⟨m, by omega, (he j hjl).trans hme⟩
        · obtain rfl : j = (l.woK D i).es.length := by omega
          exact ⟨i, by omega, hl⟩
      · by_cases hjl : j + 1 < (l.woK D i).es.length
        · rw [he j (by omega), he (j + 1) hjl]; exact h2 j hjl
        · have hje : j + 1 = (l.woK D i).es.length := by omega
          obtain ⟨m, hm, hme⟩ := h1 j (by omega)
          rw [he j (by omega), hje, hl, hme]
          exact hdm m i (by omega) (by omega)
    · have hw : l.woK D (i + 1) = l.woK D i := by unfold Lg.woK; rw [kpK_succ, if_neg hk]
      rw [hw]
      exact ⟨fun j hj => by obtain ⟨m, hm, hme⟩ := h1 j hj; exact ⟨m, by omega, hme⟩, h2⟩
theorem Lg.Ok.wo {l : Lg} (h : l.Ok) (D : List Int) : (l.wo D).Ok := by
  obtain ⟨h1, h2⟩ := kp_sorted h D l.es.length (Nat.le_refl _)
  have hl := kpK_le D l.es.length
  have hn := h.n12
  refine ⟨h.tk, h.start, by show (l.woK D _).es.length ≤ 12; rw [l.woK_len]; omega, fun k hk => ?_, fun k hk => h2 k hk, fun k hk => ?_, fun k hk => ?_⟩
  · obtain ⟨m, hm, he⟩ := h1 k hk
    show 0 ≤ ((l.woK D _).e k).day ∧ _ ≤ _
    rw [show (l.wo D).e k = l.e m from he, he]; exact h.day m hm
  · obtain ⟨m, hm, he⟩ := h1 k hk
    rw [show (l.wo D).e k = l.e m from he]; exact h.kind m hm
  · obtain ⟨m, hm, he⟩ := h1 k hk
    rw [show (l.wo D).e k = l.e m from he]; exact h.size m hm
end Go.Proofs.YthkimgfgpphgnaaGreat.T

/- A region whose order is open, order by order: pure operations first, then the others as they are ready. No project text. -/
namespace Go.Eng
open Go.RowKit
section
variable {C : Ctx} {F : Fence} {n : Nat} {ds : List Deferred} {ops : Array Oper} {Q : Exit → Env → List Blk → Prop} {fuel : Nat} {listed : Array Bool} {e : Env} {H : List Blk}
def WA (C : Ctx) (F : Fence) (n : Nat) (ds : List Deferred) (ops : Array Oper) (Q : Exit → Env → List Blk → Prop) (fuel : Nat) (listed : Array Bool) (e : Env) (H : List Blk) : Prop :=
  ∀ w, St C H w → ∀ a, Rep n ds a e → wpAnyIn F 0 C.P .any ops (lift C n ds Q) fuel listed a w
/-- Only the normal end. -/
def OnlyQ (M : Env → List Blk → Prop) : Exit → Env → List Blk → Prop
  | .normal, e, H => M e H
  | _, _, _ => False
def Pure (P : Program) (e : Env) (o : Oper) (c : Value) : Prop := (∀ w, (execOp (ev e) o).run P w = .ok (.value c) w) ∧ ∀ w, o.about P w (ev e) = none
theorem pure_move {P : Program} {d : Option Tmp} {x : Operand} {c : Value} {ty : TypeId} {pos : String} {af : Array Edge} {g : Option (Nat × Bool)} (hx : ev e x = c) : Pure P e ⟨d, .move x, ty, pos, af, g⟩ c :=
  ⟨fun w => by simp [execOp, hx], fun _ => rfl⟩
theorem pure_add {P : Program} {d : Option Tmp} {x y : Operand} {T T' : TypeId} {m k : Int} {ty : TypeId} {pos : String} {af : Array Edge} {g : Option (Nat × Bool)} (hx : ev e x = .int .i64 m) (hy : ev e y = .int .i64 k) (h : I64 (m + k)) : Pure P e ⟨d, .binOp .add T x y T', ty, pos, af, g⟩ (.int .i64 (m + k)) :=
  ⟨fun w => by simp [execOp, hx, hy, eqGuard, binOp, Op.intArith, wrapI h], fun _ => rfl⟩
theorem pure_sub {P : Program} {d : Option Tmp} {x y : Operand} {T T' : TypeId} {m k : Int} {ty : TypeId} {pos : String} {af : Array Edge} {g : Option (Nat × Bool)} (hx : ev e x = .int .i64 m) (hy : ev e y = .int .i64 k) (h : I64 (m - k)) : Pure P e ⟨d, .binOp .sub T x y T', ty, pos, af, g⟩ (.int .i64 (m - k)) :=
  ⟨fun w => by simp [execOp, hx, hy, eqGuard, binOp, Op.intArith, wrapI h], fun _ => rfl⟩
theorem WA_take {M : Env → List Blk → Prop} (i : Nat) {o : Oper} {c : Value} (hro : F.round = none) (hi : ops[i]? = some o) (hs : Region.noSelect ops = true) (hf : (Region.free .any ops listed i && (Region.ready .any ops listed).contains i && dOk n o.dst) = true) (hg : o.guard = none)
    (hp : Pure C.P e o c) (h : WA C F n ds ops (OnlyQ M) fuel (listed.setIfInBounds i true) (updo e o.dst c) H) : WA C F n ds ops (OnlyQ M) (fuel + 1) listed e H := fun w hw a ha => by
  simp only [Bool.and_eq_true] at hf
  refine wpAnyIn_take hro hi hs hf.1.1 hf.1.2 (fun c a w hq => ?_) ⟨.inl ⟨?_, fun w => ?_⟩, fun w => ?_⟩ (h w hw _ (ha.put o.dst hf.2))
  · obtain ⟨_, _, _, _, hq⟩ := hq; exact hq.elim
  · unfold Region.wanted; rw [hg]
  · rw [ha.eval]; exact hp.1 w
  · rw [ha.eval]; exact hp.2 w
def NextQ (M : Env → List Blk → Prop) (N : Env → List Blk → Prop) : Exit → Env → List Blk → Prop
  | .normal, e, H => N e H
  | x, e, H => OnlyQ M x e H
theorem WA_op {M : Env → List Blk → Prop} {i : Nat} {o : Oper} (hi : ops[i]? = some o) (h : WS C F n ds ops (NextQ M fun e H => WA C F n ds ops (OnlyQ M) fuel (listed.setIfInBounds i true) e H) [o] e H) (w : World) (hw : St C H w) (a : Act) (ha : Rep n ds a e) :
    wpOpIn F 0 C.P ops (lift C n ds (OnlyQ M)) i (wpAnyIn F 0 C.P .any ops (lift C n ds (OnlyQ M)) fuel (listed.setIfInBounds i true)) a w := by
  have h1 := h w hw a ha
  unfold wpOpIn
  rw [hi]
  simp only []
  have hk : ∀ a w, lift C n ds (NextQ M fun e H => WA C F n ds ops (OnlyQ M) fuel (listed.setIfInBounds i true) e H) .normal a w → wpAnyIn F 0 C.P .any ops (lift C n ds (OnlyQ M)) fuel (listed.setIfInBounds i true) a w := fun a w ⟨e', H', g1, g2, g3⟩ => g3 w g2 a g1
  have hq : ∀ x, x ≠ .normal → ∀ a w, lift C n ds (NextQ M fun e H => WA C F n ds ops (OnlyQ M) fuel (listed.setIfInBounds i true) e H) x a w → lift C n ds (OnlyQ M) x a w := fun x hx a w ⟨e', H', g1, g2, g3⟩ => ⟨e', H', g1, g2, by cases x <;> first | exact g3 | exact absurd rfl hx⟩
  unfold wpListIn at h1
  split at h1
  · rename_i hwt
    rw [if_pos hwt]
    exact wpIn_to hk hq h1
  · rename_i hwt
    rw [if_neg hwt]
    exact ⟨h1.1, hk _ _ h1.2⟩
theorem WA_step1 {M : Env → List Blk → Prop} (i : Nat) {o : Oper} (hr : Region.ready .any ops listed = [i]) (hi : ops[i]? = some o)
    (h : WS C F n ds ops (NextQ M fun e H => WA C F n ds ops (OnlyQ M) fuel (listed.setIfInBounds i true) e H) [o] e H) : WA C F n ds ops (OnlyQ M) (fuel + 1) listed e H := fun w hw a ha => by
  refine wpAnyIn_all hr (by simp) fun k hk => ?_
  obtain rfl := List.mem_singleton.1 hk
  exact WA_op hi h w hw a ha
theorem WA_step2 {M : Env → List Blk → Prop} (i j : Nat) {o p : Oper} (hr : Region.ready .any ops listed = [i, j]) (hi : ops[i]? = some o) (hj : ops[j]? = some p)
    (h : WS C F n ds ops (NextQ M fun e H => WA C F n ds ops (OnlyQ M) fuel (listed.setIfInBounds i true) e H) [o] e H)
    (h' : WS C F n ds ops (NextQ M fun e H => WA C F n ds ops (OnlyQ M) fuel (listed.setIfInBounds j true) e H) [p] e H) : WA C F n ds ops (OnlyQ M) (fuel + 1) listed e H := fun w hw a ha => by
  refine wpAnyIn_all hr (by simp) fun k hk => ?_
  rcases List.mem_cons.1 hk with rfl | hk
  · exact WA_op hi h w hw a ha
  · obtain rfl := List.mem_singleton.1 hk
    exact WA_op hj h' w hw a ha
theorem WA_step3 {M : Env → List Blk → Prop} (i j k : Nat) {o p q : Oper} (hr : Region.ready .any ops listed = [i, j, k]) (hi : ops[i]? = some o) (hj : ops[j]? = some p) (hk : ops[k]? = some q)
    (h : WS C F n ds ops (NextQ M fun e H => WA C F n ds ops (OnlyQ M) fuel (listed.setIfInBounds i true) e H) [o] e H)
    (h' : WS C F n ds ops (NextQ M fun e H => WA C F n ds ops (OnlyQ M) fuel (listed.setIfInBounds j true) e H) [p] e H)
    (h'' : WS C F n ds ops (NextQ M fun e H => WA C F n ds ops (OnlyQ M) fuel (listed.setIfInBounds k true) e H) [q] e H) : WA C F n ds ops (OnlyQ M) (fuel + 1) listed e H := fun w hw a ha => by
  refine wpAnyIn_all hr (by simp) fun t ht => ?_
  rcases List.mem_cons.1 ht with rfl | ht
  · exact WA_op hi h w hw a ha
  · rcases List.mem_cons.1 ht with rfl | ht
    · exact WA_op hj h' w hw a ha
    · obtain rfl := List.mem_singleton.1 ht
      exact WA_op hk h'' w hw a ha
theorem WA_done {M : Env → List Blk → Prop} (hr : Region.ready .any ops listed = []) (h : M e H) : WA C F n ds ops (OnlyQ M) fuel listed e H := fun _ hw _ ha => wpAnyIn_done hr ⟨e, H, ha, hw, h⟩ fuel
theorem W_tailA {id : Nat} {l : List Oper} (m : Nat) (hm : C.P.follows .mixedOrders = true) (M : Env → List Blk → Prop)
    (hph : (tailB l.toArray m && Nat.ble m l.length) = true)
    (hrest : ∀ ds e H, M e H → WS (C.at ds) F n ds l.toArray Q (l.drop m) e H) (hp : ∀ ds, WA (C.at ds) F n ds (l.take m).toArray (OnlyQ M) m (Array.replicate m false) e H) :
    W C F n ds (.region id l.toArray true) Q e H := fun dd w hw a ha => by
  simp only [Bool.and_eq_true] at hph
  obtain ⟨ht, hml⟩ := hph
  have hml : m ≤ l.length := Nat.le_of_ble_eq_true hml
  have hlen : (l.take m).length = m := by simp; omega
  have hl : l.take m ++ l.drop m = l := List.take_append_drop m l
  have ht' : Tail (l.take m ++ l.drop m).toArray (l.take m).length := by rw [hl, hlen]; exact tail_of ht
  have hd : ∀ i k, edge (l.take m).toArray i k = true → k < i := fun i k hk => by
    have hi : i < (l.take m).length := by simpa using edge_lt hk
    refine ht'.down i k ?_
    unfold edge at hk ⊢
    rwa [show (l.take m ++ l.drop m).toArray[i]? = (l.take m).toArray[i]? by rw [List.getElem?_toArray, List.getElem?_toArray, List.getElem?_append_left hi]]
  refine wpIn_mono (Q := lift (C.at dd) n dd Q) (wpIn_region_any hm ?_) fun _ _ _ h => lift_M h
  have h1 := hp dd w.drew ⟨hw.drew.1, hw.drew.2, hw.drew.3⟩ a ha
  have h2 := tail_any (P := C.P) (F := F) (pre := l.take m) (post := l.drop m) (Q := lift (C.at dd) n dd Q) (Q' := lift (C.at dd) n dd (OnlyQ M)) ht' hd
    (fun x hx a w ⟨e, H, g1, g2, g3⟩ => by cases x <;> first | exact g3.elim | exact absurd rfl hx) (fun a w ⟨e, H, g1, g2, g3⟩ => by rw [hl]; exact hrest dd e H g3 w g2 a g1)
    m l.toArray.size (Array.replicate m false) a w.drew (by simp [hlen]) (fun j k hj => by
      unfold Lst at hj
      rw [Array.getD_eq_getD_getElem?, Array.getElem?_replicate] at hj
      split at hj <;> cases hj) (by simp; omega) h1
  rw [hl] at h2
  have hrep : Array.replicate m false ++ Array.replicate (l.drop m).length false = Array.replicate l.toArray.size false := by
    rw [Array.replicate_append_replicate]
    congr 1
    simp; omega
  rw [hrep] at h2
  exact h2
end
end Go.Eng

/- Dips that must be false: the walks of the closures. -/
namespace Go.Proofs.YthkimgfgpphgnaaGreat.T
open Go.RowKit Go.Proofs Go.Eng
set_option maxRecDepth 100000
set_option linter.unusedVariables false
set_option linter.unusedSimpArgs false



section
variable {C : Ctx} {e : Env} {H : List Blk} {d : Option Tmp} {ty : TypeId} {pos : String} {af : Array Edge} {g : Option (Nat × Bool)}
theorem y_eqlNil {x y : Operand} {T E T' : TypeId} {a : Option Addr} {n c : Nat} (hx : ev e x = .slice a n c) (hy : ev e y = .slice none 0 0) (hT : ∀ w, (underlying T).run C.P w = .ok (.slice E) w) : YD C ⟨d, .binOp .eql T x y T', ty, pos, af, g⟩ e H (.bool a.isNone) := yd_of fun w _ => by
  have h : (Op.equalIn Op.maxDepth T (.slice a n c) (.slice none 0 0)).run C.P w = .ok a.isNone w := by
    unfold Op.maxDepth Op.equalIn
    rw [Sem.run_bind, hT]
    cases a <;> simp
  simp [execOp, hx, hy, eqGuard, binOp, Op.equal, h]
end
theorem Row.ints {C : Ctx} {H Hn : List Blk} {T : TypeId} {a : Option Addr} {n cap : Nat} {xs : List Int} (h : Row T 1 a n cap (iv xs) Hn) (hl : xs.length = n) (hs : Hn.Sublist H) (w : World) (hw : St C H w) : Ints w a n cap xs := by
  rcases h with ⟨rfl, rfl, rfl, _, rfl⟩ | ⟨b, junk, rfl, rfl, h1, h2, h3⟩
  · rw [List.length_eq_zero_iff.1 hl]; exact Ints.nil _ _ _
  · exact Ints.mem (rest := junk) 0 rfl hl h3 w (hw.sub hs)
theorem clone_any (ta : Option Addr) (tn tcap : Nat) (D : List Int) (w : World) (hD : Ints w ta tn tcap D) (htn : tn ≤ 1000000) (hnil : ta = none ∧ tn = 0 ∨ ta ≠ none ∧ 0 < tn) :
    Ct Tryz.prog 70 #[.slice ta tn tcap] w fun v Hn => ∃ a' cap', v = .slice a' tn cap' ∧ Row 3 1 a' tn cap' (iv D) Hn ∧ (a' = none ∧ tn = 0 ∨ a' ≠ none ∧ 0 < tn) := by
  have hlen : (iv D).length = tn * 1 := by rw [Nat.mul_one]; exact (List.length_map _).trans hD.len
  have hF := wide_wide
  refine Ct_start (args := [_]) Tryz.func70 (by rfl) Tryz.ntmps70 (by rfl) ?_
  refine W_seq ?_
  refine W_region_lit (fun ds => ?_)
  refine WS_det hF (by rfl) (y_assign (c := .slice _ _ _) (by rfl)) ?_
  refine WS_nil ?_
  refine Then_normal ?_
  refine W_seq ?_
  refine W_seq ?_
  refine W_region_lit (fun ds => ?_)
  refine WS_det hF (by rfl) (y_move (c := .slice _ _ _) (by rfl)) ?_
  refine WS_det hF (by rfl) (y_eqlNil (by rfl) (by rfl) Tryz.runUnderlying22) ?_
  refine WS_nil ?_
  refine Then_normal ?_
  refine W_cond (by rfl) (fun c1 => ?_) (fun c1 => ?_)
  ·
    try simp only [Bool.not_eq_true', Bool.not_eq_false', decide_eq_true_eq, decide_eq_false_iff_not, ne_eq, Classical.not_not, Int.not_lt, Int.not_le] at c1
    have ht : ta = none ∧ tn = 0 := by
      rcases hnil with h | h
      · exact h
      · cases ta with
        | none => exact absurd rfl h.1
        | some _ => cases c1
    obtain ⟨rfl, rfl⟩ := ht
    obtain rfl : D = [] := List.length_eq_zero_iff.1 hD.len
    refine W_seq ?_
    refine W_region_lit (fun ds => ?_)
    refine WS_det hF (by rfl) (y_assign (c := .slice _ _ _) (by rfl)) ?_
    refine WS_nil ?_
    refine Then_normal ?_
    refine W_ret ?_
    refine Then_ret ?_
    refine Fin_ret [.slice _ _ _] [] Tryz.results70 ⟨by rfl, trivial⟩ HSub.nil ?_
    exact ⟨none, 0, rfl, Row.nil 3 1, .inl ⟨rfl, rfl⟩⟩
  ·
    try simp only [Bool.not_eq_true', Bool.not_eq_false', decide_eq_true_eq, decide_eq_false_iff_not, ne_eq, Classical.not_not, Int.not_lt, Int.not_le] at c1
    have ht : ta ≠ none ∧ 0 < tn := by
      rcases hnil with h | h
      · rw [h.1] at c1; cases c1
      · exact h
    refine W_skip ?_
    refine Then_normal ?_
    refine W_seq ?_
    refine W_region_lit (fun ds => ?_)
    refine WS_newS hF (by rfl) (y_buildSliceL bs22_0 (by rfl)) (fun b1 => ?_)
    refine WS_det hF (by rfl) (y_move (c := .slice _ _ _) (by rfl)) ?_
    refine WS_gen hF (by rfl) (y_append0 (by rfl) (by rfl) Tryz.underlying22 infInt (by rfl) hD.src hlen (by omega) (by omega)) ?_
    rintro _ Hc hrow
    obtain ⟨a', cap', rfl, hle, ⟨hm, b, junk, rfl, rfl, hl2⟩ | ⟨h0, _⟩⟩ := hrow
    case inr => omega
    refine WS_det hF (by rfl) (y_assign (c := .slice _ _ _) (by rfl)) ?_
    refine WS_nil ?_
    refine Then_normal ?_
    refine W_ret ?_
    refine Fin_ret [.slice _ _ _] [(b, _)] Tryz.results70 ⟨by rfl, trivial⟩ (HSub.sub (by repeat (first | exact List.Sublist.refl _ | exact List.sublist_append_left _ _ | exact List.nil_sublist _ | apply List.Sublist.cons_cons | apply List.Sublist.cons | refine List.Sublist.trans ?_ (List.sublist_append_right _ _)))) ?_
    exact ⟨_, _, rfl, .inr ⟨b, junk, rfl, rfl, hlen, hl2, hle⟩, .inr ⟨by simp, hm⟩⟩
theorem w2_cs (w0 : World) (ds0 out0 : List Deferred) (pf pb bk g : Nat) (l : Lg) (a : Option Addr) (cap : Nat) (ae : Option Addr) (cape : Nat) (s0 : Value) (ta : Option Addr) (tn tcap : Nat) (D : List Int) (Ht L : List Blk)
    (hok : l.Ok) (hx : Ints w0 a l.tk.n cap l.tk.pints) (he : Ens w0 ae l.es.length cape l.es) (hrow : Row 3 1 ta tn tcap (iv D) Ht) (hD : D.length = tn) (htn : tn ≤ 1000) (hsub : Ht.Sublist L) :
    Cs ⟨Tryz.prog, w0, ds0, out0⟩ 71 #[.slice ta tn tcap, .pointer (some ⟨pf, 0, none⟩), .pointer (some ⟨pb, 0, none⟩)]
      ((pf, CB [s0] 22) :: (pb, CB [.pointer (some ⟨bk, 0, none⟩)] 76) :: (bk, CB (bookCells g l a cap ae cape) 91) :: (g, CB (gaugeCells l.tk a cap) 95) :: L)
      fun v H' => v = .bool (!(l.wo D).holdsB) ∧ H' = (pf, CB [.slice ta tn tcap] 22) :: (pb, CB [.pointer (some ⟨bk, 0, none⟩)] 76) :: (bk, CB (bookCells g l a cap ae cape) 91) :: (g, CB (gaugeCells l.tk a cap) 95) :: L := by
  have hF := wide_wide
  refine Cs_start (args := [_, _, _]) Tryz.func71 (by rfl) Tryz.ntmps71 (by rfl) ?_
  refine W_seq ?_
  refine W_region_lit (fun ds => ?_)
  refine WS_det hF (by rfl) (y_assign (c := .bool _) (by rfl)) ?_
  refine WS_nil ?_
  refine Then_normal ?_
  refine W_seq ?_
  refine W_region_lit (fun ds => ?_)
  refine WS_det hF (by rfl) (y_move (c := .slice _ _ _) (by rfl)) ?_
  refine WS_store hF (i := 0) (by rfl) (by rfl) Tryz.sizeOf22 (by rfl) (by rfl) (by rfl) (by first | decide | exact Nat.le_of_ble_eq_true rfl | simp) ?_
  refine WS_nil ?_
  refine Then_normal ?_
  refine W_seq ?_
  refine W_region_lit (fun ds => ?_)
  refine WS_det hF (by rfl) (y_load1 (by rfl) Tryz.isAgg76 (Mem.own1 1 (by rfl) (by rfl))) ?_
  refine WS_det hF (by rfl) (y_move (c := .slice _ _ _) (by rfl)) ?_
  refine WS_gen hF (by rfl) (y_callL (by rfl) (by rfl) Tryz.call72 (fun w hw => without_any bk g l a cap ae cape ta tn tcap D w hok (At.block0 (by repeat (first | exact List.mem_cons_self | apply List.mem_cons_of_mem)) w hw) (he.st w hw) (Row.ints hrow hD (hsub.trans (by repeat (first | exact List.Sublist.refl _ | exact List.sublist_append_left _ _ | exact List.nil_sublist _ | apply List.Sublist.cons_cons | apply List.Sublist.cons | refine List.Sublist.trans ?_ (List.sublist_append_right _ _)))) w hw) (by omega))) ?_
  rintro _ _ ⟨cb, ae2, cape2, H2, rfl, rfl, hrow2⟩
  refine WS_det hF (by rfl) (y_callL (by rfl) (by rfl) Tryz.call73 (fun w hw => holds2_any cb (l.wo D) w ⟨hok.wo D, g, a, cap, ae2, cape2, At.block0 (by repeat (first | exact List.mem_cons_self | apply List.mem_cons_of_mem | apply List.mem_append_right)) w hw, Gg.own (by repeat (first | exact List.mem_cons_self | apply List.mem_cons_of_mem | apply List.mem_append_right)) (Tk.ok_iff.2 hok.tk) hx w hw, Row.rws en_len hrow2 rfl (by repeat (first | exact List.Sublist.refl _ | exact List.sublist_append_left _ _ | exact List.nil_sublist _ | apply List.Sublist.cons_cons | apply List.Sublist.cons | refine List.Sublist.trans ?_ (List.sublist_append_right _ _))) w hw⟩)) ?_
  refine WS_det hF (by rfl) (y_not (by rfl)) ?_
  refine WS_det hF (by rfl) (y_assign (c := .bool _) (by rfl)) ?_
  refine WS_nil ?_
  refine Then_normal ?_
  refine W_ret ?_
  refine Fin_ret [.bool _] ((pf, _) :: (pb, _) :: (bk, _) :: (g, _) :: L) Tryz.results71 ⟨by rfl, trivial⟩ ((SubP.hsub (by exact SubP.drop (SubP.dropL (X := H2) (SubP.refl))))) ?_
  exact ⟨rfl, rfl⟩
end Go.Proofs.YthkimgfgpphgnaaGreat.T

namespace Go.Eng
open Go.RowKit
section
variable {C : Ctx} {F : Fence} {n : Nat} {ds : List Deferred} {Q : Exit → Env → List Blk → Prop} {e : Env} {H : List Blk}
def NoG (Q : Exit → Env → List Blk → Prop) : Exit → Env → List Blk → Prop
  | .goto _, _, _ => False
  | x, e, H => Q x e H
theorem NoG_ret (h : Q .ret e H) : NoG Q .ret e H := h
theorem W_scope {c : Code} (h : W C Fence.wide n ds c (NoG Q) e H) : W C Fence.wide n ds (.scope c) Q e H := fun dd w hw a ha => by
  have h1 := h dd w hw a ha
  rw [wpIn_wide] at h1 ⊢
  refine wp_scope_straight ?_
  rw [← wpIn_wide (n := 0)] at h1 ⊢
  refine wpIn_mono h1 ?_
  rintro x a' w' ⟨d', e', H', g1, g2, g3⟩
  cases x with
  | goto l => exact g3.elim
  | _ => exact ⟨d', e', H', g1, g2, g3⟩
end
end Go.Eng
