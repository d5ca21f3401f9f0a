/- What the examples on cans come to. -/
import Derived.Test.YtjekjehgmljbgaaGreatDoorMb6
import Derived.Shelf.Spec.SlicesGrow
import Derived.Test.YtjekjehgmljbgaaGreatDoorMb4
set_option linter.unusedVariables false
set_option linter.unusedSimpArgs false
namespace Go.Proofs.YtjekjehgmljbgaaGreatDoor.T
open Go.RowKit Go.Proofs Go.Eng
set_option maxRecDepth 100000
set_option maxHeartbeats 1000000
theorem bs108_1_0 {x0_0 : Int} {x0_1 : Int} {x0_2 : Int} {x0_3 : Int} : ∀ w, (Instr.buildSlice 108 1 #[(0, .agg #[.int .i64 x0_0, .int .i64 x0_1, .int .i64 x0_2, .int .i64 x0_3])]).run Tryz.prog w = .ok (.slice (some ⟨w.heap.size, 0, none⟩) 1 1) (w.alloc (CB [.int .i64 x0_0, .int .i64 x0_1, .int .i64 x0_2, .int .i64 x0_3] 106)) := fun w => by kernel_rfl
theorem bs34_1_0 {x0_0a : Option Addr} {x0_0l x0_0c : Nat} {x0_1a : Option Addr} {x0_1l x0_1c : Nat} {x0_2 : Int} : ∀ w, (Instr.buildSlice 34 1 #[(0, .agg #[.slice x0_0a x0_0l x0_0c, .slice x0_1a x0_1l x0_1c, .int .i64 x0_2])]).run Tryz.prog w = .ok (.slice (some ⟨w.heap.size, 0, none⟩) 1 1) (w.alloc (CB [.slice x0_0a x0_0l x0_0c, .slice x0_1a x0_1l x0_1c, .int .i64 x0_2] 24)) := fun w => by kernel_rfl
structure Bl where
 x : Co
 s : Option Addr
 ks : Nat
 i : Option Addr
 ki : Nat
def Bl.z : Bl := ⟨Co.z, none, 0, none, 0⟩
def Bl.cells (c : Cn) (b : Bl) : List Value := [.slice b.s c.n b.ks, .slice b.i (c.of b.x).inn.length b.ki, .int .i64 b.x.a]
theorem bl_len (c : Cn) : ∀ b, (Bl.cells c b).length = 3 := fun _ => rfl
structure Bl.RdH (c : Cn) (HH : List Blk) (b : Bl) : Prop where
 s : ∀ (C : Ctx) (H : List Blk) (w : World), HH.Sublist H → St C H w → Ints w b.s c.n b.ks c.sz
 i : ∀ (C : Ctx) (H : List Blk) (w : World), HH.Sublist H → St C H w → Ints w b.i (c.of b.x).inn.length b.ki (c.of b.x).inn
 os : OwnR HH 3 1 b.s c.n
 oi : OwnR HH 3 1 b.i (c.of b.x).inn.length
theorem ownR_mono {S0 S1 : List Blk} {T : TypeId} {sz n : Nat} {a : Option Addr} (h : OwnR S0 T sz a n) (hs : ∀ x ∈ S0, x ∈ S1) : OwnR S1 T sz a n := by
 rcases h with h | ⟨b, vs, h1, h2, h3⟩
 ·exact .inl h
 ·exact .inr ⟨b, vs, h1, hs _ h2, h3⟩
theorem Bl.RdH.mono {c : Cn} {HH HH' : List Blk} {b : Bl} (h : b.RdH c HH) (hs : HH.Sublist HH') : b.RdH c HH' :=
 ⟨fun C H w h1 hw => h.s C H w (hs.trans h1) hw, fun C H w h1 hw => h.i C H w (hs.trans h1) hw, ownR_mono h.os fun x hx => hs.mem hx, ownR_mono h.oi fun x hx => hs.mem hx⟩
theorem Bl.RdH.new {c : Cn} {x : Co} {z1 z2 : Option Addr} {q1 q2 : Nat} {H1 H2 HX : List Blk} (h1 : NewRow 3 1 c.n (iv c.sz) (.slice z1 c.n q1) H1) (h2 : NewRow 3 1 (c.of x).inn.length (iv (c.of x).inn) (.slice z2 (c.of x).inn.length q2) H2) : (⟨x, z1, q1, z2, q2⟩ : Bl).RdH c (HX ++ (H1 ++ H2)) :=
 ⟨fun C H w h hw => NewRow.ints h1 rfl (((List.sublist_append_left _ _).trans (List.sublist_append_right _ _)).trans h) w hw, fun C H w h hw => NewRow.ints h2 rfl (((List.sublist_append_right _ _).trans (List.sublist_append_right _ _)).trans h) w hw, h1.own fun y hy => List.mem_append_right _ (List.mem_append_left _ hy), h2.own fun y hy => List.mem_append_right _ (List.mem_append_right _ hy)⟩
def blRow (c : Cn) (bs : List Bl) : List Value := rowOf (Bl.cells c) (fun k => bs.getD k Bl.z) bs.length
theorem blRow_len (c : Cn) (bs : List Bl) : (blRow c bs).length = bs.length * 3 := rowOf_len (bl_len c) _ _
theorem blRow_snoc (c : Cn) (bs : List Bl) (y : Bl) : blRow c (bs ++ [y]) = blRow c bs ++ y.cells c := by
 unfold blRow
 rw [List.length_append, List.length_singleton, rowOf_succ]
 congr 1
 ·exact rowOf_congr _ fun k hk => by simp [List.getD_eq_getElem?_getD, List.getElem?_append_left hk]
 ·simp [List.getD_eq_getElem?_getD]
def BefV (c : Cn) (p : Po) (v : Value) (Hn : List Blk) : Prop := ∃ (e : Int) (bs : List Bl) (a : Option Addr) (cap : Nat) (Hr HX : List Blk), v = .tuple #[.slice a bs.length cap, .int .i64 e] ∧ c.Bef p e (bs.map Bl.x) ∧ NewRow 24 3 bs.length (blRow c bs) (.slice a bs.length cap) Hr ∧ (∀ b ∈ bs, b.RdH c HX) ∧ Shp HX HX ∧ Hn = HX ++ Hr
theorem BefV.emp {c : Cn} {p : Po} {e : Int} (h : c.Bef p e []) : BefV c p (.tuple #[.slice none 0 0, .int .i64 e]) [] :=
 ⟨e, [], none, 0, [], [], rfl, h, ⟨none, 0, rfl, Nat.le_refl _, .inr ⟨rfl, rfl, rfl⟩⟩, fun b h => (by cases h), .nil, rfl⟩
theorem infCo : (Tryz.prog.info? 106).map (fun i => (i.zero, i.size, i.bytes)) = some (some (.agg #[.int .i64 0, .int .i64 0, .int .i64 0, .int .i64 0]), 4, 32) := by kernel_rfl
theorem infCans : (Tryz.prog.info? 24).map (fun i => (i.zero, i.size, i.bytes)) = some (some (.agg #[.slice none 0 0, .slice none 0 0, .int .i64 0]), 3, 56) := by kernel_rfl
theorem map_take_snoc {α β : Type} {f : α → β} {bs : List α} {ys : List β} {y : α} {i : Nat} {z : β} (h : bs.map f = ys.take i) (hi : i < ys.length) (hy : f y = ys.getD i z) : (bs ++ [y]).map f = ys.take (i + 1) := by
 rw [List.map_append, h, List.take_succ_eq_append_getElem hi, List.map_cons, List.map_nil, hy]
 congr 2
 simp [List.getD_eq_getElem?_getD, hi]
theorem a_pc0 {u : Co} : ∀ w, (part 3 u.cells.toArray 0).run Tryz.prog w = .ok (.int .i64 u.a) w := fun w => by kernel_rfl
theorem a_pc1 {u : Co} : ∀ w, (part 3 u.cells.toArray 1).run Tryz.prog w = .ok (.int .i64 u.b) w := fun w => by kernel_rfl
theorem a_pc2 {u : Co} : ∀ w, (part 3 u.cells.toArray 2).run Tryz.prog w = .ok (.int .i64 u.c) w := fun w => by kernel_rfl
theorem a_pc3 {u : Co} : ∀ w, (part 3 u.cells.toArray 3).run Tryz.prog w = .ok (.int .i64 u.d) w := fun w => by kernel_rfl
theorem eqI_co {u v : Co} : ∀ w, (Op.equalIn Op.maxDepth 106 (.agg u.cells.toArray) (.agg v.cells.toArray)).run Tryz.prog w = .ok (ieq u.a v.a && (ieq u.b v.b && (ieq u.c v.c && ieq u.d v.d))) w := fun w => by
 unfold Op.maxDepth Op.equalIn
 rw [Sem.run_bind, Tryz.runUnderlying106]
 simp [List.range', Tryz.sizeOf3, a_pc0, a_pc1, a_pc2, a_pc3, eq_int (d := 9998) Tryz.runUnderlying3]
 generalize ieq u.a v.a = b0
 generalize ieq u.b v.b = b1
 generalize ieq u.c v.c = b2
 generalize ieq u.d v.d = b3
 cases b0 <;> cases b1 <;> cases b2 <;> cases b3 <;> simp
theorem a_gco {x y : Operand} {u v : Co} : ∀ w, (eqGuard .eql 106 x y (.agg u.cells.toArray) (.agg v.cells.toArray)).run Tryz.prog w = .ok () w := fun w => by kernel_rfl
theorem ieq_co (u v : Co) : (ieq u.a v.a && (ieq u.b v.b && (ieq u.c v.c && ieq u.d v.d))) = decide (u = v) := by
 obtain ⟨a, b, c, d⟩ := u
 obtain ⟨a', b', c', d'⟩ := v
 unfold ieq
 rw [Bool.eq_iff_iff]
 simp
theorem eqOp_co {x y : Operand} {u v : Co} : ∀ w, ((do eqGuard .eql 106 x y (.agg u.cells.toArray) (.agg v.cells.toArray); binOp .eql 106 (.agg u.cells.toArray) (.agg v.cells.toArray)) : Sem Value).run Tryz.prog w = .ok (.bool (decide (u = v))) w := eq_top a_gco (by rw [← ieq_co]; exact eqI_co)
theorem perm_3 {HX Ha H1 H2 : List Blk} : ((HX ++ Ha).append (H1 ++ H2)).Perm (HX ++ (H1 ++ (H2 ++ Ha))) := by
 show ((HX ++ Ha) ++ (H1 ++ H2)).Perm _
 rw [List.append_assoc]
 refine List.Perm.append_left HX ?_
 rw [← List.append_assoc H1 H2 Ha]
 exact List.perm_append_comm
theorem cbefore_any (c : Cn) (a1 : Option Addr) (p1 : Nat) (a2 : Option Addr) (p2 : Nat) (p : Po) (w : World) (hG : Gv w) (hn : c.n ≤ 1000000) (hm : c.inn.length ≤ 1000000) (h1 : Ints w a1 c.n p1 c.sz) (h2 : Ints w a2 c.inn.length p2 c.inn) : Ct Tryz.prog 22 #[.agg #[.slice a1 c.n p1, .slice a2 c.inn.length p2, .int .i64 c.st], .agg p.cells.toArray] w (BefV c p) := by
 obtain ⟨pf, pt⟩ := p
 have hF := wide_wide
 refine Ct_start (args := [_, _]) Tryz.func22 rf Tryz.ntmps22 rf ?_
 refine zR fun ds => ?_
 refine WS_new hF rf (y_box rf) (fun b1 => ?_)
 refine WS_new hF rf (y_box rf) (fun b2 => ?_)
 refine za (.slice _ _ _) hF ?_
 refine za (.int .i64 _) hF ?_
 refine zN ?_
 refine W_scope ?_
 refine W_seq ?_
 refine zR fun ds => ?_
 refine zD hF (y_loadN rf Tryz.isAgg24 Tryz.sizeOf24 (Mem.own (us := [.slice _ _ _, .slice _ _ _, .int .i64 _]) 1 rf rf) rf) ?_
 refine zD hF (y_callL rf rf Tryz.call47 (fun w hw => ccheck_any c a1 p1 a2 p2 w (hG.st w hw) hn hm (h1.st w hw) (h2.st w hw))) ?_
 refine za (.int .i64 _) hF ?_
 refine zP fun ds => ?_
 refine zm (.int .i64 _) hF ?_
 refine zD hF (y_neq rf rf) ?_
 refine zN ?_
 refine W_cond rf (fun c2 => ?_) (fun c2 => ?_)
 ·
  try simp only [qz1, qz2, qz3, qz4, qz5, qz6, qz7, qz8] at c2
  refine zR fun ds => ?_
  refine zm (.int .i64 _) hF ?_
  refine za (.slice _ _ _) hF ?_
  refine za (.int .i64 _) hF ?_
  refine zN ?_
  refine W_ret ?_
  refine Then_ret ?_
  refine NoG_ret ?_
  refine Fin_ret [.slice _ _ _, .int .i64 _] [] Tryz.results22 ⟨by rfl, by rfl, trivial⟩ HSub.nil ?_
  obtain ⟨h3, h4⟩ := Cn.err_no c2
  rw [h4]
  exact BefV.emp (by unfold Cn.Bef; rw [if_neg (by rw [h3]; decide)]; exact ⟨rfl, rfl⟩)
 ·
  try simp only [qz1, qz2, qz3, qz4, qz5, qz6, qz7, qz8] at c2
  have hokB := Cn.err_iff.1 c2
  have hok := Cn.ok_iff.1 hokB
  have hn3 := hok.n3
  have hlen := hok.len
  refine W_skip ?_
  refine zS fun ds => ?_
  refine zD hF (y_loadN rf Tryz.isAgg24 Tryz.sizeOf24 (Mem.own (us := [.slice _ _ _, .slice _ _ _, .int .i64 _]) 1 rf rf) rf) ?_
  refine zD hF (y_buildL bd92_0 rf) ?_
  refine WS_new hF rf (y_alloc Tryz.zeroValue92 rf) (fun bb => ?_)
  refine WS_store hF (us := [.slice _ _ _, .slice _ _ _, .int .i64 _]) (i := 0) rf rf Tryz.sizeOf92 rf rf rf d20 ?_
  refine zO ?_
  refine zR fun ds => ?_
  refine zD hF (y_loadN rf Tryz.isAgg92 Tryz.sizeOf92 (Mem.own (us := [.slice _ _ _, .slice _ _ _, .int .i64 _]) 0 rf rf) rf) ?_
  refine zD hF (y_loadN rf Tryz.isAgg47 Tryz.sizeOf47 (Mem.own (us := [.int .i64 _, .int .i64 _]) 1 rf rf) rf) ?_
  refine zD hF (y_callL rf rf Tryz.call57 (fun w hw => bvalid_any c a1 p1 a2 p2 ⟨pf, pt⟩ w)) ?_
  refine zD hF (y_not rf) ?_
  refine zN ?_
  refine W_cond rf (fun c5 => ?_) (fun c5 => ?_)
  ·
   try simp only [qz1, qz2, qz3, qz4, qz5, qz6, qz7, qz8] at c5
   refine zR fun ds => ?_
   refine za (.slice _ _ _) hF ?_
   refine za (.int .i64 _) hF ?_
   refine zN ?_
   refine W_ret ?_
   refine Then_ret ?_
   refine NoG_ret ?_
   refine Fin_ret [.slice _ _ _, .int .i64 _] [] Tryz.results22 ⟨by rfl, by rfl, trivial⟩ HSub.nil ?_
   exact BefV.emp (by unfold Cn.Bef; rw [if_pos hokB, if_neg (by rw [c5]; decide)]; exact ⟨rfl, rfl⟩)
  ·
   try simp only [qz1, qz2, qz3, qz4, qz5, qz6, qz7, qz8] at c5
   have hvB := c5
   obtain ⟨⟨hf0, hf1⟩, ⟨ht0, ht1⟩, hne⟩ := Cn.vld_iff.1 c5
   simp only at hf0 hf1 ht0 ht1 hne
   obtain ⟨f, rfl⟩ := Int.eq_ofNat_of_zero_le hf0
   obtain ⟨t, rfl⟩ := Int.eq_ofNat_of_zero_le ht0
   have hf : f ≤ c.n := by omega
   have ht : t ≤ c.n := by omega
   have hft : f ≠ t := by omega
   have hp : c.Fp f t := ⟨hf, ht, hft⟩
   obtain ⟨e1, hd1⟩ := c.co.drop (k := f) om0
   have hci := hok.co_in
   have hl1 := hci.lo f om0
   have hl2 := hci.lo t om0
   have hr : ∀ k, k ≤ c.n → 0 ≤ c.room k ∧ c.room k ≤ 600 := fun k hk => by
    cases k with
    | zero => exact ⟨by show (0 : Int) ≤ 600; omega, by show (600 : Int) ≤ 600; omega⟩
    | succ k => have := hok.s k om0; exact ⟨by show 0 ≤ c.s k; omega, by show c.s k ≤ 600; omega⟩
   have hh1 := hci.hi f hf
   have hh2 := hci.hi t ht
   have hr1 := hr f hf
   have hr2 := hr t ht
   refine W_skip ?_
   refine zS fun ds => ?_
   refine zD hF (y_loadN rf Tryz.isAgg92 Tryz.sizeOf92 (Mem.own (us := [.slice _ _ _, .slice _ _ _, .int .i64 _]) 0 rf rf) rf) ?_
   refine zD hF (y_callL rf rf Tryz.call58 (fun w hw => bstart_any c a1 p1 a2 p2 w hok hn hm (h1.st w hw) (h2.st w hw))) ?_
   refine WS_new hF rf (y_alloc Tryz.zeroValue106 rf) (fun be => ?_)
   refine WS_store hF (us := [.int .i64 _, .int .i64 _, .int .i64 _, .int .i64 _]) (i := 0) rf rf Tryz.sizeOf106 rf rf rf d20 ?_
   refine zP fun ds => ?_
   refine za (.slice _ _ _) hF ?_
   refine zO ?_
   refine W_label ?_
   refine Then_normal ?_
   refine W_seq ?_
   refine zR fun ds => ?_
   refine zm (.int .i64 _) hF ?_
   refine zN ?_
   refine W_block ?_
   refine W_loop (γ := Nat × List Co × Option Addr × Nat × List Blk) (fun q => q.1 ≤ 21 ∧ c.BefI f t q.1 q.2.1 ∧ NewRow 106 4 q.2.1.length (cRow q.2.1) (.slice q.2.2.1 q.2.1.length q.2.2.2.1) q.2.2.2.2) (fun q => [(2, .pointer (some ⟨b1, 0, none⟩)), (3, .pointer (some ⟨b2, 0, none⟩)), (7, .pointer (some ⟨bb, 0, none⟩)), (8, .pointer (some ⟨be, 0, none⟩)), (9, .slice q.2.2.1 q.2.1.length q.2.2.2.1), (31, .int .i64 (q.1 : Int))]) (fun q => (be, CB c.co.cells 106) :: (bb, CB [.slice a1 c.n p1, .slice a2 c.inn.length p2, .int .i64 c.st] 92) :: (b2, CB [.int .i64 (f : Int), .int .i64 (t : Int)] 47) :: (b1, CB [.slice a1 c.n p1, .slice a2 c.inn.length p2, .int .i64 c.st] 24) :: q.2.2.2.2) (fun q => 21 - q.1) ((0, [], none, 0, [])) ⟨Nat.zero_le _, Cn.BefI.nil c f t, ⟨none, 0, rfl, Nat.le_refl _, .inr ⟨rfl, rfl, rfl⟩⟩⟩ s10 ((by simp only [List.append_nil]; exact sbA)) ?_
   rintro ⟨n, L, la, lcap, Hr⟩ e ⟨(hn21 : n ≤ 21), (hI : c.BefI f t n L), (hrow : NewRow 106 4 L.length (cRow L) (.slice la L.length lcap) Hr)⟩
   refine zR fun ds => ?_
   refine zD hF (y_lss rf rf) ?_
   refine zO ?_
   refine W_cond rf (fun c10 => ?_) (fun c10 => ?_)
   ·
    try simp only [qz1, qz2, qz3, qz4, qz5, qz6, qz7, qz8] at c10
    have hnl : n < 21 := by omega
    have hLl := hI.len
    obtain ⟨X, hX⟩ : ∃ X, X = c.old f t n := ⟨_, rfl⟩
    have hXg : ∀ k, k < 4 → X.g k = if k = t then c.co.g t - n else if k = f then c.co.g f + n else c.co.g k := fun k hk => by rw [hX]; exact c.old_g n om0 om0 hk
    refine zU ?_
    refine W_seq ?_
    refine W_block ?_
    refine zR fun ds => ?_
    refine zm (.int .i64 _) hF ?_
    refine za (.int .i64 _) hF ?_
    refine zP fun ds => ?_
    refine zD hF (y_loadN rf Tryz.isAgg106 Tryz.sizeOf106 (Mem.own (us := [.int .i64 _, .int .i64 _, .int .i64 _, .int .i64 _]) 0 rf rf) rf) ?_
    refine WS_new hF rf (y_alloc Tryz.zeroValue106 rf) (fun bo => ?_)
    refine WS_store hF (us := [.int .i64 _, .int .i64 _, .int .i64 _, .int .i64 _]) (i := 0) rf rf Tryz.sizeOf106 rf rf rf d20 ?_
    refine zO ?_
    rw [show splice [.int .i64 0, .int .i64 0, .int .i64 0, .int .i64 0] 0 [.int .i64 c.co.a, .int .i64 c.co.b, .int .i64 c.co.c, .int .i64 c.co.d] = c.co.cells from rfl]
    refine W_region_lit (fun ds => ?_)
    refine zD hF (y_fieldAddr rf fa47_0) ?_
    refine zD hF (y_load1 rf Tryz.isAgg3 (Mem.own1 3 rf rf)) ?_
    refine zD hF (y_indexA (k := f) rf rf r10 d10 Tryz.runUnderlying106 Tryz.sizeOf3) ?_
    refine zD hF (y_load1 rf Tryz.isAgg3 (Mem.own (us := [.int .i64 (c.co.g f)]) 0 rf hd1)) ?_
    refine zm (.int .i64 _) hF ?_
    refine zD hF (y_add rf rf ui) ?_
    refine zD hF (y_indexA (k := f) rf rf r10 d10 Tryz.runUnderlying106 Tryz.sizeOf3) ?_
    refine WS_store hF (us := [.int .i64 _]) (i := 0) rf rf Tryz.sizeOf3 rf rf rf (by show 0 + f * 1 + 1 ≤ 4; omega) ?_
    refine zO ?_
    rw [Co.splice c.co _ (k := f) om0]
    obtain ⟨e3, hd3⟩ := (c.co.w f (c.co.g f + (n : Int))).drop (k := t) om0
    rw [Co.g_w _ _ om0 om0, if_neg (Ne.symm hft)] at hd3
    refine W_region_lit (fun ds => ?_)
    refine zD hF (y_fieldAddr rf fa47_1) ?_
    refine zD hF (y_load1 rf Tryz.isAgg3 (Mem.own1 3 rf rf)) ?_
    refine zD hF (y_indexA (k := t) rf rf r10 d10 Tryz.runUnderlying106 Tryz.sizeOf3) ?_
    refine zD hF (y_load1 rf Tryz.isAgg3 (Mem.own (us := [.int .i64 (c.co.g t)]) 0 rf hd3)) ?_
    refine zm (.int .i64 _) hF ?_
    refine zD hF (y_sub rf rf ui) ?_
    refine zD hF (y_indexA (k := t) rf rf r10 d10 Tryz.runUnderlying106 Tryz.sizeOf3) ?_
    refine WS_store hF (us := [.int .i64 _]) (i := 0) rf rf Tryz.sizeOf3 rf rf rf (by show 0 + t * 1 + 1 ≤ 4; omega) ?_
    refine zO ?_
    refine W_seq ?_
    rw [Co.splice _ _ (k := t) om0, show (c.co.w f (c.co.g f + (n : Int))).w t (c.co.g t - (n : Int)) = X from hX.symm]
    have hXb : ∀ k, k ≤ c.n → -1000 ≤ X.g k ∧ X.g k ≤ 1000 := fun k hk => by
     have a1 := hci.lo k om0
     have a2 := hci.hi k hk
     have a3 := hr k hk
     rw [hXg k om0]
     split
     ·omega
     ·split <;> omega
    refine W_region_lit (fun ds => ?_)
    refine zD hF (y_fieldAddr rf fa24_0) ?_
    refine zD hF (y_load1 rf Tryz.isAgg22 (Mem.own1 4 rf rf)) ?_
    refine zD hF (y_len rf Tryz.runUnderlying22) ?_
    refine zD hF (y_add rf rf ui) ?_
    refine zm (.int .i64 _) hF ?_
    refine zN ?_
    refine W_block ?_
    refine W_loop (γ := Nat) (fun i => i ≤ c.n + 1 ∧ ∀ k, k < i → 0 ≤ X.g k ∧ X.g k ≤ c.room k) (fun i => [(2, .pointer (some ⟨b1, 0, none⟩)), (3, .pointer (some ⟨b2, 0, none⟩)), (7, .pointer (some ⟨bb, 0, none⟩)), (8, .pointer (some ⟨be, 0, none⟩)), (9, .slice la L.length lcap), (31, .int .i64 (n : Int)), (11, .pointer (some ⟨bo, 0, none⟩)), (52, .int .i64 ((c.n + 1 : Nat) : Int)), (53, .int .i64 (i : Int))]) (fun i => (bo, CB X.cells 106) :: (be, CB c.co.cells 106) :: (bb, CB [.slice a1 c.n p1, .slice a2 c.inn.length p2, .int .i64 c.st] 92) :: (b2, CB [.int .i64 (f : Int), .int .i64 (t : Int)] 47) :: (b1, CB [.slice a1 c.n p1, .slice a2 c.inn.length p2, .int .i64 c.st] 24) :: Hr) (fun i => c.n + 1 - i) (0) ⟨Nat.zero_le _, fun k h => absurd h (Nat.not_lt_zero _)⟩ s10 (sbA) ?_
    rintro i e ⟨hi, hik⟩
    refine zR fun ds => ?_
    refine zD hF (y_lss rf rf) ?_
    refine zO ?_
    refine W_cond rf (fun c16 => ?_) (fun c16 => ?_)
    ·
     try simp only [qz1, qz2, qz3, qz4, qz5, qz6, qz7, qz8] at c16
     have hin : i ≤ c.n := by omega
     obtain ⟨e4, hd4⟩ := X.drop (k := i) om0
     refine zU ?_
     refine W_seq ?_
     refine W_block ?_
     refine zR fun ds => ?_
     refine zm (.int .i64 _) hF ?_
     refine za (.int .i64 _) hF ?_
     refine zO ?_
     refine W_draw0 hF Tryzmixed [] dk0 (fun ds => ?_)
     refine P_det rf (Over_nil (y_loadN rf Tryz.isAgg92 Tryz.sizeOf92 (Mem.own (us := [.slice _ _ _, .slice _ _ _, .int .i64 _]) 2 rf rf) rf)) ?_
     refine P_det rf (Over_nil (y_move (c := .int .i64 _) rf)) ?_
     refine P_det rf (Over_nil (y_callL rf rf Tryz.call59 (fun w hw => broom_any c a1 p1 a2 p2 i w hn hm (h1.st w hw) (h2.st w hw) hin))) ?_
     refine P_det rf (Over_nil (y_move (c := .int .i64 _) rf)) ?_
     refine P_det rf (Over_nil (y_indexA (k := i) rf rf r10 d10 Tryz.runUnderlying106 Tryz.sizeOf3)) ?_
     refine P_det rf (Over_nil (y_load1 rf Tryz.isAgg3 (Mem.own (us := [.int .i64 (X.g i)]) 0 rf hd4))) ?_
     refine P_new rf rf (Over_nil (y_buildSliceL bs22_1_0 rf)) ?_
     refine P_det rf (Over_in rf (Over_nil (by rintro _ _ ⟨b4, rfl, rfl⟩; exact (y_callL rf rf Tryz.call52 (fun w hw => cin_any _ _ _ _ _ _ w dc (by first | exact Ints.one 0 rfl w hw | exact Ints.two 0 rfl w hw)))))) ?_
     refine P_det rf (Over_out rf (Over_nil (y_not rf))) ?_
     refine PW_end rf ?_
     refine OverAll_cons (fun w62 l62 => ?_)
     refine OverAll_nil ?_
     rintro ⟨-, h62⟩
     obtain ⟨b3, rfl, rfl⟩ := h62
     refine Then_normal ?_
     refine W_cond rf (fun c18 => ?_) (fun c18 => ?_)
     ·
      try simp only [qz1, qz2, qz3, qz4, qz5, qz6, qz7, qz8] at c18
      have hI2 : c.BefI f t (n + 1) L := hI.skip fun h => by
       have a1 := h.inn.lo i om0
       have a2 := h.inn.hi i hin
       rw [← hX] at a1 a2
       rw [inB1.2 ⟨a1, a2⟩] at c18
       cases c18
      refine W_exit ?_
      refine InB_other rf ?_
      refine Then_exit ?_
      refine Loop_exit ?_
      refine InB_other rf ?_
      refine Then_exit ?_
      refine InB_same ?_
      refine zT fun ds => ?_
      refine zD hF (y_add rf rf ui) ?_
      refine zm (.int .i64 _) hF ?_
      refine WS_nil ?_
      exact Loop_next (n + 1, L, la, lcap, Hr) ⟨by simp only; omega, hI2, hrow⟩ s10 sbA (by simp only; omega)
     ·
      try simp only [qz1, qz2, qz3, qz4, qz5, qz6, qz7, qz8] at c18
      refine W_skip ?_
      refine InB_normal ?_
      refine zT fun ds => ?_
      refine zD hF (y_add rf rf ui) ?_
      refine zm (.int .i64 _) hF ?_
      refine WS_nil ?_
      exact Loop_next (i + 1) ⟨by omega, fun k hk => by by_cases hki : k = i; (subst hki; exact (inB1.1 c18)); exact hik k om0⟩ s10 sbA om0
    ·
     try simp only [qz1, qz2, qz3, qz4, qz5, qz6, qz7, qz8] at c16
     have hXin : c.In X := by
      rw [hX]
      exact Cn.old_in hok hp fun k hk => by rw [← hX]; exact hik k om0
     refine W_exit ?_
     refine Then_exit ?_
     refine Loop_exit ?_
     refine InB_same ?_
     refine zS fun ds => ?_
     refine zD hF (y_loadN rf Tryz.isAgg92 Tryz.sizeOf92 (Mem.own (us := [.slice _ _ _, .slice _ _ _, .int .i64 _]) 2 rf rf) rf) ?_
     refine zD hF (y_loadN rf Tryz.isAgg106 Tryz.sizeOf106 (Mem.own (us := [.int .i64 _, .int .i64 _, .int .i64 _, .int .i64 _]) 0 rf rf) rf) ?_
     refine zD hF (y_loadN rf Tryz.isAgg47 Tryz.sizeOf47 (Mem.own (us := [.int .i64 _, .int .i64 _]) 3 rf rf) rf) ?_
     refine zD hF (y_callL rf rf Tryz.call60 (fun w hw => bpour_any c a1 p1 a2 p2 X f t w hok hn hm (h1.st w hw) (h2.st w hw) hXin hf ht hft)) ?_
     refine zm (.tuple _) hF ?_
     refine zD hF (y_extract (c := .agg _) rf rf) ?_
     refine zD hF (y_extract (c := .bool _) rf rf) ?_
     refine WS_new hF rf (y_alloc Tryz.zeroValue106 rf) (fun bn => ?_)
     refine WS_store hF (us := [.int .i64 _, .int .i64 _, .int .i64 _, .int .i64 _]) (i := 0) rf rf Tryz.sizeOf106 rf rf rf d20 ?_
     refine za (.bool _) hF ?_
     refine zP fun ds => ?_
     refine zm (.bool _) hF ?_
     refine zm (.bool _) hF ?_
     refine WS_split 74 rf (fun g21_1 => ?_) (fun g21_1 => ?_)
     ·
      try simp only [qz1, qz2, qz3, qz4, qz5, qz6, qz7, qz8] at g21_1
      refine zD hF (y_loadN rf Tryz.isAgg106 Tryz.sizeOf106 (Mem.own (us := [.int .i64 _, .int .i64 _, .int .i64 _, .int .i64 _]) 0 rf rf) rf) ?_
      refine zD hF (y_loadN rf Tryz.isAgg106 Tryz.sizeOf106 (Mem.own (us := [.int .i64 _, .int .i64 _, .int .i64 _, .int .i64 _]) 2 rf rf) rf) ?_
      refine zD hF (y_eqlA rf rf (eqOp_co (u := (if c.noB X f t then X else c.to X f t)) (v := c.co))) ?_
      refine zD hF (zpk (.bool _)) ?_
      refine zN ?_
      refine W_cond rf (fun c21 => ?_) (fun c21 => ?_)
      ·
       try simp only [qz1, qz2, qz3, qz4, qz5, qz6, qz7, qz8] at c21
       have hB : c.IsBef f t X := ⟨hXin, g21_1, by rw [Cn.can_to g21_1] at c21; exact c21⟩
       refine W_region_lit (fun ds => ?_)
       refine zm (.slice _ _ _) hF ?_
       refine zD hF (y_loadN rf Tryz.isAgg106 Tryz.sizeOf106 (Mem.own (us := [.int .i64 _, .int .i64 _, .int .i64 _, .int .i64 _]) 1 rf rf) rf) ?_
       refine WS_newS hF rf (y_buildSliceL bs108_1_0 rf) (fun b5 => ?_)
       refine WS_appendN hF (H1 := (_ :: _ :: _ :: _ :: _ :: _ :: _ :: [])) (Hn := Hr) (news := X.cells) rf rf rf Tryz.underlying108 infCo rf rf hrow (cRow_len L) (.inr ⟨_, _, rfl, Mem.own (us := X.cells) 0 rf rf⟩) rf rf om0 om0 om0 ?_
       intro a3 cap3 H3 hr3
       have hrow3 : NewRow 106 4 (L ++ [c.old f t n]).length (cRow (L ++ [c.old f t n])) (.slice a3 (L ++ [c.old f t n]).length cap3) H3 := by
        rw [cRow_snoc, List.length_append, ← hX]
        exact hr3
       have hI2 : c.BefI f t (n + 1) (L ++ [c.old f t n]) := hI.add hok hp (by rw [← hX]; exact hB)
       rw [show L.length + 1 = (L ++ [c.old f t n]).length by rw [List.length_append]; rfl]
       refine za (.slice _ _ _) hF ?_
       refine WS_nil ?_
       refine InB_normal ?_
       refine zT fun ds => ?_
       refine zD hF (y_add rf rf ui) ?_
       refine zm (.int .i64 _) hF ?_
       refine WS_nil ?_
       exact Loop_next (n + 1, L ++ [c.old f t n], a3, cap3, H3) ⟨by simp only; omega, hI2, hrow3⟩ s10 sbA (by simp only; omega)
      ·
       try simp only [qz1, qz2, qz3, qz4, qz5, qz6, qz7, qz8] at c21
       have hI2 : c.BefI f t (n + 1) L := hI.skip fun h => by
        rw [← hX] at h
        first
         | exact c21 (by rw [Cn.can_to h.can]; exact h.to)
         | (rw [h.can] at g21_1; cases g21_1)
       refine W_skip ?_
       refine InB_normal ?_
       refine zT fun ds => ?_
       refine zD hF (y_add rf rf ui) ?_
       refine zm (.int .i64 _) hF ?_
       refine WS_nil ?_
       exact Loop_next (n + 1, L, la, lcap, Hr) ⟨by simp only; omega, hI2, hrow⟩ s10 sbA (by simp only; omega)
     ·
      try simp only [qz1, qz2, qz3, qz4, qz5, qz6, qz7, qz8] at g21_1
      refine zno hF ?_
      refine zno hF ?_
      refine zno hF ?_
      refine zD hF (zpk (.bool _)) ?_
      refine zN ?_
      refine W_cond rf (fun c21 => ?_) (fun c21 => ?_)
      ·cases c21
      ·
       try simp only [qz1, qz2, qz3, qz4, qz5, qz6, qz7, qz8] at c21
       have hI2 : c.BefI f t (n + 1) L := hI.skip fun h => by
        rw [← hX] at h
        first
         | exact c21 (by rw [Cn.can_to h.can]; exact h.to)
         | (rw [h.can] at g21_1; cases g21_1)
       refine W_skip ?_
       refine InB_normal ?_
       refine zT fun ds => ?_
       refine zD hF (y_add rf rf ui) ?_
       refine zm (.int .i64 _) hF ?_
       refine WS_nil ?_
       exact Loop_next (n + 1, L, la, lcap, Hr) ⟨by simp only; omega, hI2, hrow⟩ s10 sbA (by simp only; omega)
   ·
    try simp only [qz1, qz2, qz3, qz4, qz5, qz6, qz7, qz8] at c10
    obtain rfl : n = 21 := by omega
    refine W_exit ?_
    refine Then_exit ?_
    refine Loop_exit ?_
    refine InB_same ?_
    refine zS fun ds => ?_
    refine zm (.slice _ _ _) hF ?_
    refine WS_pullE (M' := Hr) [_, _, _, _] (List.perm_append_comm (l₁ := [_, _, _, _]) (l₂ := Hr)) ?_
    refine WS_callS hF rf rf rf Tryz.call61 (sortN_cs _ _ _ la lcap L Hr _ (by have := hI.len; omega) hrow) ?_
    rintro _ _ ⟨rfl, ys, Hy, hpm, hso, hry, rfl⟩
    rw [← hpm.length_eq]
    have hBS := hI.done hok hp hpm hso
    have hyl : ys.length ≤ 21 := by rw [hpm.length_eq]; exact hI.len
    have hyin : ∀ k, k < ys.length → c.In (ys.getD k Co.z) := fun k hk => by
     refine ((hBS.mem _).1 ?_).inn
     rw [List.getD_eq_getElem?_getD, List.getElem?_eq_getElem hk]
     exact List.getElem_mem _
    refine zP fun ds => ?_
    refine za (.slice _ _ _) hF ?_
    refine zO ?_
    refine zR fun ds => ?_
    refine zm (.slice _ _ _) hF ?_
    refine zD hF (y_len rf Tryz.runUnderlying108) ?_
    refine zm (.int .i64 _) hF ?_
    refine zN ?_
    refine W_block ?_
    refine W_loop (γ := Nat × List Bl × Option Addr × Nat × List Blk × List Blk) (fun q => q.1 ≤ ys.length ∧ q.2.1.map Bl.x = ys.take q.1 ∧ NewRow 24 3 q.2.1.length (blRow c q.2.1) (.slice q.2.2.1 q.2.1.length q.2.2.2.1) q.2.2.2.2.1 ∧ (∀ b ∈ q.2.1, b.RdH c q.2.2.2.2.2) ∧ Shp q.2.2.2.2.2 q.2.2.2.2.2) (fun q => [(7, .pointer (some ⟨bb, 0, none⟩)), (15, .slice q.2.2.1 q.2.1.length q.2.2.2.1), (86, .slice la ys.length lcap), (87, .int .i64 (ys.length : Int)), (88, .int .i64 (q.1 : Int))]) (fun q => Hy ++ ((bb, CB [.slice a1 c.n p1, .slice a2 c.inn.length p2, .int .i64 c.st] 92) :: (q.2.2.2.2.2 ++ q.2.2.2.2.1))) (fun q => ys.length - q.1) ((0, [], none, 0, [], [])) ⟨Nat.zero_le _, rfl, ⟨none, 0, rfl, Nat.le_refl _, .inr ⟨rfl, rfl, rfl⟩⟩, fun b h => (by cases h), .nil⟩ s10 (sbA) ?_
    rintro ⟨i, bs, aa, ac, Ha, HX⟩ e ⟨(hi : i ≤ ys.length), (hmp : bs.map Bl.x = ys.take i), (hra : NewRow 24 3 bs.length (blRow c bs) (.slice aa bs.length ac) Ha), (hrd : ∀ b ∈ bs, b.RdH c HX), (hsh : Shp HX HX)⟩
    refine zR fun ds => ?_
    refine zD hF (y_lss rf rf) ?_
    refine zO ?_
    refine W_cond rf (fun c27 => ?_) (fun c27 => ?_)
    ·
     try simp only [qz1, qz2, qz3, qz4, qz5, qz6, qz7, qz8] at c27
     have hil : i < ys.length := by omega
     have hbl : bs.length = i := by
      have := congrArg List.length hmp
      rw [List.length_map, List.length_take] at this
      omega
     obtain ⟨by_, jy, rfl, rfl, hjl, hjc⟩ := NewRow.head hry om0
     refine zU ?_
     refine W_seq ?_
     refine W_block ?_
     refine zR fun ds => ?_
     refine zD hF (y_index (k := i) rf rf r10 d10 Tryz.runUnderlying108 Tryz.sizeOf106) ?_
     refine zD hF (y_loadN rf Tryz.isAgg106 Tryz.sizeOf106 (Mem.rowJ (enc := Co.cells) (junk := jy) (k := i) co_len4 0 rf hil rfl om0) rf) ?_
     refine WS_new hF rf (y_alloc Tryz.zeroValue106 rf) (fun bx => ?_)
     refine WS_store hF (us := [.int .i64 _, .int .i64 _, .int .i64 _, .int .i64 _]) (i := 0) rf rf Tryz.sizeOf106 rf rf rf d20 ?_
     refine zQ fun ds => ?_
     refine zm (.slice _ _ _) hF ?_
     refine zD hF (y_loadN rf Tryz.isAgg92 Tryz.sizeOf92 (Mem.own (us := [.slice _ _ _, .slice _ _ _, .int .i64 _]) 2 rf rf) rf) ?_
     refine zD hF (y_loadN rf Tryz.isAgg106 Tryz.sizeOf106 (Mem.own (us := [.int .i64 _, .int .i64 _, .int .i64 _, .int .i64 _]) 0 rf rf) rf) ?_
     refine WS_gen hF rf (y_callL rf rf Tryz.call64 (fun w hw => bcans_any c a1 p1 a2 p2 (ys.getD i Co.z) w hok hn hm (h1.st w hw) (h2.st w hw))) ?_
     rintro _ _ ⟨z1, q1, z2, q2, H1, H2, rfl, hr1, hr2, rfl⟩
     refine WS_back ?_
     refine WS_newS hF rf (y_buildSliceL bs34_1_0 rf) (fun bs_ => ?_)
     refine WS_pullE (M' := (bs_, _) :: (bx, _) :: (by_, _) :: (bb, CB [.slice a1 c.n p1, .slice a2 c.inn.length p2, .int .i64 c.st] 92) :: (HX ++ (H1 ++ H2))) Ha (by simp only [List.append_eq, List.nil_append, List.append_assoc, List.cons_append]; repeat (first | exact perm_3 | apply List.Perm.cons)) ?_
     refine WS_appendN hF (H1 := (_ :: _ :: _ :: _ :: (HX ++ (H1 ++ (H2))))) (Hn := Ha) (news := Bl.cells c ⟨ys.getD i Co.z, z1, q1, z2, q2⟩) rf rf rf Tryz.underlying34 infCans rf rf hra (blRow_len c bs) (.inr ⟨_, _, rfl, Mem.own (us := Bl.cells c ⟨ys.getD i Co.z, z1, q1, z2, q2⟩) 0 rf rf⟩) rf rf om0 om0 om0 ?_
     intro a4 cap4 H4 hr4
     have hrow4 : NewRow 24 3 (bs ++ [(⟨ys.getD i Co.z, z1, q1, z2, q2⟩ : Bl)]).length (blRow c (bs ++ [(⟨ys.getD i Co.z, z1, q1, z2, q2⟩ : Bl)])) (.slice a4 (bs ++ [(⟨ys.getD i Co.z, z1, q1, z2, q2⟩ : Bl)]).length cap4) H4 := by
      rw [blRow_snoc, List.length_append]
      exact hr4
     have hrd4 : ∀ b ∈ bs ++ [(⟨ys.getD i Co.z, z1, q1, z2, q2⟩ : Bl)], b.RdH c (HX ++ (H1 ++ H2)) := fun b hb => by
      rcases List.mem_append.1 hb with hb | hb
      ·exact (hrd b hb).mono (List.sublist_append_left _ _)
      ·simp only [List.mem_singleton] at hb
       subst hb
       exact Bl.RdH.new hr1 hr2
     have hsh4 : Shp (HX ++ (H1 ++ H2)) (HX ++ (H1 ++ H2)) := hsh.app (hr1.shp.app hr2.shp)
     rw [show bs.length + 1 = (bs ++ [(⟨ys.getD i Co.z, z1, q1, z2, q2⟩ : Bl)]).length by rw [List.length_append]; rfl]
     refine za (.slice _ _ _) hF ?_
     refine WS_nil ?_
     refine InB_normal ?_
     refine zT fun ds => ?_
     refine zD hF (y_add rf rf ui) ?_
     refine zm (.int .i64 _) hF ?_
     refine WS_nil ?_
     exact Loop_next (i + 1, bs ++ [⟨ys.getD i Co.z, z1, q1, z2, q2⟩], a4, cap4, H4, HX ++ (H1 ++ H2)) ⟨by simp only; omega, map_take_snoc hmp hil rfl, hrow4, hrd4, hsh4⟩ s10 sbA (by simp only; omega)
    ·
     try simp only [qz1, qz2, qz3, qz4, qz5, qz6, qz7, qz8] at c27
     obtain rfl : i = ys.length := by omega
     refine W_exit ?_
     refine Then_exit ?_
     refine Loop_exit ?_
     refine InB_same ?_
     refine zS fun ds => ?_
     refine zm (.slice _ _ _) hF ?_
     refine za (.slice _ _ _) hF ?_
     refine za (.int .i64 _) hF ?_
     refine zN ?_
     refine W_ret ?_
     refine NoG_ret ?_
     refine Fin_ret [.slice _ _ _, .int .i64 _] (HX ++ Ha) Tryz.results22 ⟨by rfl, by rfl, trivial⟩ (HSub.sub sbA) ?_
     refine ⟨0, bs, aa, ac, Ha, HX, rfl, ?_, hra, hrd, hsh, rfl⟩
     rw [hmp, List.take_length]
     unfold Cn.Bef
     rw [if_pos hokB, if_pos hvB]
     exact ⟨rfl, hBS⟩
section
variable {C : Ctx} {e : Env} {H : List Blk} {d : Option Tmp} {ty : TypeId} {pos : String} {af : Array Edge}
end
theorem shift_zero {a : Option Addr} {sz cap : Nat} : (∃ b o, a = some ⟨b, o, none⟩) → shiftA a 0 sz cap = a := by
 rintro ⟨b, o, rfl⟩
 by_cases h : cap = 0
 ·unfold shiftA; rw [if_pos h]
 ·rw [shift_some h, Nat.zero_mul, Nat.add_zero]
section
variable {α : Type} {enc : α → List Value} {sz : Nat} {d : α} {w : World} {a : Option Addr} {n cap : Nat} {xs : List α}
theorem Rws.pre (h : Rws enc sz d w a n cap xs) {k : Nat} (hk : k ≤ n) : Rws enc sz d w (shiftA a 0 sz cap) k cap (xs.take k) :=
 ⟨by rw [List.length_take, h.len]; omega, Nat.le_trans hk h.le, fun j hj => by
  obtain ⟨b, o, rfl, hc⟩ := h.cell j om0
  refine ⟨b, o, shift_zero ⟨_, _, rfl⟩, ?_⟩
  have : (xs.take k).getD j d = xs.getD j d := by simp [List.getD_eq_getElem?_getD, hj]
  rw [this]; exact hc⟩
end
def lexI : List Int → List Int → Bool
 | x :: xs, y :: ys => if x = y then lexI xs ys else decide (x < y)
 | _, _ => false
def blIns (bs : List Bl) (k : Nat) (y : Bl) : List Bl := bs.take k ++ y :: bs.drop k
structure Bl.Rd (c : Cn) (w : World) (b : Bl) : Prop where
 inn : c.In b.x
 i : Ints w b.i (c.of b.x).inn.length b.ki (c.of b.x).inn
set_option maxRecDepth 100000
set_option maxHeartbeats 1000000
def setI (l : List Int) (k : Nat) (v : Int) : List Int := if k = 0 then l else l.set (k - 1) v
theorem setI_len (l : List Int) (k : Nat) (v : Int) : (setI l k v).length = l.length := by
 unfold setI; split
 ·rfl
 ·exact List.length_set
theorem setI_get (l : List Int) (k j : Nat) (v : Int) (hk : k ≤ l.length) (hj : j < l.length) : (setI l k v).getD j 0 = if j + 1 = k then v else l.getD j 0 := by
 unfold setI
 split
 ·rename_i h; rw [if_neg om0]
 ·rename_i h
  simp only [List.getD_eq_getElem?_getD, List.getElem?_set]
  by_cases e : k - 1 = j
  ·rw [if_pos e, if_pos (show j + 1 = k by omega), if_pos om0]; rfl
  ·rw [if_neg e, if_neg (show ¬ j + 1 = k by omega)]
def Cn.ci (c : Cn) (f t : Nat) (a b : Int) : List Int := setI (setI c.inn f b) t a
def Cn.cand (c : Cn) (f t : Nat) (a b : Int) : Cn := ⟨c.sz, c.ci f t a b, c.st + sumL c.inn - sumL (c.ci f t a b)⟩
theorem Cn.ci_len (c : Cn) (f t : Nat) (a b : Int) : (c.ci f t a b).length = c.inn.length := by unfold Cn.ci; rw [setI_len, setI_len]
theorem Cn.ci_get {c : Cn} {f t : Nat} (a b : Int) (hok : c.Ok) (hp : c.Fp f t) {j : Nat} (hj : j < c.n) : (c.ci f t a b).getD j 0 = if j + 1 = t then a else if j + 1 = f then b else c.i j := by
 have hl := hok.len
 have h1 := hp.fb
 have h2 := hp.tb
 unfold Cn.ci
 rw [setI_get _ _ _ _ (by rw [setI_len]; omega) (by rw [setI_len]; omega), setI_get _ _ _ _ om0 om0]
 rfl
theorem sum3 (l : List Int) (h : l.length ≤ 3) : sumL l = l.getD 0 0 + l.getD 1 0 + l.getD 2 0 := by
 match l, h with
 | [], _ => rfl
 | [_], _ => simp [sumL]
 | [_, _], _ => simp [sumL]
 | [_, _, _], _ => simp [sumL]; omega
 | _ :: _ :: _ :: _ :: _, h => simp only [List.length_cons] at h; omega
theorem Cn.cand_sm {c : Cn} {f t : Nat} (a b : Int) (hok : c.Ok) : (c.cand f t a b).co.sm = c.co.sm := by
 have h3 := hok.n3
 have hl := hok.len
 have h1 := sum3 c.inn om0
 have h2 := sum3 (c.ci f t a b) (by rw [c.ci_len]; omega)
 show (c.st + sumL c.inn - sumL (c.ci f t a b)) + (c.ci f t a b).getD 0 0 + (c.ci f t a b).getD 1 0 + (c.ci f t a b).getD 2 0 = c.st + c.inn.getD 0 0 + c.inn.getD 1 0 + c.inn.getD 2 0
 omega
theorem Cn.cand_g {c : Cn} {f t : Nat} (a b : Int) (hok : c.Ok) (hp : c.Fp f t) {k : Nat} (h0 : 0 < k) (hk : k ≤ c.n) : (c.cand f t a b).co.g k = if k = t then a else if k = f then b else c.co.g k := by
 have h3 := hok.n3
 obtain ⟨j, rfl⟩ : ∃ j, k = j + 1 := ⟨k - 1, by omega⟩
 rw [(c.cand f t a b).co_g j om0, c.co_g j om0]
 exact Cn.ci_get a b hok hp om0
theorem Cn.cand_z {c : Cn} {f t : Nat} (a b : Int) (hok : c.Ok) {k : Nat} (hk : c.n < k) (hk4 : k < 4) : (c.cand f t a b).co.g k = 0 := by
 have hl := hok.len
 obtain ⟨j, rfl⟩ : ∃ j, k = j + 1 := ⟨k - 1, by omega⟩
 rw [(c.cand f t a b).co_g j om0]
 show (c.ci f t a b).getD j 0 = 0
 rw [List.getD_eq_getElem?_getD, List.getElem?_eq_none (by rw [c.ci_len]; omega)]
 rfl
def Cn.jx (f t : Nat) (x : Co) : Int := (if t = 0 then 0 else x.g t) * 21 + (if f = 0 then 0 else x.g f)
theorem Cn.IsBef.parts {c : Cn} {f t : Nat} {x : Co} (h : c.IsBef f t x) (hok : c.Ok) (hp : c.Fp f t) : (0 ≤ (if t = 0 then 0 else x.g t) ∧ (if t = 0 then 0 else x.g t) ≤ 20) ∧ 0 ≤ (if f = 0 then 0 else x.g f) ∧ (if f = 0 then 0 else x.g f) ≤ 20 := by
 have h3 := hok.n3
 have h1 := hp.fb
 have h2 := hp.tb
 have key : ∀ k, k ≤ c.n → 0 ≤ (if k = 0 then 0 else x.g k) ∧ (if k = 0 then 0 else x.g k) ≤ 20 := fun k hk => by
  by_cases h0 : k = 0
  ·rw [if_pos h0]; exact ⟨Int.le_refl _, by decide⟩
  ·rw [if_neg h0]
   have a1 := h.inn.lo k om0
   have a2 := h.inn.hi k hk
   obtain ⟨j, rfl⟩ : ∃ j, k = j + 1 := ⟨k - 1, by omega⟩
   rw [c.room_s] at a2
   have := hok.s j om0
   omega
 exact ⟨key t h2, key f h1⟩
theorem Cn.IsBef.jx_split {c : Cn} {f t : Nat} {x : Co} (h : c.IsBef f t x) (hok : c.Ok) (hp : c.Fp f t) {a b : Nat} (hb : b ≤ 20) (hj : Cn.jx f t x = ((a * 21 + b : Nat) : Int)) : (if t = 0 then 0 else x.g t) = (a : Int) ∧ (if f = 0 then 0 else x.g f) = (b : Int) := by
 obtain ⟨⟨h1, h2⟩, h3, h4⟩ := h.parts hok hp
 unfold Cn.jx at hj
 omega
theorem Cn.IsBef.cand {c : Cn} {f t : Nat} {x : Co} (h : c.IsBef f t x) (hok : c.Ok) (hp : c.Fp f t) {a b : Nat} (hb : b ≤ 20) (hj : Cn.jx f t x = ((a * 21 + b : Nat) : Int)) : x = (c.cand f t a b).co := by
 have h3 := hok.n3
 obtain ⟨h1, h2⟩ := h.jx_split hok hp hb hj
 obtain ⟨_, _, hk⟩ := h.gs hok hp
 have hg : ∀ k, 0 < k → k < 4 → x.g k = (c.cand f t a b).co.g k := fun k h0 hk4 => by
  by_cases hkn : k ≤ c.n
  ·rw [Cn.cand_g _ _ hok hp h0 hkn]
   split
   ·rename_i e; subst e; rw [if_neg om0] at h1; exact h1
   ·split
    ·rename_i e; subst e; rw [if_neg om0] at h2; exact h2
    ·exact (hk k hk4 (by assumption) (by assumption)).symm
  ·rw [h.inn.z k om0 hk4, Cn.cand_z _ _ hok om0 hk4]
 have hs := (h.sm hok hp).trans (Cn.cand_sm (f := f) (t := t) a b hok).symm
 refine Co.ext4 fun k hk4 => ?_
 by_cases h0 : k = 0
 ·subst h0
  have g1 := hg 1 dc dc
  have g2 := hg 2 dc dc
  have g3 := hg 3 dc dc
  rw [Co.sm_g, Co.sm_g] at hs
  omega
 ·exact hg k om0 hk4
structure Cn.RbI (c : Cn) (f t J : Nat) (L : List Co) : Prop where
 srt : L.Pairwise Co.lt
 mem : ∀ x, x ∈ L ↔ c.IsBef f t x ∧ Cn.jx f t x < (J : Int)
theorem Cn.RbI.nil {c : Cn} {f t : Nat} (hok : c.Ok) (hp : c.Fp f t) : c.RbI f t 0 [] := ⟨List.Pairwise.nil, fun x => ⟨fun h => (by cases h), fun ⟨h1, h2⟩ => by
 obtain ⟨⟨a1, _⟩, a2, _⟩ := h1.parts hok hp
 unfold Cn.jx at h2
 omega⟩⟩
theorem Cn.RbI.skip {c : Cn} {f t J : Nat} {L : List Co} (h : c.RbI f t J L) (hno : ∀ x, c.IsBef f t x → Cn.jx f t x = (J : Int) → False) : c.RbI f t (J + 1) L := ⟨h.srt, fun x => (h.mem x).trans ⟨fun ⟨h1, h2⟩ => ⟨h1, by push_cast; omega⟩, fun ⟨h1, h2⟩ => ⟨h1, by
 have := hno x h1
 push_cast at h2
 refine Classical.byContradiction fun h3 => this om0⟩⟩⟩
theorem Cn.RbI.add {c : Cn} {f t a b : Nat} {L : List Co} {x : Co} (hok : c.Ok) (hp : c.Fp f t) (hb : b ≤ 20) (h : c.RbI f t (a * 21 + b) L) (hx : c.IsBef f t x) (hj : Cn.jx f t x = ((a * 21 + b : Nat) : Int)) {k : Nat} (hk : k ≤ L.length) (h1 : ∀ j, j < k → (L.getD j Co.z).lt x) (h2 : k < L.length → ¬ (L.getD k Co.z).lt x) :
  c.RbI f t (a * 21 + (b + 1)) (L.take k ++ x :: L.drop k) := by
 have hnx : x ∉ L := fun h3 => by have := ((h.mem x).1 h3).2; omega
 have hmem : ∀ j (hj : j < L.length), L[j] ∈ L := fun j hj => List.getElem_mem hj
 have hcross : ∀ z ∈ L.drop k, x.lt z := fun z hz => by
  obtain ⟨i, hi, rfl⟩ := List.getElem_of_mem hz
  rw [List.length_drop] at hi
  rw [List.getElem_drop]
  have hkl : k < L.length := by omega
  have h3 := h2 hkl
  have hzk : x.lt L[k] := by
   have hne : x ≠ L[k] := fun e => hnx (e ▸ hmem k hkl)
   rcases hx.tot ((h.mem _).1 (hmem k hkl)).1 hok hp hne with h4 | h4
   ·exact h4
   ·rw [List.getD_eq_getElem?_getD, List.getElem?_eq_getElem hkl] at h3
    exact absurd h4 h3
  by_cases hi0 : i = 0
  ·subst hi0; exact hzk
  ·have := h.srt
   rw [List.pairwise_iff_getElem] at this
   exact Co.lt_tr hzk (this k (k + i) hkl om0 om0)
 refine ⟨?_, fun z => ?_⟩
 ·rw [List.pairwise_append, List.pairwise_cons]
  refine ⟨h.srt.sublist (List.take_sublist _ _), ⟨hcross, h.srt.sublist (List.drop_sublist _ _)⟩, fun u hu v hv => ?_⟩
  have hux : u.lt x := by
   obtain ⟨i, hi, rfl⟩ := List.getElem_of_mem hu
   rw [List.length_take] at hi
   rw [List.getElem_take]
   have := h1 i om0
   rwa [List.getD_eq_getElem?_getD, List.getElem?_eq_getElem om0] at this
  rcases List.mem_cons.1 hv with rfl | hv
  ·exact hux
  ·exact Co.lt_tr hux (hcross v hv)
 ·rw [List.mem_append, List.mem_cons]
  have hz : z ∈ L ↔ z ∈ L.take k ∨ z ∈ L.drop k := by
   conv => lhs; rw [← List.take_append_drop k L]
   exact List.mem_append
  constructor
  ·rintro (h3 | rfl | h3)
   ·obtain ⟨h4, h5⟩ := (h.mem z).1 (hz.2 (.inl h3)); exact ⟨h4, by omega⟩
   ·exact ⟨hx, by omega⟩
   ·obtain ⟨h4, h5⟩ := (h.mem z).1 (hz.2 (.inr h3)); exact ⟨h4, by omega⟩
  ·rintro ⟨h3, h4⟩
   by_cases h5 : Cn.jx f t z = ((a * 21 + b : Nat) : Int)
   ·exact .inr (.inl ((h3.cand hok hp hb h5).trans (hx.cand hok hp hb hj).symm))
   ·have := (h.mem z).2 ⟨h3, by omega⟩
    rcases hz.1 this with h6 | h6
    ·exact .inl h6
    ·exact .inr (.inr h6)
theorem Cn.RbI.done {c : Cn} {f t : Nat} {L : List Co} (hok : c.Ok) (hp : c.Fp f t) (h : c.RbI f t (21 * 21) L) : c.BefS f t L := ⟨h.srt, fun x => (h.mem x).trans ⟨fun h => h.1, fun h1 => ⟨h1, by
 obtain ⟨⟨_, a1⟩, _, a2⟩ := h1.parts hok hp
 unfold Cn.jx
 omega⟩⟩⟩
theorem Cn.RbI.len {c : Cn} {f t J : Nat} {L : List Co} (hok : c.Ok) (hp : c.Fp f t) (h : c.RbI f t J L) : L.length ≤ 1000 := by
 have hnd : (L.map fun x => (c.amt x f t).toNat).Nodup := by
  rw [List.nodup_iff_pairwise_ne, List.pairwise_map]
  refine h.srt.imp_of_mem fun {x y} hx hy hlt e => ?_
  have h1 := ((h.mem x).1 hx).1.old hok hp
  have h2 := ((h.mem y).1 hy).1.old hok hp
  rw [e] at h1
  exact absurd hlt (by rw [h1.trans h2.symm]; exact Co.lt_irr _)
 have hsub : ∀ z ∈ L.map (fun x => (c.amt x f t).toNat), z < 21 := fun z hz => by
  obtain ⟨x, hx, rfl⟩ := List.mem_map.1 hz
  have := ((h.mem x).1 hx).1.amt hok hp
  omega
 have := nodup_bd hnd hsub
 rw [List.length_map] at this
 omega
theorem co_drop {c : Cn} (hok : c.Ok) (x : Co) : ∃ rest, List.drop 1 x.cells = iv (c.of x).inn ++ rest := by
 have h1 := hok.n1
 have h3 := hok.n3
 unfold Cn.of
 simp only
 obtain h | h | h : c.n = 1 ∨ c.n = 2 ∨ c.n = 3 := by omega
 ·rw [h]; exact ⟨[.int .i64 x.c, .int .i64 x.d], rfl⟩
 ·rw [h]; exact ⟨[.int .i64 x.d], rfl⟩
 ·rw [h]; exact ⟨[], rfl⟩
theorem bmade_cs (w0 : World) (ds0 out0 : List Deferred) (c : Cn) (a1 : Option Addr) (p1 : Nat) (a2 : Option Addr) (p2 : Nat) (mk ck : Nat) (l : List (EntK Co)) (HX : List Blk) (hg : GoodM l ck) (hT : Tab HX l c.bestO) (hok : c.Ok) :
  Cs ⟨Tryz.prog, w0, ds0, out0⟩ 49 #[.agg #[.slice a1 c.n p1, .slice a2 c.inn.length p2, .int .i64 c.st], .map (some mk)] ((mk, MK encC l ck) :: HX) fun v Hn => ∃ b cap junk, v = .slice (some ⟨b, 0, none⟩) c.madeL.length cap ∧ Hn = (b, CB (iv c.madeL ++ junk) 3) :: (mk, MK encC l ck) :: HX ∧ (iv c.madeL ++ junk).length = cap * 1 ∧ c.madeL.length ≤ cap := by
 have hln := good_len hok hg hT
 have hn3 := hok.n3
 have hn1 := hok.n1
 have hF := wide_wide
 refine Cs_start (args := [_, _]) Tryz.func49 rf Tryz.ntmps49 rf ?_
 refine zR fun ds => ?_
 refine WS_new hF rf (y_box rf) (fun b2 => ?_)
 refine za (.slice _ _ _) hF ?_
 refine zP fun ds => ?_
 refine za (.slice _ _ _) hF ?_
 refine zO ?_
 refine zR fun ds => ?_
 refine zm (.map _) hF ?_
 refine WS_new hF rf (y_rangeK (enc := encC) (i := 1) rf Tryz.underlying94 rf) (fun it => ?_)
 refine zN ?_
 refine W_block ?_
 refine W_loop (γ := Array Nat × Nat × List Int × Option Addr × Nat × List Blk) (fun q => MdI c l q.1 q.2.2.1 ∧ ck ≤ q.2.1 ∧ NewRow 3 1 q.2.2.1.length (iv q.2.2.1) (.slice q.2.2.2.1 q.2.2.1.length q.2.2.2.2.1) q.2.2.2.2.2) (fun q => [(2, .pointer (some ⟨b2, 0, none⟩)), (5, .slice q.2.2.2.1 q.2.2.1.length q.2.2.2.2.1), (8, .pointer (some ⟨it, 0, none⟩))]) (fun q => (it, .mapIter (some mk) ck q.1 q.2.1) :: (b2, CB [.slice a1 c.n p1, .slice a2 c.inn.length p2, .int .i64 c.st] 92) :: (mk, MK encC l ck) :: (HX ++ q.2.2.2.2.2)) (fun q => leftL l q.1) ((#[], ck, [], none, 0, [])) ⟨MdI.nil c l, Nat.le_refl _, ⟨none, 0, rfl, Nat.le_refl _, .inr ⟨rfl, rfl, rfl⟩⟩⟩ s10 ((by simp only [List.append_nil]; exact sbA)) ?_
 rintro ⟨seen, c0, L, a, cap, Hr⟩ e ⟨(hI : MdI c l seen L), (hc0 : ck ≤ c0), (hrow : NewRow 3 1 L.length (iv L) (.slice a L.length cap) Hr)⟩
 refine zR fun ds => ?_
 refine WS_nextK hF (enc := encC) (i := 0) (j := 2) rf rf rf rf hg.old hc0 (fun hov => ?_) (fun y hy hns => ?_)
 ·
  have hlx : L.length + 3 * leftL l seen ≤ 3 * l.length := hI.len
  have hmd := hI.made hok hg hT hov
  have hL0 : 0 < L.length := by
   refine Nat.pos_of_ne_zero fun h => ?_
   have h2 := Cn.made_pos hok
   rw [← hmd] at h2
   rw [List.eq_nil_of_length_eq_zero h] at h2
   simp [sortL, Lib.compact, Lib.compactUpTo] at h2
  obtain ⟨bR, jR, rfl, rfl, hjl, hjc⟩ := NewRow.head hrow hL0
  have hsl := sortL_len L
  refine WS_pull (bR, CB (iv L ++ jR) 3) zu ?_
  refine zD hF (y_extract (c := .bool _) rf rf) ?_
  refine zO ?_
  refine W_cond rf (fun c3 => ?_) (fun c3 => ?_)
  ·cases c3
  ·
   try simp only [qz1, qz2, qz3, qz4, qz5, qz6, qz7, qz8] at c3
   refine W_exit ?_
   refine Then_exit ?_
   refine Loop_exit ?_
   refine InB_same ?_
   refine zS fun ds => ?_
   refine zm (.slice _ _ _) hF ?_
   refine WS_callS hF rf rf rf Tryz.call90 (sort_cs _ _ _ bR 3 cap L jR _ (by have := hlx; omega)) ?_
   rintro _ _ ⟨rfl, rfl⟩
   rw [← hsl]
   refine zP fun ds => ?_
   refine zm (.slice _ _ _) hF ?_
   refine WS_callS hF rf rf rf Tryz.call91 (compact_cs _ _ _ bR 3 cap (sortL L) jR _ (by rw [hsl]; omega) (by rw [hsl]; exact hjc)) ?_
   rintro _ _ ⟨rfl, j2, hj2, rfl⟩
   rw [hmd] at hj2 ⊢
   refine za (.slice _ _ _) hF ?_
   refine zN ?_
   refine W_ret ?_
   refine Fin_ret [.slice _ _ _] ((bR, _) :: (mk, _) :: HX) Tryz.results49 ⟨by rfl, trivial⟩ (HSub.sub sbA) ?_
   have hivL : (iv L).length = L.length := List.length_map _
   have hml : c.madeL.length ≤ L.length := by rw [← hmd, ← hsl]; unfold Lib.compact Lib.compactUpTo; rw [List.length_map]; refine Nat.le_trans (List.length_filter_le _ _) ?_; simp
   refine ⟨bR, cap, j2, rfl, rfl, ?_, by omega⟩
   have hivM : (iv c.madeL).length = c.madeL.length := List.length_map _
   rw [List.length_append] at hjl ⊢
   omega
 ·
  obtain ⟨xk, v, bn⟩ := y
  obtain ⟨x, hvx, hxl, hxr⟩ := hT.mem hg hy
  change v = x.v at hvx
  subst hvx
  have hkin : c.In xk := ((Cn.bestO_iff.1 hxl).way.in hok).1
  have hxl3 := (hok.of hkin).len
  have hxl4 : (c.of xk).inn.length = c.n := hxl3
  have hlx : L.length + 3 * leftL l seen ≤ 3 * l.length := hI.len
  obtain ⟨rest, hdr⟩ := co_drop hok xk
  refine zD hF (y_extract (c := .bool _) rf rf) ?_
  refine zO ?_
  refine W_cond rf (fun c3 => ?_) (fun c3 => ?_)
  ·
   try simp only [qz1, qz2, qz3, qz4, qz5, qz6, qz7, qz8] at c3
   refine zU ?_
   refine W_block ?_
   refine zR fun ds => ?_
   refine zD hF (y_entryK (enc := encC) (y := (xk, x.v, bn)) (i := 0) (j := 2) rf rf rf hy hg.born) ?_
   refine zD hF (y_extract (c := .agg _) rf rf) ?_
   refine WS_new hF rf (y_alloc Tryz.zeroValue106 rf) (fun b6 => ?_)
   refine WS_store hF (us := [.int .i64 _, .int .i64 _, .int .i64 _, .int .i64 _]) (i := 0) rf rf Tryz.sizeOf106 rf rf rf d20 ?_
   refine zQ fun ds => ?_
   refine zm (.slice _ _ _) hF ?_
   refine zD hF (y_fieldAddr rf fa92_0) ?_
   refine zD hF (y_fieldAddr rf fa24_0) ?_
   refine zD hF (y_load1 rf Tryz.isAgg22 (Mem.own1 2 rf rf)) ?_
   refine zD hF (y_len rf Tryz.runUnderlying22) ?_
   refine zD hF (y_add rf rf ui) ?_
   refine zD hF (YD_eq (y_sliceA_lohi (l := 1) (h := c.n + 1) (m := 4) rf rf rf rf om0 dc om0 om0 Tryz.runUnderlying106 Tryz.sizeOf3) (show Value.slice (some ⟨b6, 1, none⟩) (c.n + 1 - 1) 3 = .slice (some ⟨b6, 1, none⟩) (c.of xk).inn.length 3 by rw [Nat.add_sub_cancel, hxl4])) ?_
   refine WS_appendN hF (H1 := (_ :: _ :: _ :: _ :: (HX))) (Hn := Hr) (news := iv (c.of xk).inn) rf rf rf Tryz.underlying22 infInt rf rf hrow (iv_len _) (.inr ⟨_, _, rfl, Mem.own (us := iv (c.of xk).inn) 0 rf hdr⟩) (iv_len _) (iv_one _) om0 om0 om0 ?_
   intro a3 cap3 H3 hr3
   rw [← List.length_append]
   have hrow3 : NewRow 3 1 (L ++ (c.of xk).inn).length (iv (L ++ (c.of xk).inn)) (.slice a3 (L ++ (c.of xk).inn).length cap3) H3 := by
    rw [show iv (L ++ (c.of xk).inn) = iv L ++ iv (c.of xk).inn from List.map_append, List.length_append]
    exact hr3
   refine za (.slice _ _ _) hF ?_
   refine WS_nil ?_
   refine InB_normal ?_
   exact Loop_next (seen.push bn, ck, L ++ (c.of xk).inn, a3, cap3, H3) ⟨hI.step hok hy hg.born hns hkin, Nat.le_refl _, hrow3⟩ s10 sbA (leftL_lt hy hns)
  ·cases c3
theorem made_any (c : Cn) (a1 : Option Addr) (p1 : Nat) (a2 : Option Addr) (p2 : Nat) (w : World) (hG : Gv w) (hn : c.n ≤ 1000000) (hm : c.inn.length ≤ 1000000) (h1 : Ints w a1 c.n p1 c.sz) (h2 : Ints w a2 c.inn.length p2 c.inn) : Ct Tryz.prog 15 #[.agg #[.slice a1 c.n p1, .slice a2 c.inn.length p2, .int .i64 c.st]] w (MadeV c) := by
 have hF := wide_wide
 refine Ct_start (args := [_]) Tryz.func15 rf Tryz.ntmps15 rf ?_
 refine zR fun ds => ?_
 refine WS_new hF rf (y_box rf) (fun b1 => ?_)
 refine za (.slice _ _ _) hF ?_
 refine za (.int .i64 _) hF ?_
 refine zO ?_
 refine zR fun ds => ?_
 refine zD hF (y_loadN rf Tryz.isAgg24 Tryz.sizeOf24 (Mem.own (us := [.slice _ _ _, .slice _ _ _, .int .i64 _]) 0 rf rf) rf) ?_
 refine zD hF (y_callL rf rf Tryz.call47 (fun w hw => ccheck_any c a1 p1 a2 p2 w (hG.st w hw) hn hm (h1.st w hw) (h2.st w hw))) ?_
 refine za (.int .i64 _) hF ?_
 refine zP fun ds => ?_
 refine zm (.int .i64 _) hF ?_
 refine zD hF (y_neq rf rf) ?_
 refine zN ?_
 refine W_cond rf (fun c2 => ?_) (fun c2 => ?_)
 ·
  try simp only [qz1, qz2, qz3, qz4, qz5, qz6, qz7, qz8] at c2
  refine zR fun ds => ?_
  refine zm (.int .i64 _) hF ?_
  refine za (.slice _ _ _) hF ?_
  refine za (.int .i64 _) hF ?_
  refine zN ?_
  refine W_ret ?_
  refine Then_ret ?_
  refine Fin_ret [.slice _ _ _, .int .i64 _] [] Tryz.results15 ⟨by rfl, by rfl, trivial⟩ HSub.nil ?_
  obtain ⟨h3, h4⟩ := Cn.err_no c2
  rw [h4]
  exact MadeV.bad h3
 ·
  try simp only [qz1, qz2, qz3, qz4, qz5, qz6, qz7, qz8] at c2
  have hokB := Cn.err_iff.1 c2
  have hok := Cn.ok_iff.1 hokB
  refine W_skip ?_
  refine zS fun ds => ?_
  refine zD hF (y_loadN rf Tryz.isAgg24 Tryz.sizeOf24 (Mem.own (us := [.slice _ _ _, .slice _ _ _, .int .i64 _]) 0 rf rf) rf) ?_
  refine zD hF (y_buildL bd92_0 rf) ?_
  refine WS_new hF rf (y_alloc Tryz.zeroValue92 rf) (fun b5 => ?_)
  refine WS_store hF (i := 0) rf rf Tryz.sizeOf92 rf rf rf d20 ?_
  refine zO ?_
  refine W_tailH 5 Tryzmixed (fun e2 H2 => ∃ b cap junk, (iv c.madeL ++ junk).length = cap * 1 ∧ c.madeL.length ≤ cap ∧ Slots e2 [(2, .slice (some ⟨b, 0, none⟩) c.madeL.length cap)] ∧ HSub H2 [(b, CB (iv c.madeL ++ junk) 3)]) dk0 (fun ds e2 H2 hmid => ?_) (fun ds => ?_)
  ·
   obtain ⟨b, cap, junk, hj1, hj2, hsl, hsb⟩ := hmid
   rw [← hsl.sets]
   refine WS_sub hsb ?_
   refine za (.int .i64 _) hF ?_
   refine zN ?_
   refine W_ret ?_
   refine Fin_ret [.slice _ _ _, .int .i64 _] [(b, _)] Tryz.results15 ⟨by rfl, by rfl, trivial⟩ (HSub.sub sbA) ?_
   exact MadeV.ok hokB (NewRow.mk rfl hj1 hj2 (Cn.made_pos hok))
  ·
   refine WH_take 0 dk0 rf dk0 dk0 rf (ye_loadN rf Tryz.isAgg92 Tryz.sizeOf92 (Mem.own (us := [.slice _ _ _, .slice _ _ _, .int .i64 _]) 0 rf rf) rf) ?_
   refine WH_take 1 dk0 rf dk0 dk0 rf (ye_loadN rf Tryz.isAgg92 Tryz.sizeOf92 (Mem.own (us := [.slice _ _ _, .slice _ _ _, .int .i64 _]) 0 rf rf) rf) ?_
   refine WH_step1 2 dk0 (fun _ h => St.sub h sbA) rf ?_
   ·
    refine WS_gen hF rf (y_callL rf rf Tryz.call50 (fun w hw => ways_any c a1 p1 a2 p2 w hok hn hm (h1.st w hw) (h2.st w hw))) ?_
    rintro _ _ ⟨mk, l, ck, HX, rfl, rfl, hg, hT⟩
    refine WS_nil ?_
    refine WH_step1 3 dk0 (fun _ h => St.sub h sbA) rf ?_
    ·
     refine WS_callS hF rf rf rf Tryz.call49 (bmade_cs _ _ _ c a1 p1 a2 p2 mk ck l _ hg (hT.mono sbA) hok) ?_
     rintro _ _ ⟨b, cap, junk, rfl, rfl, hj1, hj2⟩
     refine WS_nil ?_
     refine WH_take 4 dk0 rf dk0 dk0 rf (ye_assign (c := .slice _ _ _) rf) ?_
     refine WH_done dk0 (fun _ h => St.sub h sbA) ?_
     exact ⟨_, _, _, hj1, hj2, s30, HSub.sub sbA⟩
theorem far_any (c : Cn) (a1 : Option Addr) (p1 : Nat) (a2 : Option Addr) (p2 : Nat) (w : World) (hG : Gv w) (hn : c.n ≤ 1000000) (hm : c.inn.length ≤ 1000000) (h1 : Ints w a1 c.n p1 c.sz) (h2 : Ints w a2 c.inn.length p2 c.inn) : Ct Tryz.prog 26 #[.agg #[.slice a1 c.n p1, .slice a2 c.inn.length p2, .int .i64 c.st]] w fun v _ => FarV c v := by
 have hF := wide_wide
 refine Ct_start (args := [_]) Tryz.func26 rf Tryz.ntmps26 rf ?_
 refine zR fun ds => ?_
 refine WS_new hF rf (y_box rf) (fun b1 => ?_)
 refine za (.int .i64 _) hF ?_
 refine za (.int .i64 _) hF ?_
 refine za (.int .i64 _) hF ?_
 refine zO ?_
 refine zR fun ds => ?_
 refine zD hF (y_loadN rf Tryz.isAgg24 Tryz.sizeOf24 (Mem.own (us := [.slice _ _ _, .slice _ _ _, .int .i64 _]) 0 rf rf) rf) ?_
 refine zD hF (y_callL rf rf Tryz.call47 (fun w hw => ccheck_any c a1 p1 a2 p2 w (hG.st w hw) hn hm (h1.st w hw) (h2.st w hw))) ?_
 refine za (.int .i64 _) hF ?_
 refine zP fun ds => ?_
 refine zm (.int .i64 _) hF ?_
 refine zD hF (y_neq rf rf) ?_
 refine zN ?_
 refine W_cond rf (fun c2 => ?_) (fun c2 => ?_)
 ·
  try simp only [qz1, qz2, qz3, qz4, qz5, qz6, qz7, qz8] at c2
  refine zR fun ds => ?_
  refine zm (.int .i64 _) hF ?_
  refine za (.int .i64 _) hF ?_
  refine za (.int .i64 _) hF ?_
  refine za (.int .i64 _) hF ?_
  refine zN ?_
  refine W_ret ?_
  refine Then_ret ?_
  refine Fin_ret [.int .i64 _, .int .i64 _, .int .i64 _] [] Tryz.results26 ⟨by rfl, by rfl, by rfl, trivial⟩ HSub.nil ?_
  exact FarV.bad (Cn.err_no c2).1 rfl
 ·
  try simp only [qz1, qz2, qz3, qz4, qz5, qz6, qz7, qz8] at c2
  have hokB := Cn.err_iff.1 c2
  have hok := Cn.ok_iff.1 hokB
  have hml := c.madeL_len
  refine W_skip ?_
  refine zS fun ds => ?_
  refine zD hF (y_loadN rf Tryz.isAgg24 Tryz.sizeOf24 (Mem.own (us := [.slice _ _ _, .slice _ _ _, .int .i64 _]) 0 rf rf) rf) ?_
  refine zD hF (y_buildL bd92_0 rf) ?_
  refine WS_new hF rf (y_alloc Tryz.zeroValue92 rf) (fun b6 => ?_)
  refine WS_store hF (i := 0) rf rf Tryz.sizeOf92 rf rf rf d20 ?_
  refine zP fun ds => ?_
  refine zD hF (y_loadN rf Tryz.isAgg92 Tryz.sizeOf92 (Mem.own (us := [.slice _ _ _, .slice _ _ _, .int .i64 _]) 0 rf rf) rf) ?_
  refine WS_gen hF rf (y_callL rf rf Tryz.call50 (fun w hw => ways_any c a1 p1 a2 p2 w hok hn hm (h1.st w hw) (h2.st w hw))) ?_
  rintro _ _ ⟨mk, l, ck, HX, rfl, rfl, hg, hT⟩
  refine WS_pull (b6, CB [.slice a1 c.n p1, .slice a2 c.inn.length p2, .int .i64 c.st] 92) zu ?_
  refine za (.map _) hF ?_
  refine zP fun ds => ?_
  refine za (.int .i64 _) hF ?_
  refine zO ?_
  refine zR fun ds => ?_
  refine zD hF (y_loadN rf Tryz.isAgg92 Tryz.sizeOf92 (Mem.own (us := [.slice _ _ _, .slice _ _ _, .int .i64 _]) 0 rf rf) rf) ?_
  refine zm (.map _) hF ?_
  refine WS_pull (mk, MK encC l ck) zu ?_
  refine WS_callS hF rf rf rf Tryz.call49 (bmade_cs _ _ _ c a1 p1 a2 p2 mk ck l _ hg (hT.mono sbA) hok) ?_
  rintro _ _ ⟨bm, cap, jm, rfl, rfl, hj1, hj2⟩
  refine WS_pull (b6, CB [.slice a1 c.n p1, .slice a2 c.inn.length p2, .int .i64 c.st] 92) zu ?_
  refine zD hF (y_len rf Tryz.runUnderlying22) ?_
  refine zm (.int .i64 _) hF ?_
  refine zN ?_
  refine W_block ?_
  refine W_loop (γ := Nat) (fun k => k ≤ c.madeL.length) (fun k => [(2, .int .i64 (c.farT k).1), (3, .int .i64 (c.farT k).2), (6, .pointer (some ⟨b6, 0, none⟩)), (7, .map (some mk)), (23, .slice (some ⟨bm, 0, none⟩) c.madeL.length cap), (24, .int .i64 (c.madeL.length : Int)), (25, .int .i64 (k : Int))]) (fun k => (b6, CB [.slice a1 c.n p1, .slice a2 c.inn.length p2, .int .i64 c.st] 92) :: (bm, CB (iv c.madeL ++ jm) 3) :: (mk, MK encC l ck) :: HX) (fun k => c.madeL.length - k) (0) (Nat.zero_le _) s10 (sbA) ?_
  intro k e hk
  refine zR fun ds => ?_
  refine zD hF (y_lss rf rf) ?_
  refine zO ?_
  refine W_cond rf (fun c8 => ?_) (fun c8 => ?_)
  ·
   try simp only [qz1, qz2, qz3, qz4, qz5, qz6, qz7, qz8] at c8
   have hkl : k < c.madeL.length := by omega
   obtain ⟨n, hn⟩ : ∃ n, n = c.madeL.getD k 0 := ⟨_, rfl⟩
   have hmk := Cn.made_at hok hkl
   rw [← hn] at hmk
   have hts := Cn.farT_succ hkl
   rw [← hn] at hts
   refine zU ?_
   refine W_seq ?_
   refine W_block ?_
   refine zR fun ds => ?_
   refine zD hF (y_index (k := k) rf rf r10 d10 Tryz.runUnderlying22 Tryz.sizeOf3) ?_
   refine zD hF (y_load1 rf Tryz.isAgg3 (Mem.own (us := [.int .i64 n]) 1 rf (drop_iv om0 hn.symm))) ?_
   refine za (.int .i64 _) hF ?_
   refine zP fun ds => ?_
   refine zm (.map _) hF ?_
   refine zD hF (y_loadN rf Tryz.isAgg92 Tryz.sizeOf92 (Mem.own (us := [.slice _ _ _, .slice _ _ _, .int .i64 _]) 0 rf rf) rf) ?_
   refine zm (.int .i64 _) hF ?_
   refine WS_gen hF rf (y_callL rf rf Tryz.call54 (fun w hw => some_any c a1 p1 a2 p2 n w)) ?_
   rintro _ _ ⟨bb, bp, rfl, rfl⟩
   refine WS_pull (bp, _) zu ?_
   refine WS_pull (bb, _) zu ?_
   refine WS_pull (mk, _) zu ?_
   refine WS_callS hF rf rf rf Tryz.call66 (fewest_cs _ _ _ mk ck l c _ 100 [] [_, _] (c.someP n) hg (hT.mono sbA) [(bb, CB [.slice a1 c.n p1, .slice a2 c.inn.length p2, .int .i64 c.st] 92), (bp, CB [.int .i64 n] 3)] ⟨Tryz.call100, fun x hx C H w' hC hs hw => some1_any c a1 p1 a2 p2 x n bb bp w' hok (Mem.own (us := [.slice _ _ _, .slice _ _ _, .int _ _]) 0 rf rf w' (St.sub hw hs)) (Mem.own1 1 rf rf w' (St.sub hw hs))⟩ sbA hok) ?_
   rintro _ _ ⟨fx, fb, rfl, hfv, rfl⟩
   refine WS_pull (mk, MK encC l ck) zu ?_
   refine WS_pull (bm, CB (iv c.madeL ++ jm) 3) zu ?_
   refine WS_pull (b6, CB [.slice a1 c.n p1, .slice a2 c.inn.length p2, .int .i64 c.st] 92) zu ?_
   have hfb : fb = true := by
    cases fb with
    | true => rfl
    | false =>
     obtain ⟨wx, y, hb, hm⟩ := hmk
     exact absurd hb ((hfv.no rfl).2 y wx (Cn.someP_iff.2 hm))
   subst hfb
   have hy := hfv.yes' rfl
   have hfl : c.fl n = (fx.w.l.length : Int) := by unfold Cn.fl; rw [hy]
   refine zm (.tuple _) hF ?_
   refine zD hF (y_extract (c := .agg _) rf rf) ?_
   refine zD hF (y_extract (c := .bool _) rf rf) ?_
   refine WS_new hF rf (y_alloc Tryz.zeroValue118 rf) (fun b10 => ?_)
   refine WS_store hF (i := 0) rf rf Tryz.sizeOf118 rf rf rf d20 ?_
   refine za (.bool _) hF ?_
   refine zP fun ds => ?_
   refine zD hF (y_fieldAddr rf fa118_0) ?_
   refine zD hF (y_load1 rf Tryz.isAgg35 (Mem.own1 0 rf rf)) ?_
   refine zD hF (y_len rf Tryz.runUnderlying35) ?_
   refine zm (.int .i64 _) hF ?_
   refine zD hF (y_gtr rf rf) ?_
   refine zN ?_
   refine W_cond rf (fun c11 => ?_) (fun c11 => ?_)
   ·
    try simp only [qz1, qz2, qz3, qz4, qz5, qz6, qz7, qz8] at c11
    have hT1 : c.farT (k + 1) = (n, (fx.w.l.length : Int)) := by rw [hts]; unfold Cn.farS; rw [hfl]; exact if_pos c11
    refine W_draw0 hF Tryzmixed [] dk0 (fun ds => ?_)
    refine P_det rf (Over_nil (y_move (c := .int .i64 _) rf)) ?_
    refine P_det rf (Over_nil (y_fieldAddr rf fa118_0)) ?_
    refine P_det rf (Over_nil (y_load1 rf Tryz.isAgg35 (Mem.own1 0 rf rf))) ?_
    refine P_det rf (Over_nil (y_len rf Tryz.runUnderlying35)) ?_
    refine P_det rf (Over_nil (y_assign (c := .int .i64 _) rf)) ?_
    refine P_det rf (Over_nil (y_assign (c := .int .i64 _) rf)) ?_
    refine PW_end rf ?_
    refine OverAll_nil ?_
    rintro -
    refine InB_normal ?_
    refine zT fun ds => ?_
    refine zD hF (y_add rf rf ui) ?_
    refine zm (.int .i64 _) hF ?_
    refine WS_nil ?_
    exact Loop_next (k + 1) om0 (by rw [hT1]; repeat (first | exact trivial | refine ⟨by rfl, ?_⟩)) sbA om0
   ·
    try simp only [qz1, qz2, qz3, qz4, qz5, qz6, qz7, qz8] at c11
    have hT1 : c.farT (k + 1) = c.farT k := by rw [hts]; unfold Cn.farS; rw [hfl]; exact if_neg (fun h => absurd h (Int.not_lt.2 c11))
    refine W_skip ?_
    refine InB_normal ?_
    refine zT fun ds => ?_
    refine zD hF (y_add rf rf ui) ?_
    refine zm (.int .i64 _) hF ?_
    refine WS_nil ?_
    exact Loop_next (k + 1) om0 (by rw [hT1]; repeat (first | exact trivial | refine ⟨by rfl, ?_⟩)) sbA om0
  ·
   try simp only [qz1, qz2, qz3, qz4, qz5, qz6, qz7, qz8] at c8
   obtain rfl : k = c.madeL.length := by omega
   refine W_exit ?_
   refine Then_exit ?_
   refine Loop_exit ?_
   refine InB_same ?_
   refine zS fun ds => ?_
   refine zm (.int .i64 _) hF ?_
   refine zm (.int .i64 _) hF ?_
   refine za (.int .i64 _) hF ?_
   refine za (.int .i64 _) hF ?_
   refine za (.int .i64 _) hF ?_
   refine zN ?_
   refine W_ret ?_
   refine Fin_ret [.int .i64 _, .int .i64 _, .int .i64 _] [] Tryz.results26 ⟨by rfl, by rfl, by rfl, trivial⟩ HSub.nil ?_
   exact FarV.ok hokB c2
def Cn.more (c : Cn) (n : Int) : Cn := ⟨c.sz ++ [n], c.inn ++ [0], c.st⟩
theorem iv_snoc (xs : List Int) (n : Int) : iv xs ++ [Value.int .i64 n] = iv (xs ++ [n]) := by simp [iv]
theorem Cn.more_n (c : Cn) (n : Int) : (c.more n).n = c.n + 1 := by unfold Cn.more Cn.n; simp
theorem Cn.more_m (c : Cn) (n : Int) : (c.more n).inn.length = c.inn.length + 1 := by unfold Cn.more; simp
theorem cwith_any (c : Cn) (a1 : Option Addr) (p1 : Nat) (a2 : Option Addr) (p2 : Nat) (n : Int) (w : World) (hn : c.n ≤ 1000000) (hm : c.inn.length ≤ 1000000) (h1 : Ints w a1 c.n p1 c.sz) (h2 : Ints w a2 c.inn.length p2 c.inn) : Ct Tryz.prog 82 #[.agg #[.slice a1 c.n p1, .slice a2 c.inn.length p2, .int .i64 c.st], .int .i64 n] w (TwinC (c.more n)) := by
 have hn' : c.sz.length ≤ 1000000 := hn
 have hmn := c.more_n n
 have hmm := c.more_m n
 have hF := wide_wide
 refine Ct_start (args := [_, _]) Tryz.func82 rf Tryz.ntmps82 rf ?_
 refine zR fun ds => ?_
 refine WS_new hF rf (y_box rf) (fun b2 => ?_)
 refine WS_new hF rf (y_alloc Tryz.zeroValue24 rf) (fun b4 => ?_)
 refine zO ?_
 refine W_tailH 14 Tryzmixed (fun e2 H2 => ∃ s1 k1 s2 k2 K1 K2, NewRow 3 1 (c.more n).n (iv (c.more n).sz) (.slice s1 (c.more n).n k1) K1 ∧ NewRow 3 1 (c.more n).inn.length (iv (c.more n).inn) (.slice s2 (c.more n).inn.length k2) K2 ∧ Slots e2 [(4, .pointer (some ⟨b4, 0, none⟩)), (18, .agg #[.slice s1 (c.more n).n k1, .slice s2 (c.more n).inn.length k2, .int .i64 c.st])] ∧ HSub H2 ((b4, CB [.slice none 0 0, .slice none 0 0, .int .i64 0] 24) :: (K1 ++ K2))) dk0 (fun ds e2 H2 hmid => ?_) (fun ds => ?_)
 ·
  obtain ⟨s1, k1, s2, k2, K1, K2, hr1, hr2, hsl, hsb⟩ := hmid
  rw [← hsl.sets]
  refine WS_sub hsb ?_
  refine WS_store hF (i := 0) rf rf Tryz.sizeOf24 rf rf rf d20 ?_
  refine zN ?_
  refine W_ret ?_
  refine Fin_ret [_] (K1 ++ K2) Tryz.results82 ⟨lvN rf Tryz.isAgg24 Tryz.sizeOf24 (Mem.own (us := [.slice _ _ _, .slice _ _ _, .int .i64 _]) 0 rf rf) rf, trivial⟩ (HSub.sub sbA) ?_
  exact ⟨_, _, _, _, K1, K2, rfl, hr1, hr2, rfl⟩
 ·
  refine WH_as (fun X hX => ?_)
  have J2_4_5_8_9 : ∀ (ka : Option Addr) (kk : Nat) (K1 : List Blk) (da : Option Addr) (dk : Nat) (Hd : List Blk) (bt : Nat) (hk1 : NewRow 3 1 (c.more n).n (iv (c.more n).sz) (.slice ka (c.more n).n kk) K1) (hd1 : NewRow 3 1 c.inn.length (iv c.inn) (.slice da c.inn.length dk) Hd) (e2 : Env) (H2 : List Blk), Slots e2 [(2, .pointer (some ⟨b2, 0, none⟩)), (4, .pointer (some ⟨b4, 0, none⟩)), (6, .slice a1 c.n p1), (8, .int .i64 n), (12, .slice a2 c.inn.length p2), (17, .int .i64 c.st), (10, .slice ka (c.n + 1) kk), (13, .slice da c.inn.length dk), (14, .slice (some ⟨bt, 0, none⟩) 1 1)] → HSub H2 ((bt, CB [.int .i64 0] 3) :: (b4, CB [.slice none 0 0, .slice none 0 0, .int .i64 0] 24) :: (b2, CB [.slice a1 c.n p1, .slice a2 c.inn.length p2, .int .i64 c.st] 24) :: K1 ++ (Hd)) → X 2 #[true, true, true, true, true, true, true, true, true, true, false, true, true, false] e2 H2 := by
   intro ka kk K1 da dk Hd bt hk1 hd1 e2 H2 hsl hsb
   rw [← hsl.sets, hX]
   refine WH_sub hsb (HSub.sub sbA) ?_
   refine WH_step1 10 dk0 (fun _ h => St.sub h sbA) rf ?_
   ·
    refine WS_pull (bt, _) zu ?_
    refine WS_pullE Hd (by repeat (first | exact PulE.hd | exact PulE.snd | exact PulE.one | apply PulE.cons | apply PulE.app)) ?_
    refine WS_appendN hF (H1 := (_ :: _ :: _ :: (K1))) (Hn := Hd) rf rf rf Tryz.underlying22 infInt rf rf hd1 (iv_len c.inn) (.inr ⟨bt, 0, rfl, Mem.own1 0 rf rf⟩) rf rf om0 om0 om0 ?_
    intro ma mk K2 hr4
    have hk2 : NewRow 3 1 (c.more n).inn.length (iv (c.more n).inn) (.slice ma (c.more n).inn.length mk) K2 := by rw [hmm]; show NewRow _ _ _ (iv (c.inn ++ [0])) _ _; rw [← iv_snoc]; exact hr4
    refine WS_nil ?_
    refine WH_take 13 dk0 rf dk0 dk0 rf (ye_buildL bd24_0_1_2 rf) ?_
    refine WH_done dk0 (fun _ h => St.sub h sbA) ?_
    rw [← hmn, ← hmm]
    exact ⟨_, _, _, _, K1, K2, hk1, hk2, s30, HSub.sub sbA⟩
  have J2_4_5_8 : ∀ (ka : Option Addr) (kk : Nat) (K1 : List Blk) (da : Option Addr) (dk : Nat) (Hd : List Blk) (hk1 : NewRow 3 1 (c.more n).n (iv (c.more n).sz) (.slice ka (c.more n).n kk) K1) (hd1 : NewRow 3 1 c.inn.length (iv c.inn) (.slice da c.inn.length dk) Hd) (e2 : Env) (H2 : List Blk), Slots e2 [(2, .pointer (some ⟨b2, 0, none⟩)), (4, .pointer (some ⟨b4, 0, none⟩)), (6, .slice a1 c.n p1), (8, .int .i64 n), (12, .slice a2 c.inn.length p2), (17, .int .i64 c.st), (10, .slice ka (c.n + 1) kk), (13, .slice da c.inn.length dk)] → HSub H2 ((b4, CB [.slice none 0 0, .slice none 0 0, .int .i64 0] 24) :: (b2, CB [.slice a1 c.n p1, .slice a2 c.inn.length p2, .int .i64 c.st] 24) :: K1 ++ (Hd)) → X 3 #[true, true, true, true, true, true, true, true, true, false, false, true, true, false] e2 H2 := by
   intro ka kk K1 da dk Hd hk1 hd1 e2 H2 hsl hsb
   rw [← hsl.sets, hX]
   refine WH_sub hsb (HSub.sub sbA) ?_
   refine WH_step1 9 dk0 (fun _ h => St.sub h sbA) rf ?_
   ·
    refine WS_newS hF rf (y_buildSliceL bs22_1_0 rf) (fun bt => ?_)
    refine WS_nil ?_
    refine WH_pullL Hd (by repeat (first | exact PulL.base | exact PulL.base1 | apply PulL.cons | apply PulL.app)) ?_
    refine WH_pullL K1 (by repeat (first | exact PulL.base | exact PulL.base1 | apply PulL.cons | apply PulL.app)) ?_
    refine WH_pull (b2, CB [.slice a1 c.n p1, .slice a2 c.inn.length p2, .int .i64 c.st] 24) zu ?_
    refine WH_pull (b4, CB [.slice none 0 0, .slice none 0 0, .int .i64 0] 24) zu ?_
    refine WH_pull (bt, CB [.int .i64 0] 3) zu ?_
    exact WH_of hX rf dk0 (J2_4_5_8_9 ka kk K1 da dk Hd bt hk1 hd1 _ _ s10 (HSub.sub (by repeat (first | exact List.nil_sublist _ | exact List.Sublist.refl _ | exact List.sublist_append_left _ _ | apply List.Sublist.cons_cons | apply List.Sublist.append_left))))
  have J2_4_5_9 : ∀ (ka : Option Addr) (kk : Nat) (K1 : List Blk) (bt : Nat) (hk1 : NewRow 3 1 (c.more n).n (iv (c.more n).sz) (.slice ka (c.more n).n kk) K1) (e2 : Env) (H2 : List Blk), Slots e2 [(2, .pointer (some ⟨b2, 0, none⟩)), (4, .pointer (some ⟨b4, 0, none⟩)), (6, .slice a1 c.n p1), (8, .int .i64 n), (12, .slice a2 c.inn.length p2), (17, .int .i64 c.st), (10, .slice ka (c.n + 1) kk), (14, .slice (some ⟨bt, 0, none⟩) 1 1)] → HSub H2 ((bt, CB [.int .i64 0] 3) :: (b4, CB [.slice none 0 0, .slice none 0 0, .int .i64 0] 24) :: (b2, CB [.slice a1 c.n p1, .slice a2 c.inn.length p2, .int .i64 c.st] 24) :: K1) → X 3 #[true, true, true, true, true, true, true, true, false, true, false, true, true, false] e2 H2 := by
   intro ka kk K1 bt hk1 e2 H2 hsl hsb
   rw [← hsl.sets, hX]
   refine WH_sub hsb (HSub.sub sbA) ?_
   refine WH_step1 8 dk0 (fun _ h => St.sub h sbA) rf ?_
   ·
    refine WS_gen hF rf (y_callL rf rf Tryz.call72 (fun w hw => cloneN_any a2 c.inn.length p2 c.inn w hm (h2.st w hw))) ?_
    rintro _ Hd ⟨da, dk, rfl, hd1⟩
    refine WS_nil ?_
    refine WH_pullL Hd (by repeat (first | exact PulL.base | exact PulL.base1 | apply PulL.cons | apply PulL.app)) ?_
    refine WH_pullL K1 (by repeat (first | exact PulL.base | exact PulL.base1 | apply PulL.cons | apply PulL.app)) ?_
    refine WH_pull (b2, CB [.slice a1 c.n p1, .slice a2 c.inn.length p2, .int .i64 c.st] 24) zu ?_
    refine WH_pull (b4, CB [.slice none 0 0, .slice none 0 0, .int .i64 0] 24) zu ?_
    refine WH_pull (bt, CB [.int .i64 0] 3) zu ?_
    exact WH_of hX rf dk0 (J2_4_5_8_9 ka kk K1 da dk Hd bt hk1 hd1 _ _ s10 (HSub.sub (by repeat (first | exact List.nil_sublist _ | exact List.Sublist.refl _ | exact List.sublist_append_left _ _ | apply List.Sublist.cons_cons | apply List.Sublist.append_left))))
  have J2_4_5 : ∀ (ka : Option Addr) (kk : Nat) (K1 : List Blk) (hk1 : NewRow 3 1 (c.more n).n (iv (c.more n).sz) (.slice ka (c.more n).n kk) K1) (e2 : Env) (H2 : List Blk), Slots e2 [(2, .pointer (some ⟨b2, 0, none⟩)), (4, .pointer (some ⟨b4, 0, none⟩)), (6, .slice a1 c.n p1), (8, .int .i64 n), (12, .slice a2 c.inn.length p2), (17, .int .i64 c.st), (10, .slice ka (c.n + 1) kk)] → HSub H2 ((b4, CB [.slice none 0 0, .slice none 0 0, .int .i64 0] 24) :: (b2, CB [.slice a1 c.n p1, .slice a2 c.inn.length p2, .int .i64 c.st] 24) :: K1) → X 4 #[true, true, true, true, true, true, true, true, false, false, false, true, true, false] e2 H2 := by
   intro ka kk K1 hk1 e2 H2 hsl hsb
   rw [← hsl.sets, hX]
   refine WH_sub hsb (HSub.sub sbA) ?_
   refine WH_step2 8 9 dk0 (fun _ h => St.sub h sbA) rf rf ?_ ?_
   ·
    refine WS_gen hF rf (y_callL rf rf Tryz.call72 (fun w hw => cloneN_any a2 c.inn.length p2 c.inn w hm (h2.st w hw))) ?_
    rintro _ Hd ⟨da, dk, rfl, hd1⟩
    refine WS_nil ?_
    refine WH_pullL Hd (by repeat (first | exact PulL.base | exact PulL.base1 | apply PulL.cons | apply PulL.app)) ?_
    refine WH_pullL K1 (by repeat (first | exact PulL.base | exact PulL.base1 | apply PulL.cons | apply PulL.app)) ?_
    refine WH_pull (b2, CB [.slice a1 c.n p1, .slice a2 c.inn.length p2, .int .i64 c.st] 24) zu ?_
    refine WH_pull (b4, CB [.slice none 0 0, .slice none 0 0, .int .i64 0] 24) zu ?_
    exact WH_of hX rf dk0 (J2_4_5_8 ka kk K1 da dk Hd hk1 hd1 _ _ s10 (HSub.sub (by repeat (first | exact List.nil_sublist _ | exact List.Sublist.refl _ | exact List.sublist_append_left _ _ | apply List.Sublist.cons_cons | apply List.Sublist.append_left))))
   ·
    refine WS_newS hF rf (y_buildSliceL bs22_1_0 rf) (fun bt => ?_)
    refine WS_nil ?_
    refine WH_pullL K1 (by repeat (first | exact PulL.base | exact PulL.base1 | apply PulL.cons | apply PulL.app)) ?_
    refine WH_pull (b2, CB [.slice a1 c.n p1, .slice a2 c.inn.length p2, .int .i64 c.st] 24) zu ?_
    refine WH_pull (b4, CB [.slice none 0 0, .slice none 0 0, .int .i64 0] 24) zu ?_
    refine WH_pull (bt, CB [.int .i64 0] 3) zu ?_
    exact WH_of hX rf dk0 (J2_4_5_9 ka kk K1 bt hk1 _ _ s10 (HSub.sub (by repeat (first | exact List.nil_sublist _ | exact List.Sublist.refl _ | exact List.sublist_append_left _ _ | apply List.Sublist.cons_cons | apply List.Sublist.append_left))))
  have J2_4_9 : ∀ (ca : Option Addr) (ck : Nat) (Hc : List Blk) (bs : Nat) (bt : Nat) (hc1 : NewRow 3 1 c.n (iv c.sz) (.slice ca c.n ck) Hc) (e2 : Env) (H2 : List Blk), Slots e2 [(2, .pointer (some ⟨b2, 0, none⟩)), (4, .pointer (some ⟨b4, 0, none⟩)), (6, .slice a1 c.n p1), (8, .int .i64 n), (12, .slice a2 c.inn.length p2), (17, .int .i64 c.st), (7, .slice ca c.n ck), (9, .slice (some ⟨bs, 0, none⟩) 1 1), (14, .slice (some ⟨bt, 0, none⟩) 1 1)] → HSub H2 ((bs, CB [.int .i64 n] 3) :: (bt, CB [.int .i64 0] 3) :: (b4, CB [.slice none 0 0, .slice none 0 0, .int .i64 0] 24) :: (b2, CB [.slice a1 c.n p1, .slice a2 c.inn.length p2, .int .i64 c.st] 24) :: Hc) → X 4 #[true, true, true, true, true, false, true, true, false, true, false, true, true, false] e2 H2 := by
   intro ca ck Hc bs bt hc1 e2 H2 hsl hsb
   rw [← hsl.sets, hX]
   refine WH_sub hsb (HSub.sub sbA) ?_
   refine WH_step1 5 dk0 (fun _ h => St.sub h sbA) rf ?_
   ·
    refine WS_pull (bs, _) zu ?_
    refine WS_pullE Hc (by repeat (first | exact PulE.hd | exact PulE.snd | exact PulE.one | apply PulE.cons | apply PulE.app)) ?_
    refine WS_appendN hF (H1 := (_ :: _ :: _ :: _ :: [])) (Hn := Hc) rf rf rf Tryz.underlying22 infInt rf rf hc1 (iv_len c.sz) (.inr ⟨bs, 0, rfl, Mem.own1 0 rf rf⟩) rf rf om0 om0 om0 ?_
    intro ka kk K1 hr3
    have hk1 : NewRow 3 1 (c.more n).n (iv (c.more n).sz) (.slice ka (c.more n).n kk) K1 := by rw [hmn]; show NewRow _ _ _ (iv (c.sz ++ [n])) _ _; rw [← iv_snoc]; exact hr3
    refine WS_nil ?_
    refine WH_pullL K1 (by repeat (first | exact PulL.base | exact PulL.base1 | apply PulL.cons | apply PulL.app)) ?_
    refine WH_pull (b2, CB [.slice a1 c.n p1, .slice a2 c.inn.length p2, .int .i64 c.st] 24) zu ?_
    refine WH_pull (b4, CB [.slice none 0 0, .slice none 0 0, .int .i64 0] 24) zu ?_
    refine WH_pull (bt, CB [.int .i64 0] 3) zu ?_
    exact WH_of hX rf dk0 (J2_4_5_9 ka kk K1 bt hk1 _ _ s10 (HSub.sub (by repeat (first | exact List.nil_sublist _ | exact List.Sublist.refl _ | exact List.sublist_append_left _ _ | apply List.Sublist.cons_cons | apply List.Sublist.append_left))))
  have J2_4 : ∀ (ca : Option Addr) (ck : Nat) (Hc : List Blk) (bs : Nat) (hc1 : NewRow 3 1 c.n (iv c.sz) (.slice ca c.n ck) Hc) (e2 : Env) (H2 : List Blk), Slots e2 [(2, .pointer (some ⟨b2, 0, none⟩)), (4, .pointer (some ⟨b4, 0, none⟩)), (6, .slice a1 c.n p1), (8, .int .i64 n), (12, .slice a2 c.inn.length p2), (17, .int .i64 c.st), (7, .slice ca c.n ck), (9, .slice (some ⟨bs, 0, none⟩) 1 1)] → HSub H2 ((bs, CB [.int .i64 n] 3) :: (b4, CB [.slice none 0 0, .slice none 0 0, .int .i64 0] 24) :: (b2, CB [.slice a1 c.n p1, .slice a2 c.inn.length p2, .int .i64 c.st] 24) :: Hc) → X 5 #[true, true, true, true, true, false, true, true, false, false, false, true, true, false] e2 H2 := by
   intro ca ck Hc bs hc1 e2 H2 hsl hsb
   rw [← hsl.sets, hX]
   refine WH_sub hsb (HSub.sub sbA) ?_
   refine WH_step2 5 9 dk0 (fun _ h => St.sub h sbA) rf rf ?_ ?_
   ·
    refine WS_pull (bs, _) zu ?_
    refine WS_pullE Hc (by repeat (first | exact PulE.hd | exact PulE.snd | exact PulE.one | apply PulE.cons | apply PulE.app)) ?_
    refine WS_appendN hF (H1 := (_ :: _ :: _ :: [])) (Hn := Hc) rf rf rf Tryz.underlying22 infInt rf rf hc1 (iv_len c.sz) (.inr ⟨bs, 0, rfl, Mem.own1 0 rf rf⟩) rf rf om0 om0 om0 ?_
    intro ka kk K1 hr3
    have hk1 : NewRow 3 1 (c.more n).n (iv (c.more n).sz) (.slice ka (c.more n).n kk) K1 := by rw [hmn]; show NewRow _ _ _ (iv (c.sz ++ [n])) _ _; rw [← iv_snoc]; exact hr3
    refine WS_nil ?_
    refine WH_pullL K1 (by repeat (first | exact PulL.base | exact PulL.base1 | apply PulL.cons | apply PulL.app)) ?_
    refine WH_pull (b2, CB [.slice a1 c.n p1, .slice a2 c.inn.length p2, .int .i64 c.st] 24) zu ?_
    refine WH_pull (b4, CB [.slice none 0 0, .slice none 0 0, .int .i64 0] 24) zu ?_
    exact WH_of hX rf dk0 (J2_4_5 ka kk K1 hk1 _ _ s10 (HSub.sub (by repeat (first | exact List.nil_sublist _ | exact List.Sublist.refl _ | exact List.sublist_append_left _ _ | apply List.Sublist.cons_cons | apply List.Sublist.append_left))))
   ·
    refine WS_newS hF rf (y_buildSliceL bs22_1_0 rf) (fun bt => ?_)
    refine WS_nil ?_
    refine WH_pullL Hc (by repeat (first | exact PulL.base | exact PulL.base1 | apply PulL.cons | apply PulL.app)) ?_
    refine WH_pull (b2, CB [.slice a1 c.n p1, .slice a2 c.inn.length p2, .int .i64 c.st] 24) zu ?_
    refine WH_pull (b4, CB [.slice none 0 0, .slice none 0 0, .int .i64 0] 24) zu ?_
    refine WH_pull (bt, CB [.int .i64 0] 3) zu ?_
    refine WH_pull (bs, CB [.int .i64 n] 3) zu ?_
    exact WH_of hX rf dk0 (J2_4_9 ca ck Hc bs bt hc1 _ _ s10 (HSub.sub (by repeat (first | exact List.nil_sublist _ | exact List.Sublist.refl _ | exact List.sublist_append_left _ _ | apply List.Sublist.cons_cons | apply List.Sublist.append_left))))
  have J2_9 : ∀ (ca : Option Addr) (ck : Nat) (Hc : List Blk) (bt : Nat) (hc1 : NewRow 3 1 c.n (iv c.sz) (.slice ca c.n ck) Hc) (e2 : Env) (H2 : List Blk), Slots e2 [(2, .pointer (some ⟨b2, 0, none⟩)), (4, .pointer (some ⟨b4, 0, none⟩)), (6, .slice a1 c.n p1), (8, .int .i64 n), (12, .slice a2 c.inn.length p2), (17, .int .i64 c.st), (7, .slice ca c.n ck), (14, .slice (some ⟨bt, 0, none⟩) 1 1)] → HSub H2 ((bt, CB [.int .i64 0] 3) :: (b4, CB [.slice none 0 0, .slice none 0 0, .int .i64 0] 24) :: (b2, CB [.slice a1 c.n p1, .slice a2 c.inn.length p2, .int .i64 c.st] 24) :: Hc) → X 5 #[true, true, true, true, false, false, true, true, false, true, false, true, true, false] e2 H2 := by
   intro ca ck Hc bt hc1 e2 H2 hsl hsb
   rw [← hsl.sets, hX]
   refine WH_sub hsb (HSub.sub sbA) ?_
   refine WH_step1 4 dk0 (fun _ h => St.sub h sbA) rf ?_
   ·
    refine WS_newS hF rf (y_buildSliceL bs22_1_0 rf) (fun bs => ?_)
    refine WS_nil ?_
    refine WH_pullL Hc (by repeat (first | exact PulL.base | exact PulL.base1 | apply PulL.cons | apply PulL.app)) ?_
    refine WH_pull (b2, CB [.slice a1 c.n p1, .slice a2 c.inn.length p2, .int .i64 c.st] 24) zu ?_
    refine WH_pull (b4, CB [.slice none 0 0, .slice none 0 0, .int .i64 0] 24) zu ?_
    refine WH_pull (bt, CB [.int .i64 0] 3) zu ?_
    refine WH_pull (bs, CB [.int .i64 n] 3) zu ?_
    exact WH_of hX rf dk0 (J2_4_9 ca ck Hc bs bt hc1 _ _ s10 (HSub.sub (by repeat (first | exact List.nil_sublist _ | exact List.Sublist.refl _ | exact List.sublist_append_left _ _ | apply List.Sublist.cons_cons | apply List.Sublist.append_left))))
  have J4_9 : ∀ (bs : Nat) (bt : Nat) (e2 : Env) (H2 : List Blk), Slots e2 [(2, .pointer (some ⟨b2, 0, none⟩)), (4, .pointer (some ⟨b4, 0, none⟩)), (6, .slice a1 c.n p1), (8, .int .i64 n), (12, .slice a2 c.inn.length p2), (17, .int .i64 c.st), (9, .slice (some ⟨bs, 0, none⟩) 1 1), (14, .slice (some ⟨bt, 0, none⟩) 1 1)] → HSub H2 ((bs, CB [.int .i64 n] 3) :: (bt, CB [.int .i64 0] 3) :: (b4, CB [.slice none 0 0, .slice none 0 0, .int .i64 0] 24) :: (b2, CB [.slice a1 c.n p1, .slice a2 c.inn.length p2, .int .i64 c.st] 24) :: []) → X 5 #[true, true, false, true, true, false, true, true, false, true, false, true, true, false] e2 H2 := by
   intro bs bt e2 H2 hsl hsb
   rw [← hsl.sets, hX]
   refine WH_sub hsb (HSub.sub sbA) ?_
   refine WH_step1 2 dk0 (fun _ h => St.sub h sbA) rf ?_
   ·
    refine WS_gen hF rf (y_callL rf rf Tryz.call72 (fun w hw => cloneN_any a1 c.n p1 c.sz w hn (h1.st w hw))) ?_
    rintro _ Hc ⟨ca, ck, rfl, hc1⟩
    refine WS_nil ?_
    refine WH_pullL Hc (by repeat (first | exact PulL.base | exact PulL.base1 | apply PulL.cons | apply PulL.app)) ?_
    refine WH_pull (b2, CB [.slice a1 c.n p1, .slice a2 c.inn.length p2, .int .i64 c.st] 24) zu ?_
    refine WH_pull (b4, CB [.slice none 0 0, .slice none 0 0, .int .i64 0] 24) zu ?_
    refine WH_pull (bt, CB [.int .i64 0] 3) zu ?_
    refine WH_pull (bs, CB [.int .i64 n] 3) zu ?_
    exact WH_of hX rf dk0 (J2_4_9 ca ck Hc bs bt hc1 _ _ s10 (HSub.sub (by repeat (first | exact List.nil_sublist _ | exact List.Sublist.refl _ | exact List.sublist_append_left _ _ | apply List.Sublist.cons_cons | apply List.Sublist.append_left))))
  have J2 : ∀ (ca : Option Addr) (ck : Nat) (Hc : List Blk) (hc1 : NewRow 3 1 c.n (iv c.sz) (.slice ca c.n ck) Hc) (e2 : Env) (H2 : List Blk), Slots e2 [(2, .pointer (some ⟨b2, 0, none⟩)), (4, .pointer (some ⟨b4, 0, none⟩)), (6, .slice a1 c.n p1), (8, .int .i64 n), (12, .slice a2 c.inn.length p2), (17, .int .i64 c.st), (7, .slice ca c.n ck)] → HSub H2 ((b4, CB [.slice none 0 0, .slice none 0 0, .int .i64 0] 24) :: (b2, CB [.slice a1 c.n p1, .slice a2 c.inn.length p2, .int .i64 c.st] 24) :: Hc) → X 6 #[true, true, true, true, false, false, true, true, false, false, false, true, true, false] e2 H2 := by
   intro ca ck Hc hc1 e2 H2 hsl hsb
   rw [← hsl.sets, hX]
   refine WH_sub hsb (HSub.sub sbA) ?_
   refine WH_step2 4 9 dk0 (fun _ h => St.sub h sbA) rf rf ?_ ?_
   ·
    refine WS_newS hF rf (y_buildSliceL bs22_1_0 rf) (fun bs => ?_)
    refine WS_nil ?_
    refine WH_pullL Hc (by repeat (first | exact PulL.base | exact PulL.base1 | apply PulL.cons | apply PulL.app)) ?_
    refine WH_pull (b2, CB [.slice a1 c.n p1, .slice a2 c.inn.length p2, .int .i64 c.st] 24) zu ?_
    refine WH_pull (b4, CB [.slice none 0 0, .slice none 0 0, .int .i64 0] 24) zu ?_
    refine WH_pull (bs, CB [.int .i64 n] 3) zu ?_
    exact WH_of hX rf dk0 (J2_4 ca ck Hc bs hc1 _ _ s10 (HSub.sub (by repeat (first | exact List.nil_sublist _ | exact List.Sublist.refl _ | exact List.sublist_append_left _ _ | apply List.Sublist.cons_cons | apply List.Sublist.append_left))))
   ·
    refine WS_newS hF rf (y_buildSliceL bs22_1_0 rf) (fun bt => ?_)
    refine WS_nil ?_
    refine WH_pullL Hc (by repeat (first | exact PulL.base | exact PulL.base1 | apply PulL.cons | apply PulL.app)) ?_
    refine WH_pull (b2, CB [.slice a1 c.n p1, .slice a2 c.inn.length p2, .int .i64 c.st] 24) zu ?_
    refine WH_pull (b4, CB [.slice none 0 0, .slice none 0 0, .int .i64 0] 24) zu ?_
    refine WH_pull (bt, CB [.int .i64 0] 3) zu ?_
    exact WH_of hX rf dk0 (J2_9 ca ck Hc bt hc1 _ _ s10 (HSub.sub (by repeat (first | exact List.nil_sublist _ | exact List.Sublist.refl _ | exact List.sublist_append_left _ _ | apply List.Sublist.cons_cons | apply List.Sublist.append_left))))
  have J4 : ∀ (bs : Nat) (e2 : Env) (H2 : List Blk), Slots e2 [(2, .pointer (some ⟨b2, 0, none⟩)), (4, .pointer (some ⟨b4, 0, none⟩)), (6, .slice a1 c.n p1), (8, .int .i64 n), (12, .slice a2 c.inn.length p2), (17, .int .i64 c.st), (9, .slice (some ⟨bs, 0, none⟩) 1 1)] → HSub H2 ((bs, CB [.int .i64 n] 3) :: (b4, CB [.slice none 0 0, .slice none 0 0, .int .i64 0] 24) :: (b2, CB [.slice a1 c.n p1, .slice a2 c.inn.length p2, .int .i64 c.st] 24) :: []) → X 6 #[true, true, false, true, true, false, true, true, false, false, false, true, true, false] e2 H2 := by
   intro bs e2 H2 hsl hsb
   rw [← hsl.sets, hX]
   refine WH_sub hsb (HSub.sub sbA) ?_
   refine WH_step2 2 9 dk0 (fun _ h => St.sub h sbA) rf rf ?_ ?_
   ·
    refine WS_gen hF rf (y_callL rf rf Tryz.call72 (fun w hw => cloneN_any a1 c.n p1 c.sz w hn (h1.st w hw))) ?_
    rintro _ Hc ⟨ca, ck, rfl, hc1⟩
    refine WS_nil ?_
    refine WH_pullL Hc (by repeat (first | exact PulL.base | exact PulL.base1 | apply PulL.cons | apply PulL.app)) ?_
    refine WH_pull (b2, CB [.slice a1 c.n p1, .slice a2 c.inn.length p2, .int .i64 c.st] 24) zu ?_
    refine WH_pull (b4, CB [.slice none 0 0, .slice none 0 0, .int .i64 0] 24) zu ?_
    refine WH_pull (bs, CB [.int .i64 n] 3) zu ?_
    exact WH_of hX rf dk0 (J2_4 ca ck Hc bs hc1 _ _ s10 (HSub.sub (by repeat (first | exact List.nil_sublist _ | exact List.Sublist.refl _ | exact List.sublist_append_left _ _ | apply List.Sublist.cons_cons | apply List.Sublist.append_left))))
   ·
    refine WS_newS hF rf (y_buildSliceL bs22_1_0 rf) (fun bt => ?_)
    refine WS_nil ?_
    refine WH_pull (b2, CB [.slice a1 c.n p1, .slice a2 c.inn.length p2, .int .i64 c.st] 24) zu ?_
    refine WH_pull (b4, CB [.slice none 0 0, .slice none 0 0, .int .i64 0] 24) zu ?_
    refine WH_pull (bt, CB [.int .i64 0] 3) zu ?_
    refine WH_pull (bs, CB [.int .i64 n] 3) zu ?_
    exact WH_of hX rf dk0 (J4_9 bs bt _ _ s10 (HSub.sub (by repeat (first | exact List.nil_sublist _ | exact List.Sublist.refl _ | exact List.sublist_append_left _ _ | apply List.Sublist.cons_cons | apply List.Sublist.append_left))))
  have J9 : ∀ (bt : Nat) (e2 : Env) (H2 : List Blk), Slots e2 [(2, .pointer (some ⟨b2, 0, none⟩)), (4, .pointer (some ⟨b4, 0, none⟩)), (6, .slice a1 c.n p1), (8, .int .i64 n), (12, .slice a2 c.inn.length p2), (17, .int .i64 c.st), (14, .slice (some ⟨bt, 0, none⟩) 1 1)] → HSub H2 ((bt, CB [.int .i64 0] 3) :: (b4, CB [.slice none 0 0, .slice none 0 0, .int .i64 0] 24) :: (b2, CB [.slice a1 c.n p1, .slice a2 c.inn.length p2, .int .i64 c.st] 24) :: []) → X 6 #[true, true, false, true, false, false, true, true, false, true, false, true, true, false] e2 H2 := by
   intro bt e2 H2 hsl hsb
   rw [← hsl.sets, hX]
   refine WH_sub hsb (HSub.sub sbA) ?_
   refine WH_step2 2 4 dk0 (fun _ h => St.sub h sbA) rf rf ?_ ?_
   ·
    refine WS_gen hF rf (y_callL rf rf Tryz.call72 (fun w hw => cloneN_any a1 c.n p1 c.sz w hn (h1.st w hw))) ?_
    rintro _ Hc ⟨ca, ck, rfl, hc1⟩
    refine WS_nil ?_
    refine WH_pullL Hc (by repeat (first | exact PulL.base | exact PulL.base1 | apply PulL.cons | apply PulL.app)) ?_
    refine WH_pull (b2, CB [.slice a1 c.n p1, .slice a2 c.inn.length p2, .int .i64 c.st] 24) zu ?_
    refine WH_pull (b4, CB [.slice none 0 0, .slice none 0 0, .int .i64 0] 24) zu ?_
    refine WH_pull (bt, CB [.int .i64 0] 3) zu ?_
    exact WH_of hX rf dk0 (J2_9 ca ck Hc bt hc1 _ _ s10 (HSub.sub (by repeat (first | exact List.nil_sublist _ | exact List.Sublist.refl _ | exact List.sublist_append_left _ _ | apply List.Sublist.cons_cons | apply List.Sublist.append_left))))
   ·
    refine WS_newS hF rf (y_buildSliceL bs22_1_0 rf) (fun bs => ?_)
    refine WS_nil ?_
    refine WH_pull (b2, CB [.slice a1 c.n p1, .slice a2 c.inn.length p2, .int .i64 c.st] 24) zu ?_
    refine WH_pull (b4, CB [.slice none 0 0, .slice none 0 0, .int .i64 0] 24) zu ?_
    refine WH_pull (bt, CB [.int .i64 0] 3) zu ?_
    refine WH_pull (bs, CB [.int .i64 n] 3) zu ?_
    exact WH_of hX rf dk0 (J4_9 bs bt _ _ s10 (HSub.sub (by repeat (first | exact List.nil_sublist _ | exact List.Sublist.refl _ | exact List.sublist_append_left _ _ | apply List.Sublist.cons_cons | apply List.Sublist.append_left))))
  have J : ∀  (e2 : Env) (H2 : List Blk), Slots e2 [(2, .pointer (some ⟨b2, 0, none⟩)), (4, .pointer (some ⟨b4, 0, none⟩)), (6, .slice a1 c.n p1), (8, .int .i64 n), (12, .slice a2 c.inn.length p2), (17, .int .i64 c.st)] → HSub H2 ((b4, CB [.slice none 0 0, .slice none 0 0, .int .i64 0] 24) :: (b2, CB [.slice a1 c.n p1, .slice a2 c.inn.length p2, .int .i64 c.st] 24) :: []) → X 7 #[true, true, false, true, false, false, true, true, false, false, false, true, true, false] e2 H2 := by
   intro  e2 H2 hsl hsb
   rw [← hsl.sets, hX]
   refine WH_sub hsb (HSub.sub sbA) ?_
   refine WH_step3 2 4 9 dk0 (fun _ h => St.sub h sbA) rf rf rf ?_ ?_ ?_
   ·
    refine WS_gen hF rf (y_callL rf rf Tryz.call72 (fun w hw => cloneN_any a1 c.n p1 c.sz w hn (h1.st w hw))) ?_
    rintro _ Hc ⟨ca, ck, rfl, hc1⟩
    refine WS_nil ?_
    refine WH_pullL Hc (by repeat (first | exact PulL.base | exact PulL.base1 | apply PulL.cons | apply PulL.app)) ?_
    refine WH_pull (b2, CB [.slice a1 c.n p1, .slice a2 c.inn.length p2, .int .i64 c.st] 24) zu ?_
    refine WH_pull (b4, CB [.slice none 0 0, .slice none 0 0, .int .i64 0] 24) zu ?_
    exact WH_of hX rf dk0 (J2 ca ck Hc hc1 _ _ s10 (HSub.sub (by repeat (first | exact List.nil_sublist _ | exact List.Sublist.refl _ | exact List.sublist_append_left _ _ | apply List.Sublist.cons_cons | apply List.Sublist.append_left))))
   ·
    refine WS_newS hF rf (y_buildSliceL bs22_1_0 rf) (fun bs => ?_)
    refine WS_nil ?_
    refine WH_pull (b2, CB [.slice a1 c.n p1, .slice a2 c.inn.length p2, .int .i64 c.st] 24) zu ?_
    refine WH_pull (b4, CB [.slice none 0 0, .slice none 0 0, .int .i64 0] 24) zu ?_
    refine WH_pull (bs, CB [.int .i64 n] 3) zu ?_
    exact WH_of hX rf dk0 (J4 bs _ _ s10 (HSub.sub (by repeat (first | exact List.nil_sublist _ | exact List.Sublist.refl _ | exact List.sublist_append_left _ _ | apply List.Sublist.cons_cons | apply List.Sublist.append_left))))
   ·
    refine WS_newS hF rf (y_buildSliceL bs22_1_0 rf) (fun bt => ?_)
    refine WS_nil ?_
    refine WH_pull (b2, CB [.slice a1 c.n p1, .slice a2 c.inn.length p2, .int .i64 c.st] 24) zu ?_
    refine WH_pull (b4, CB [.slice none 0 0, .slice none 0 0, .int .i64 0] 24) zu ?_
    refine WH_pull (bt, CB [.int .i64 0] 3) zu ?_
    exact WH_of hX rf dk0 (J9 bt _ _ s10 (HSub.sub (by repeat (first | exact List.nil_sublist _ | exact List.Sublist.refl _ | exact List.sublist_append_left _ _ | apply List.Sublist.cons_cons | apply List.Sublist.append_left))))
  rw [hX]
  refine WH_take 0 dk0 rf dk0 dk0 rf (ye_fieldAddr rf fa24_0) ?_
  refine WH_take 1 dk0 rf dk0 dk0 rf (ye_load1 rf Tryz.isAgg22 (Mem.own1 1 rf rf)) ?_
  refine WH_take 3 dk0 rf dk0 dk0 rf (ye_move (c := .int .i64 _) rf) ?_
  refine WH_take 6 dk0 rf dk0 dk0 rf (ye_fieldAddr rf fa24_1) ?_
  refine WH_take 7 dk0 rf dk0 dk0 rf (ye_load1 rf Tryz.isAgg22 (Mem.own1 1 rf rf)) ?_
  refine WH_take 11 dk0 rf dk0 dk0 rf (ye_fieldAddr rf fa24_2) ?_
  refine WH_take 12 dk0 rf dk0 dk0 rf (ye_load1 rf Tryz.isAgg3 (Mem.own1 1 rf rf)) ?_
  refine WH_pull (b2, CB [.slice a1 c.n p1, .slice a2 c.inn.length p2, .int .i64 c.st] 24) zu ?_
  refine WH_pull (b4, CB [.slice none 0 0, .slice none 0 0, .int .i64 0] 24) zu ?_
  exact WH_of hX rf dk0 (J  _ _ s10 (HSub.sub (by repeat (first | exact List.nil_sublist _ | exact List.Sublist.refl _ | exact List.sublist_append_left _ _ | apply List.Sublist.cons_cons | apply List.Sublist.append_left))))
theorem fa152_0 : ∀ b o w, (Instr.fieldAt 152 (.pointer (some ⟨b, o, none⟩)) 0).run Tryz.prog w = .ok (.pointer (some ⟨b, o + 0, none⟩)) w := fun b o w => by kernel_rfl
theorem fa152_1 : ∀ b o w, (Instr.fieldAt 152 (.pointer (some ⟨b, o, none⟩)) 1).run Tryz.prog w = .ok (.pointer (some ⟨b, o + 1, none⟩)) w := fun b o w => by kernel_rfl
def Cn.adE (c : Cn) (n : Int) : Int := if c.okB then if c.n = 3 then 9 else if inB 1 20 [n] then 0 else 2 else 80
def Cn.adC (c : Cn) (n : Int) : Cn := if c.adE n = 0 then c.more n else Cn.zero
def AddCV (c : Cn) (n : Int) (v : Value) (Hn : List Blk) : Prop := ∃ v0, v = .tuple #[v0, .int .i64 (c.adE n)] ∧ TwinC (c.adC n) v0 Hn
theorem AddCV.bad {c : Cn} {n e : Int} (h : c.adE n = e) (he : e ≠ 0) : AddCV c n (.tuple #[.agg #[.slice none 0 0, .slice none 0 0, .int .i64 0], .int .i64 e]) [] := by
 subst h
 refine ⟨_, rfl, ?_⟩
 unfold Cn.adC
 rw [if_neg he]
 exact twinC_zero
theorem AddCV.ok {c : Cn} {n : Int} {v0 : Value} {Hn : List Blk} (h : c.adE n = 0) (hT : TwinC (c.more n) v0 Hn) : AddCV c n (.tuple #[v0, .int .i64 0]) Hn := by
 refine ⟨_, by rw [h], ?_⟩
 unfold Cn.adC
 rw [if_pos h]
 exact hT
theorem Cn.Ok.more {c : Cn} (h : c.Ok) (h3 : c.n ≠ 3) {n : Int} (hn : 1 ≤ n ∧ n ≤ 20) : (c.more n).Ok := by
 have h1 := h.n1
 have h2 := h.n3
 have hs : c.sz.length = c.n := rfl
 have hl := h.len
 refine ⟨by rw [c.more_n]; omega, by rw [c.more_n]; omega, by rw [c.more_m, c.more_n, h.len], h.st0, h.st1, fun k hk => ?_, fun k hk => ?_⟩
 ·rw [c.more_n] at hk
  unfold Cn.s Cn.more
  by_cases hkn : k < c.n
  ·rw [List.getD_eq_getElem?_getD, List.getElem?_append_left om0, ← List.getD_eq_getElem?_getD]
   exact h.s k hkn
  ·obtain rfl : k = c.sz.length := by omega
   simp [List.getD_eq_getElem?_getD]
   exact hn
 ·rw [c.more_n] at hk
  unfold Cn.s Cn.i Cn.more
  by_cases hkn : k < c.n
  ·rw [List.getD_eq_getElem?_getD, List.getElem?_append_left om0, ← List.getD_eq_getElem?_getD, List.getD_eq_getElem?_getD (l := c.sz ++ [n]), List.getElem?_append_left om0, ← List.getD_eq_getElem?_getD]
   exact h.i k hkn
  ·obtain rfl : k = c.sz.length := by omega
   rw [List.getD_eq_getElem?_getD, List.getD_eq_getElem?_getD, show c.sz.length = c.inn.length by omega]
   rw [show c.inn.length = c.sz.length by omega]
   simp [show c.inn.length = c.sz.length by omega]
   omega
structure Hp where
 s : Int
 m : Int
deriving DecidableEq
def Hp.cells (x : Hp) : List Value := [.int .i64 x.s, .int .i64 x.m]
def Hp.z : Hp := ⟨0, 0⟩
theorem hp_len : ∀ x, (Hp.cells x).length = 2 := fun _ => rfl
abbrev Hps (w : World) (a : Option Addr) (n cap : Nat) (xs : List Hp) : Prop := Rws Hp.cells 2 Hp.z w a n cap xs
def hRow (xs : List Hp) : List Value := rowOf Hp.cells (fun k => xs.getD k Hp.z) xs.length
theorem hRow_snoc (xs : List Hp) (y : Hp) : hRow (xs ++ [y]) = hRow xs ++ y.cells := by
 unfold hRow
 rw [List.length_append, List.length_singleton, rowOf_succ]
 congr 1
 ·exact rowOf_congr _ fun k hk => by simp [List.getD_eq_getElem?_getD, List.getElem?_append_left hk]
 ·simp [List.getD_eq_getElem?_getD]
def ordH (a b : Hp) : Int := orL [cmpI a.m b.m, cmpI a.s b.s]
def minH : List Hp → Hp
 | [] => Hp.z
 | x :: l => l.foldl (fun b y => if ordH y b < 0 then y else b) x
theorem minH_snoc {l : List Hp} (x : Hp) (h : l ≠ []) : minH (l ++ [x]) = if ordH x (minH l) < 0 then x else minH l := by
 cases l with
 | nil => exact absurd rfl h
 | cons y l =>
  show List.foldl _ y (l ++ [x]) = _
  rw [List.foldl_append]
  rfl
theorem ordH_any (p q : Hp) (w : World) : Ct Tryz.prog 84 #[.agg p.cells.toArray, .agg q.cells.toArray] w fun v _ => v = .int .i64 (ordH p q) := by
 have hF := wide_wide
 refine Ct_start (args := [_, _]) Tryz.func84 rf Tryz.ntmps84 rf ?_
 refine zR fun ds => ?_
 refine WS_new hF rf (y_box rf) (fun b1 => ?_)
 refine WS_new hF rf (y_box rf) (fun b2 => ?_)
 refine za (.int .i64 _) hF ?_
 refine zO ?_
 refine W_draw0 hF Tryzmixed [] dk0 (fun ds => ?_)
 refine P_det rf (Over_nil (y_fieldAddr rf fa152_1)) ?_
 refine P_det rf (Over_nil (y_load1 rf Tryz.isAgg3 (Mem.own1 1 rf rf))) ?_
 refine P_det rf (Over_nil (y_fieldAddr rf fa152_1)) ?_
 refine P_det rf (Over_nil (y_load1 rf Tryz.isAgg3 (Mem.own1 0 rf rf))) ?_
 refine P_det rf (Over_nil (y_callL rf rf Tryz.call86 (fun w hw => compare_any p.m q.m w))) ?_
 refine P_det rf (Over_nil (y_fieldAddr rf fa152_0)) ?_
 refine P_det rf (Over_nil (y_load1 rf Tryz.isAgg3 (Mem.own1 1 rf rf))) ?_
 refine P_det rf (Over_nil (y_fieldAddr rf fa152_0)) ?_
 refine P_det rf (Over_nil (y_load1 rf Tryz.isAgg3 (Mem.own1 0 rf rf))) ?_
 refine P_det rf (Over_nil (y_callL rf rf Tryz.call86 (fun w hw => compare_any p.s q.s w))) ?_
 refine P_new rf rf (Over_nil (y_buildSliceL bs22_2_0_1 rf)) ?_
 refine P_det rf (Over_in rf (Over_nil (by rintro _ _ ⟨b4, rfl, rfl⟩; exact (y_callL rf rf Tryz.call85 (fun w hw => orL_any _ 2 2 [cmpI p.m q.m, cmpI p.s q.s] w dc (Ints.two 0 rf w hw)))))) ?_
 refine P_det rf (Over_out rf (Over_nil (y_assign (c := .int .i64 _) rf))) ?_
 refine PW_end rf ?_
 refine OverAll_cons (fun w15 l15 => ?_)
 refine OverAll_nil ?_
 rintro ⟨-, h15⟩
 obtain ⟨b3, rfl, rfl⟩ := h15
 refine Then_normal ?_
 refine W_ret ?_
 refine Fin_ret [.int .i64 _] [] Tryz.results84 ⟨by rfl, trivial⟩ HSub.nil ?_
 rfl
theorem minH_any (a : Option Addr) (n cap : Nat) (xs : List Hp) (w : World) (hn0 : 0 < n) (hn : n ≤ 1000000) (hx : Hps w a n cap xs) :
  Ct Tryz.prog 117 #[.slice a n cap, .func (.func 84) #[] #[]] w fun v _ => v = .agg (minH xs).cells.toArray := by
 have hl := hx.len
 obtain ⟨b0, o0, rfl, hc0⟩ := hx.cell 0 hn0
 change At w b0 _ (xs.getD 0 Hp.z).cells at hc0
 have hF := wide_wide
 refine Ct_start (args := [_, _]) Tryz.func117 rf Tryz.ntmps117 rf ?_
 refine zR fun ds => ?_
 refine WS_new hF rf (y_alloc Tryz.zeroValue152 rf) (fun b1 => ?_)
 refine zO ?_
 refine zR fun ds => ?_
 refine zm (.slice _ _ _) hF ?_
 refine zD hF (y_len rf Tryz.runUnderlying149) ?_
 refine zD hF (y_lss rf rf) ?_
 refine zN ?_
 refine W_cond rf (fun c1 => ?_) (fun c1 => ?_)
 ·(simp only [decide_eq_true_eq] at c1; omega)
 ·
  try simp only [qz1, qz2, qz3, qz4, qz5, qz6, qz7, qz8] at c1
  refine W_skip ?_
  refine zS fun ds => ?_
  refine zm (.slice _ _ _) hF ?_
  refine zD hF (y_index (k := 0) rf rf r10 d10 Tryz.runUnderlying149 Tryz.sizeOf152) ?_
  refine zD hF (y_loadN rf Tryz.isAgg152 Tryz.sizeOf152 (zq [.int .i64 _, .int .i64 _]) rf) ?_
  refine WS_new hF rf (y_alloc Tryz.zeroValue152 rf) (fun b2 => ?_)
  refine WS_store hF (i := 0) rf rf Tryz.sizeOf152 rf rf rf d20 ?_
  refine zO ?_
  refine W_seq ?_
  have hm0 : xs.getD 0 Hp.z = minH (xs.take 1) := by
   cases xs with
   | nil => simp at hl; omega
   | cons y l => rfl
  refine W_region_lit (fun ds => ?_)
  refine za (.int .i64 _) hF ?_
  refine zN ?_
  refine W_block ?_
  refine W_loop (γ := Nat × Hp) (fun q => 1 ≤ q.1 ∧ q.1 ≤ n ∧ q.2 = minH (xs.take q.1)) (fun q => [(0, .slice (some ⟨b0, o0, none⟩) n cap), (1, .func (.func 84) #[] #[]), (4, .pointer (some ⟨b1, 0, none⟩)), (5, .pointer (some ⟨b2, 0, none⟩)), (6, .int .i64 (q.1 : Int))]) (fun q => [(b2, CB q.2.cells 152), (b1, CB [.int .i64 0, .int .i64 0] 152)]) (fun q => n - q.1) ((1, xs.getD 0 Hp.z)) ⟨Nat.le_refl _, hn0, hm0⟩ s10 (sbA) ?_
  rintro ⟨k, x⟩ e ⟨hk1, hkn, (hmx : x = minH (xs.take k))⟩
  refine W_seq ?_
  refine zR fun ds => ?_
  refine zm (.int .i64 _) hF ?_
  refine zm (.slice _ _ _) hF ?_
  refine zD hF (y_len rf Tryz.runUnderlying149) ?_
  refine zD hF (y_lss rf rf) ?_
  refine zN ?_
  refine W_cond rf (fun c5 => ?_) (fun c5 => ?_)
  ·
   try simp only [qz1, qz2, qz3, qz4, qz5, qz6, qz7, qz8] at c5
   have hck := hx.at (k := k) om0
   have htk : minH (xs.take (k + 1)) = if ordH (xs.getD k Hp.z) (minH (xs.take k)) < 0 then xs.getD k Hp.z else minH (xs.take k) := by
    have hkl : k < xs.length := by omega
    rw [List.take_add_one, List.getElem?_eq_getElem hkl]
    simp only [Option.toList_some]
    rw [minH_snoc _ (by intro h; have := congrArg List.length h; simp only [List.length_take, List.length_nil] at this; omega)]
    simp [List.getD_eq_getElem?_getD, hkl]
   rw [← hmx] at htk
   refine zU ?_
   refine W_seq ?_
   refine W_block ?_
   refine W_seq ?_
   refine W_draw0 hF Tryzmixed [] dk0 (fun ds => ?_)
   refine P_det rf (Over_nil (y_move (c := _) rf)) ?_
   refine P_det rf (Over_nil (y_move (c := .slice _ _ _) rf)) ?_
   refine P_det rf (Over_nil (y_move (c := .int .i64 _) rf)) ?_
   refine P_det rf (Over_nil (y_index (k := k) rf rf r10 d10 Tryz.runUnderlying149 Tryz.sizeOf152)) ?_
   refine P_det rf (Over_nil (y_loadN rf Tryz.isAgg152 Tryz.sizeOf152 (zq [.int .i64 _, .int .i64 _]) rf)) ?_
   refine P_det rf (Over_nil (y_loadN rf Tryz.isAgg152 Tryz.sizeOf152 (Mem.own (us := [.int .i64 _, .int .i64 _]) 0 rf rf) rf)) ?_
   refine P_det rf (Over_nil (y_callL (first := []) (captured := []) rf rf Tryz.call84 (fun w hw => ordH_any (xs.getD k Hp.z) x w))) ?_
   refine P_det rf (Over_nil (y_lss rf rf)) ?_
   refine PW_end rf ?_
   refine OverAll_nil ?_
   rintro -
   refine Then_normal ?_
   refine W_cond rf (fun c7 => ?_) (fun c7 => ?_)
   ·
    try simp only [qz1, qz2, qz3, qz4, qz5, qz6, qz7, qz8] at c7
    have hm2 : xs.getD k Hp.z = minH (xs.take (k + 1)) := by rw [htk, if_pos c7]
    refine W_region_lit (fun ds => ?_)
    refine zm (.slice _ _ _) hF ?_
    refine zm (.int .i64 _) hF ?_
    refine zD hF (y_index (k := k) rf rf r10 d10 Tryz.runUnderlying149 Tryz.sizeOf152) ?_
    refine zD hF (y_loadN rf Tryz.isAgg152 Tryz.sizeOf152 (zq [.int .i64 _, .int .i64 _]) rf) ?_
    refine WS_store hF (i := 0) rf rf Tryz.sizeOf152 rf rf rf d20 ?_
    refine WS_nil ?_
    refine InB_normal ?_
    refine zT fun ds => ?_
    refine zm (.int .i64 _) hF ?_
    refine zD hF (y_add rf rf ui) ?_
    refine za (.int .i64 _) hF ?_
    refine WS_nil ?_
    exact Loop_next (k + 1, xs.getD k Hp.z) ⟨by omega, by simp only; omega, hm2⟩ s10 sbA (by simp only; omega)
   ·
    try simp only [qz1, qz2, qz3, qz4, qz5, qz6, qz7, qz8] at c7
    have hm2 : x = minH (xs.take (k + 1)) := by rw [htk, if_neg om0]
    refine W_skip ?_
    refine InB_normal ?_
    refine zT fun ds => ?_
    refine zm (.int .i64 _) hF ?_
    refine zD hF (y_add rf rf ui) ?_
    refine za (.int .i64 _) hF ?_
    refine WS_nil ?_
    exact Loop_next (k + 1, x) ⟨by omega, by simp only; omega, hm2⟩ s10 sbA (by simp only; omega)
  ·
   try simp only [qz1, qz2, qz3, qz4, qz5, qz6, qz7, qz8] at c5
   refine W_exit ?_
   refine Then_exit ?_
   refine Loop_exit ?_
   refine InB_same ?_
   refine zS fun ds => ?_
   refine zD hF (y_loadN rf Tryz.isAgg152 Tryz.sizeOf152 (Mem.own (us := [.int .i64 _, .int .i64 _]) 0 rf rf) rf) ?_
   refine WS_store hF (i := 1) rf rf Tryz.sizeOf152 rf rf rf d20 ?_
   refine zN ?_
   refine W_ret ?_
   refine Fin_ret [_] [] Tryz.results117 ⟨lvN rf Tryz.isAgg152 Tryz.sizeOf152 (Mem.own (us := [.int .i64 _, .int .i64 _]) 1 rf rf) rf, trivial⟩ HSub.nil ?_
   obtain rfl : k = n := by omega
   rw [hmx, ← hl, List.take_length]
   rfl
theorem firstH_any (a : Option Addr) (n cap : Nat) (xs : List Hp) (w : World) (hn0 : 0 < n) (hn : n ≤ 1000000) (hx : Hps w a n cap xs) :
  Ct Tryz.prog 83 #[.slice a n cap, .func (.func 84) #[] #[]] w fun v _ => v = .agg (minH xs).cells.toArray := by
 have hF := wide_wide
 refine Ct_start (args := [_, _]) Tryz.func83 rf Tryz.ntmps83 rf ?_
 refine zR fun ds => ?_
 refine WS_new hF rf (y_alloc Tryz.zeroValue152 rf) (fun b1 => ?_)
 refine zP fun ds => ?_
 refine zm (.slice _ _ _) hF ?_
 refine zm (_) hF ?_
 refine zD hF (y_callL rf rf Tryz.call117 (fun w hw => minH_any a n cap xs w hn0 hn (hx.st w hw))) ?_
 refine WS_store hF (i := 0) rf rf Tryz.sizeOf152 rf rf rf d20 ?_
 refine zN ?_
 refine W_ret ?_
 refine Fin_ret [_] [] Tryz.results83 ⟨lvN rf Tryz.isAgg152 Tryz.sizeOf152 (Mem.own (us := [.int .i64 _, .int .i64 _]) 0 rf rf) rf, trivial⟩ HSub.nil ?_
 rfl
theorem bd152_0_1 {x0 : Int} {x1 : Int} : ∀ w, (Instr.build 152 #[(0, .int .i64 x0), (1, .int .i64 x1)]).run Tryz.prog w = .ok (.agg #[.int .i64 x0, .int .i64 x1]) w := fun w => by kernel_rfl
theorem bs149_1_0 {x0_0 : Int} {x0_1 : Int} : ∀ w, (Instr.buildSlice 149 1 #[(0, .agg #[.int .i64 x0_0, .int .i64 x0_1])]).run Tryz.prog w = .ok (.slice (some ⟨w.heap.size, 0, none⟩) 1 1) (w.alloc (CB [.int .i64 x0_0, .int .i64 x0_1] 152)) := fun w => by kernel_rfl
noncomputable def Cn.hk (c : Cn) (n s : Int) : Option Wy := (c.more s).few ((c.more s).someP n)
noncomputable def Cn.hpL (c : Cn) (n : Int) : Nat → List Hp
 | 0 => []
 | k + 1 => if (k : Int) + 1 = n then c.hpL n k else match c.hk n ((k : Int) + 1) with
  | none => c.hpL n k
  | some w => c.hpL n k ++ [⟨(k : Int) + 1, (w.l.length : Int)⟩]
theorem Cn.hpL_skip {c : Cn} {n : Int} {k : Nat} (h : (k : Int) + 1 = n) : c.hpL n (k + 1) = c.hpL n k := by
 rw [Cn.hpL, if_pos h]
theorem Cn.hpL_none {c : Cn} {n : Int} {k : Nat} (h : c.hk n ((k : Int) + 1) = none) : c.hpL n (k + 1) = c.hpL n k := by
 rw [Cn.hpL, h]
 split <;> rfl
theorem Cn.hpL_some {c : Cn} {n : Int} {k : Nat} {w : Wy} (h0 : ¬ (k : Int) + 1 = n) (h : c.hk n ((k : Int) + 1) = some w) : c.hpL n (k + 1) = c.hpL n k ++ [⟨(k : Int) + 1, (w.l.length : Int)⟩] := by
 rw [Cn.hpL, if_neg h0, h]
theorem Cn.hpL_len (c : Cn) (n : Int) : ∀ k, (c.hpL n k).length ≤ k
 | 0 => Nat.le_refl _
 | k + 1 => by
  have ih := c.hpL_len n k
  unfold Cn.hpL
  split
  ·omega
  ·split
   ·omega
   ·rw [List.length_append, List.length_singleton]; omega
noncomputable def Cn.hpE (c : Cn) (n : Int) : Int := if c.okB then if inB 0 20 [n] then if c.n = 3 then 9 else if c.hpL n 20 = [] then 6 else 0 else 2 else 80
def HlpV (c : Cn) (n : Int) (v : Value) : Prop := v = .tuple #[.int .i64 (if c.hpE n = 0 then (minH (c.hpL n 20)).s else 0), .int .i64 (if c.hpE n = 0 then (minH (c.hpL n 20)).m else 0), .int .i64 (c.hpE n)]
theorem HlpV.bad {c : Cn} {n e : Int} (h : c.hpE n = e) (he : e ≠ 0) : HlpV c n (.tuple #[.int .i64 0, .int .i64 0, .int .i64 e]) := by
 subst h
 unfold HlpV
 rw [if_neg he, if_neg he]
theorem HlpV.ok {c : Cn} {n : Int} (h : c.hpE n = 0) : HlpV c n (.tuple #[.int .i64 (minH (c.hpL n 20)).s, .int .i64 (minH (c.hpL n 20)).m, .int .i64 0]) := by
 unfold HlpV
 rw [if_pos h, if_pos h, h]
theorem infHp : (Tryz.prog.info? 152).map (fun i => (i.zero, i.size, i.bytes)) = some (some (.agg #[.int .i64 0, .int .i64 0]), 2, 16) := by kernel_rfl
theorem help_any (c : Cn) (a1 : Option Addr) (p1 : Nat) (a2 : Option Addr) (p2 : Nat) (n : Int) (w : World) (hG : Gv w) (hn : c.n ≤ 1000000) (hm : c.inn.length ≤ 1000000) (h1 : Ints w a1 c.n p1 c.sz) (h2 : Ints w a2 c.inn.length p2 c.inn) : Ct Tryz.prog 36 #[.agg #[.slice a1 c.n p1, .slice a2 c.inn.length p2, .int .i64 c.st], .int .i64 n] w fun v _ => HlpV c n v := by
 have hF := wide_wide
 refine Ct_start (args := [_, _]) Tryz.func36 rf Tryz.ntmps36 rf ?_
 refine zR fun ds => ?_
 refine WS_new hF rf (y_box rf) (fun b1 => ?_)
 refine za (.int .i64 _) hF ?_
 refine za (.int .i64 _) hF ?_
 refine za (.int .i64 _) hF ?_
 refine zO ?_
 refine zR fun ds => ?_
 refine zD hF (y_loadN rf Tryz.isAgg24 Tryz.sizeOf24 (Mem.own (us := [.slice _ _ _, .slice _ _ _, .int .i64 _]) 0 rf rf) rf) ?_
 refine zD hF (y_callL rf rf Tryz.call47 (fun w hw => ccheck_any c a1 p1 a2 p2 w (hG.st w hw) hn hm (h1.st w hw) (h2.st w hw))) ?_
 refine za (.int .i64 _) hF ?_
 refine zP fun ds => ?_
 refine zm (.int .i64 _) hF ?_
 refine zD hF (y_neq rf rf) ?_
 refine zN ?_
 refine W_cond rf (fun c2 => ?_) (fun c2 => ?_)
 ·
  try simp only [qz1, qz2, qz3, qz4, qz5, qz6, qz7, qz8] at c2
  refine zR fun ds => ?_
  refine zm (.int .i64 _) hF ?_
  refine za (.int .i64 _) hF ?_
  refine za (.int .i64 _) hF ?_
  refine za (.int .i64 _) hF ?_
  refine zN ?_
  refine W_ret ?_
  refine Then_ret ?_
  refine Fin_ret [.int .i64 _, .int .i64 _, .int .i64 _] [] Tryz.results36 ⟨by rfl, by rfl, by rfl, trivial⟩ HSub.nil ?_
  obtain ⟨h3, h4⟩ := Cn.err_no c2
  rw [h4]
  exact HlpV.bad (by unfold Cn.hpE; rw [h3]; rfl) dc
 ·
  try simp only [qz1, qz2, qz3, qz4, qz5, qz6, qz7, qz8] at c2
  have hokB := Cn.err_iff.1 c2
  have hok := Cn.ok_iff.1 hokB
  refine zU ?_
  refine W_seq ?_
  refine W_block ?_
  refine zR fun ds => ?_
  refine zm (.int .i64 _) hF ?_
  refine WS_newS hF rf (y_buildSliceL bs22_1_0 rf) (fun b2 => ?_)
  refine zD hF (y_callL rf rf Tryz.call52 (fun w hw => cin_any _ _ _ _ _ _ w dc (by first | exact Ints.one 0 rfl w hw | exact Ints.two 0 rfl w hw))) ?_
  refine zD hF (y_not rf) ?_
  refine za (.bool _) hF ?_
  refine zN ?_
  refine W_cond rf (fun c4 => ?_) (fun c4 => ?_)
  ·
   try simp only [qz1, qz2, qz3, qz4, qz5, qz6, qz7, qz8] at c4
   refine zR fun ds => ?_
   refine za (.int .i64 _) hF ?_
   refine za (.int .i64 _) hF ?_
   refine za (.int .i64 _) hF ?_
   refine zN ?_
   refine W_ret ?_
   refine InB_ret ?_
   refine Then_ret ?_
   refine Fin_ret [.int .i64 _, .int .i64 _, .int .i64 _] [] Tryz.results36 ⟨by rfl, by rfl, by rfl, trivial⟩ HSub.nil ?_
   exact HlpV.bad (by unfold Cn.hpE; rw [hokB, if_pos rfl, c4]; rfl) dc
  ·
   try simp only [qz1, qz2, qz3, qz4, qz5, qz6, qz7, qz8] at c4
   refine zR fun ds => ?_
   refine zD hF (y_fieldAddr rf fa24_0) ?_
   refine zD hF (y_load1 rf Tryz.isAgg22 (Mem.own1 1 rf rf)) ?_
   refine zD hF (y_len rf Tryz.runUnderlying22) ?_
   refine zD hF (y_eql rf rf) ?_
   refine za (.bool _) hF ?_
   refine zN ?_
   refine W_cond rf (fun c6 => ?_) (fun c6 => ?_)
   ·
    try simp only [qz1, qz2, qz3, qz4, qz5, qz6, qz7, qz8] at c6
    refine zR fun ds => ?_
    refine za (.int .i64 _) hF ?_
    refine za (.int .i64 _) hF ?_
    refine za (.int .i64 _) hF ?_
    refine zN ?_
    refine W_ret ?_
    refine InB_ret ?_
    refine Then_ret ?_
    refine Fin_ret [.int .i64 _, .int .i64 _, .int .i64 _] [] Tryz.results36 ⟨by rfl, by rfl, by rfl, trivial⟩ HSub.nil ?_
    exact HlpV.bad (by unfold Cn.hpE; rw [hokB, if_pos rfl, c4, if_pos rfl, if_pos om0]) dc
   ·
    try simp only [qz1, qz2, qz3, qz4, qz5, qz6, qz7, qz8] at c6
    refine W_skip ?_
    refine InB_normal ?_
    refine zS fun ds => ?_
    refine za (.slice _ _ _) hF ?_
    refine zO ?_
    refine zR fun ds => ?_
    refine zm (.int .i64 _) hF ?_
    refine zN ?_
    refine W_block ?_
    refine W_loop (γ := Nat × Option Addr × Nat × List Blk) (fun q => q.1 ≤ 20 ∧ NewRow 152 2 (c.hpL n q.1).length (hRow (c.hpL n q.1)) (.slice q.2.1 (c.hpL n q.1).length q.2.2.1) q.2.2.2) (fun q => [(1, .int .i64 n), (2, .pointer (some ⟨b1, 0, none⟩)), (8, .slice q.2.1 (c.hpL n q.1).length q.2.2.1), (29, .int .i64 (q.1 : Int))]) (fun q => (b1, CB [.slice a1 c.n p1, .slice a2 c.inn.length p2, .int .i64 c.st] 24) :: q.2.2.2) (fun q => 20 - q.1) ((0, none, 0, [])) ⟨Nat.zero_le _, ⟨none, 0, rfl, Nat.le_refl _, .inr ⟨rfl, rfl, rfl⟩⟩⟩ s10 (sbA) ?_
    rintro ⟨k, a, cap, Hr⟩ e ⟨(hk : k ≤ 20), (hrow : NewRow 152 2 (c.hpL n k).length (hRow (c.hpL n k)) (.slice a (c.hpL n k).length cap) Hr)⟩
    refine zR fun ds => ?_
    refine zD hF (y_lss rf rf) ?_
    refine zO ?_
    refine W_cond rf (fun c10 => ?_) (fun c10 => ?_)
    ·
     try simp only [qz1, qz2, qz3, qz4, qz5, qz6, qz7, qz8] at c10
     have hk20 : k < 20 := by omega
     have hll := c.hpL_len n k
     have h1n := hok.n1
     have h3n := hok.n3
     refine zU ?_
     refine W_seq ?_
     refine W_block ?_
     refine zR fun ds => ?_
     refine zm (.int .i64 _) hF ?_
     refine za (.int .i64 _) hF ?_
     refine zO ?_
     refine zR fun ds => ?_
     refine zm (.int .i64 _) hF ?_
     refine zD hF (y_add rf rf ui) ?_
     refine zm (.int .i64 _) hF ?_
     refine zD hF (y_eql rf rf) ?_
     refine zN ?_
     refine W_cond rf (fun c12 => ?_) (fun c12 => ?_)
     ·
      try simp only [qz1, qz2, qz3, qz4, qz5, qz6, qz7, qz8] at c12
      have hL : c.hpL n (k + 1) = c.hpL n k := Cn.hpL_skip c12
      refine W_exit ?_
      refine Then_exit ?_
      refine InB_same ?_
      refine zT fun ds => ?_
      refine zD hF (y_add rf rf ui) ?_
      refine zm (.int .i64 _) hF ?_
      refine WS_nil ?_
      exact Loop_next (k + 1, a, cap, Hr) ⟨by omega, by simp only [hL]; exact hrow⟩ (by simp only [hL]; repeat (first | exact trivial | refine ⟨by rfl, ?_⟩)) sbA (by simp only; omega)
     ·
      try simp only [qz1, qz2, qz3, qz4, qz5, qz6, qz7, qz8] at c12
      have hokm : (c.more ((k : Int) + 1)).Ok := hok.more om0 om0
      have hnm : (c.more ((k : Int) + 1)).n ≤ 1000000 := by rw [c.more_n]; omega
      have hmm : (c.more ((k : Int) + 1)).inn.length ≤ 1000000 := by rw [c.more_m]; have := hok.len; omega
      refine W_skip ?_
      refine zS fun ds => ?_
      refine zD hF (y_loadN rf Tryz.isAgg24 Tryz.sizeOf24 (Mem.own (us := [.slice _ _ _, .slice _ _ _, .int .i64 _]) 0 rf rf) rf) ?_
      refine zm (.int .i64 _) hF ?_
      refine zD hF (y_add rf rf ui) ?_
      refine WS_gen hF rf (y_callL rf rf Tryz.call82 (fun w hw => cwith_any c a1 p1 a2 p2 ((k : Int) + 1) w hn hm (h1.st w hw) (h2.st w hw))) ?_
      rintro _ _ ⟨z1, q1, z2, q2, K1, K2, rfl, hr1, hr2, rfl⟩
      refine WS_back ?_
      refine zD hF (y_buildL bd92_0 rf) ?_
      refine WS_new hF rf (y_alloc Tryz.zeroValue92 rf) (fun b10 => ?_)
      refine WS_store hF (i := 0) rf rf Tryz.sizeOf92 rf rf rf d20 ?_
      refine zO ?_
      refine W_tailH 11 Tryzmixed (fun e2 H2 => ∃ (fx : Wl) (fb : Bool) (b11 : Nat), (fb = true → c.hk n ((k : Int) + 1) = some fx.w) ∧ (fb = false → c.hk n ((k : Int) + 1) = none) ∧ Slots e2 [(1, .int .i64 n), (2, .pointer (some ⟨b1, 0, none⟩)), (8, .slice a (c.hpL n k).length cap), (9, .int .i64 (k : Int)), (29, .int .i64 (k : Int)), (11, .pointer (some ⟨b11, 0, none⟩)), (49, .bool fb)] ∧ HSub H2 ((b11, CB fx.cells 118) :: (b1, CB [.slice a1 c.n p1, .slice a2 c.inn.length p2, .int .i64 c.st] 24) :: Hr)) dk0 (fun ds e2 H2 hmid => ?_) (fun ds => ?_)
      ·
       obtain ⟨fx, fb, b11, hfy, hfn, hsl, hsb⟩ := hmid
       rw [← hsl.sets]
       refine WS_sub hsb ?_
       refine za (.bool _) hF ?_
       refine zP fun ds => ?_
       refine zm (.bool _) hF ?_
       refine zN ?_
       refine W_cond rf (fun c15 => ?_) (fun c15 => ?_)
       ·
        try simp only [qz1, qz2, qz3, qz4, qz5, qz6, qz7, qz8] at c15
        have hL : c.hpL n (k + 1) = c.hpL n k ++ [⟨(k : Int) + 1, (fx.w.l.length : Int)⟩] := Cn.hpL_some c12 (hfy c15)
        refine W_region_lit (fun ds => ?_)
        refine zm (.slice _ _ _) hF ?_
        refine zm (.int .i64 _) hF ?_
        refine zD hF (y_add rf rf ui) ?_
        refine zD hF (y_fieldAddr rf fa118_0) ?_
        refine zD hF (y_load1 rf Tryz.isAgg35 (Mem.own1 0 rf rf)) ?_
        refine zD hF (y_len rf Tryz.runUnderlying35) ?_
        refine zD hF (y_buildL bd152_0_1 rf) ?_
        refine WS_newS hF rf (y_buildSliceL bs149_1_0 rf) (fun b3 => ?_)
        refine WS_appendN hF (H1 := (_ :: _ :: _ :: [])) (Hn := Hr) (news := Hp.cells ⟨(k : Int) + 1, (fx.w.l.length : Int)⟩) rf rf rf Tryz.underlying149 infHp rf rf hrow (rowOf_len hp_len _ _) (.inr ⟨_, _, rfl, Mem.own (us := [.int _ _, .int _ _]) 0 rf rf⟩) rf rf om0 om0 om0 ?_
        intro a3 cap3 H3 hr3
        have hrow3 : NewRow 152 2 (c.hpL n (k + 1)).length (hRow (c.hpL n (k + 1))) (.slice a3 (c.hpL n (k + 1)).length cap3) H3 := by rw [hL, hRow_snoc, List.length_append]; exact hr3
        refine za (.slice _ _ _) hF ?_
        refine WS_nil ?_
        refine InB_normal ?_
        refine zT fun ds => ?_
        refine zD hF (y_add rf rf ui) ?_
        refine zm (.int .i64 _) hF ?_
        refine WS_nil ?_
        exact Loop_next (k + 1, a3, cap3, H3) ⟨by omega, hrow3⟩ (by simp only [hL, List.length_append, List.length_singleton]; repeat (first | exact trivial | refine ⟨by rfl, ?_⟩)) sbA (by simp only; omega)
       ·
        try simp only [qz1, qz2, qz3, qz4, qz5, qz6, qz7, qz8] at c15
        have hL : c.hpL n (k + 1) = c.hpL n k := Cn.hpL_none (hfn c15)
        refine W_skip ?_
        refine InB_normal ?_
        refine zT fun ds => ?_
        refine zD hF (y_add rf rf ui) ?_
        refine zm (.int .i64 _) hF ?_
        refine WS_nil ?_
        exact Loop_next (k + 1, a, cap, Hr) ⟨by omega, by simp only [hL]; exact hrow⟩ (by simp only [hL]; repeat (first | exact trivial | refine ⟨by rfl, ?_⟩)) sbA (by simp only; omega)
      ·
       refine WH_take 0 dk0 rf dk0 dk0 rf (ye_loadN rf Tryz.isAgg92 Tryz.sizeOf92 (Mem.own (us := [.slice _ _ _, .slice _ _ _, .int .i64 _]) 0 rf rf) rf) ?_
       refine WH_take 2 dk0 rf dk0 dk0 rf (ye_loadN rf Tryz.isAgg92 Tryz.sizeOf92 (Mem.own (us := [.slice _ _ _, .slice _ _ _, .int .i64 _]) 0 rf rf) rf) ?_
       refine WH_take 3 dk0 rf dk0 dk0 rf (ye_move (c := .int .i64 _) rf) ?_
       refine WH_step2 1 9 dk0 (fun _ h => St.sub h sbA) rf rf ?_ ?_
       ·
        refine WS_gen hF rf (y_callL rf rf Tryz.call50 (fun w hw => ways_any (c.more ((k : Int) + 1)) z1 q1 z2 q2 w hokm hnm hmm (NewRow.ints hr1 rfl sbA w hw) (NewRow.ints hr2 rfl sbA w hw))) ?_
        rintro _ _ ⟨mk, lE, ck, HX, rfl, rfl, hg, hT⟩
        refine WS_nil ?_
        refine WH_step2 4 9 dk0 (fun _ h => St.sub h sbA) rf rf ?_ ?_
        ·
         refine WS_gen hF rf (y_callL rf rf Tryz.call54 (fun w hw => some_any (c.more ((k : Int) + 1)) z1 q1 z2 q2 n w)) ?_
         rintro _ _ ⟨bb, bp, rfl, rfl⟩
         refine WS_nil ?_
         refine WH_step2 5 9 dk0 (fun _ h => St.sub h sbA) rf rf ?_ ?_
         ·
          refine WS_pull (bp, _) zu ?_
          refine WS_pull (bb, _) zu ?_
          refine WS_pull (mk, _) zu ?_
          refine WS_callS hF rf rf rf Tryz.call66 (fewest_cs _ _ _ mk ck lE (c.more ((k : Int) + 1)) _ 100 [] [_, _] ((c.more ((k : Int) + 1)).someP n) hg (hT.mono sbA) [(bb, CB [.slice z1 (c.more ((k : Int) + 1)).n q1, .slice z2 (c.more ((k : Int) + 1)).inn.length q2, .int .i64 (c.more ((k : Int) + 1)).st] 92), (bp, CB [.int .i64 n] 3)] ⟨Tryz.call100, fun x hx C H w' hC hs hw => some1_any (c.more ((k : Int) + 1)) z1 q1 z2 q2 x n bb bp w' hokm (Mem.own (us := [.slice z1 (c.more ((k : Int) + 1)).n q1, .slice z2 (c.more ((k : Int) + 1)).inn.length q2, .int .i64 (c.more ((k : Int) + 1)).st]) 0 rf rf w' (St.sub hw hs)) (Mem.own1 1 rf rf w' (St.sub hw hs))⟩ sbA hokm) ?_
          rintro _ _ ⟨fx, fb, rfl, hfv, rfl⟩
          have hfy : fb = true → c.hk n ((k : Int) + 1) = some fx.w := hfv.yes'
          have hfn : fb = false → c.hk n ((k : Int) + 1) = none := fun h => (hfv.no' h).2
          refine WS_nil ?_
          refine WH_take 6 dk0 rf dk0 dk0 rf (ye_move (c := .tuple _) rf) ?_
          refine WH_take 7 dk0 rf dk0 dk0 rf (ye_extract (c := .agg _) rf rf) ?_
          refine WH_take 8 dk0 rf dk0 dk0 rf (ye_extract (c := .bool _) rf rf) ?_
          refine WH_step1 9 dk0 (fun _ h => St.sub h sbA) rf ?_
          ·
           refine WS_new hF rf (y_alloc Tryz.zeroValue118 rf) (fun b11 => ?_)
           refine WS_nil ?_
           refine WH_step1 10 dk0 (fun _ h => St.sub h sbA) rf ?_
           ·
            refine WS_pull (b11, _) zu ?_
            refine WS_store hF (i := 0) rf rf Tryz.sizeOf118 rf rf rf d20 ?_
            refine WS_nil ?_
            refine WH_done dk0 (fun _ h => St.sub h sbA) ?_
            exact ⟨fx, fb, _, hfy, hfn, s30, HSub.sub sbA⟩
         ·
          refine WS_new hF rf (y_alloc Tryz.zeroValue118 rf) (fun b11 => ?_)
          refine WS_nil ?_
          refine WH_step1 5 dk0 (fun _ h => St.sub h sbA) rf ?_
          ·
           refine WS_pull (bp, _) zu ?_
           refine WS_pull (bb, _) zu ?_
           refine WS_pull (mk, _) zu ?_
           refine WS_callS hF rf rf rf Tryz.call66 (fewest_cs _ _ _ mk ck lE (c.more ((k : Int) + 1)) _ 100 [] [_, _] ((c.more ((k : Int) + 1)).someP n) hg (hT.mono sbA) [(bb, CB [.slice z1 (c.more ((k : Int) + 1)).n q1, .slice z2 (c.more ((k : Int) + 1)).inn.length q2, .int .i64 (c.more ((k : Int) + 1)).st] 92), (bp, CB [.int .i64 n] 3)] ⟨Tryz.call100, fun x hx C H w' hC hs hw => some1_any (c.more ((k : Int) + 1)) z1 q1 z2 q2 x n bb bp w' hokm (Mem.own (us := [.slice z1 (c.more ((k : Int) + 1)).n q1, .slice z2 (c.more ((k : Int) + 1)).inn.length q2, .int .i64 (c.more ((k : Int) + 1)).st]) 0 rf rf w' (St.sub hw hs)) (Mem.own1 1 rf rf w' (St.sub hw hs))⟩ sbA hokm) ?_
           rintro _ _ ⟨fx, fb, rfl, hfv, rfl⟩
           have hfy : fb = true → c.hk n ((k : Int) + 1) = some fx.w := hfv.yes'
           have hfn : fb = false → c.hk n ((k : Int) + 1) = none := fun h => (hfv.no' h).2
           refine WS_nil ?_
           refine WH_take 6 dk0 rf dk0 dk0 rf (ye_move (c := .tuple _) rf) ?_
           refine WH_take 7 dk0 rf dk0 dk0 rf (ye_extract (c := .agg _) rf rf) ?_
           refine WH_take 8 dk0 rf dk0 dk0 rf (ye_extract (c := .bool _) rf rf) ?_
           refine WH_step1 10 dk0 (fun _ h => St.sub h sbA) rf ?_
           ·
            refine WS_pull (b11, _) zu ?_
            refine WS_store hF (i := 0) rf rf Tryz.sizeOf118 rf rf rf d20 ?_
            refine WS_nil ?_
            refine WH_done dk0 (fun _ h => St.sub h sbA) ?_
            exact ⟨fx, fb, _, hfy, hfn, s30, HSub.sub sbA⟩
        ·
         refine WS_new hF rf (y_alloc Tryz.zeroValue118 rf) (fun b11 => ?_)
         refine WS_nil ?_
         refine WH_step1 4 dk0 (fun _ h => St.sub h sbA) rf ?_
         ·
          refine WS_gen hF rf (y_callL rf rf Tryz.call54 (fun w hw => some_any (c.more ((k : Int) + 1)) z1 q1 z2 q2 n w)) ?_
          rintro _ _ ⟨bb, bp, rfl, rfl⟩
          refine WS_nil ?_
          refine WH_step1 5 dk0 (fun _ h => St.sub h sbA) rf ?_
          ·
           refine WS_pull (bp, _) zu ?_
           refine WS_pull (bb, _) zu ?_
           refine WS_pull (mk, _) zu ?_
           refine WS_callS hF rf rf rf Tryz.call66 (fewest_cs _ _ _ mk ck lE (c.more ((k : Int) + 1)) _ 100 [] [_, _] ((c.more ((k : Int) + 1)).someP n) hg (hT.mono sbA) [(bb, CB [.slice z1 (c.more ((k : Int) + 1)).n q1, .slice z2 (c.more ((k : Int) + 1)).inn.length q2, .int .i64 (c.more ((k : Int) + 1)).st] 92), (bp, CB [.int .i64 n] 3)] ⟨Tryz.call100, fun x hx C H w' hC hs hw => some1_any (c.more ((k : Int) + 1)) z1 q1 z2 q2 x n bb bp w' hokm (Mem.own (us := [.slice z1 (c.more ((k : Int) + 1)).n q1, .slice z2 (c.more ((k : Int) + 1)).inn.length q2, .int .i64 (c.more ((k : Int) + 1)).st]) 0 rf rf w' (St.sub hw hs)) (Mem.own1 1 rf rf w' (St.sub hw hs))⟩ sbA hokm) ?_
           rintro _ _ ⟨fx, fb, rfl, hfv, rfl⟩
           have hfy : fb = true → c.hk n ((k : Int) + 1) = some fx.w := hfv.yes'
           have hfn : fb = false → c.hk n ((k : Int) + 1) = none := fun h => (hfv.no' h).2
           refine WS_nil ?_
           refine WH_take 6 dk0 rf dk0 dk0 rf (ye_move (c := .tuple _) rf) ?_
           refine WH_take 7 dk0 rf dk0 dk0 rf (ye_extract (c := .agg _) rf rf) ?_
           refine WH_take 8 dk0 rf dk0 dk0 rf (ye_extract (c := .bool _) rf rf) ?_
           refine WH_step1 10 dk0 (fun _ h => St.sub h sbA) rf ?_
           ·
            refine WS_pull (b11, _) zu ?_
            refine WS_store hF (i := 0) rf rf Tryz.sizeOf118 rf rf rf d20 ?_
            refine WS_nil ?_
            refine WH_done dk0 (fun _ h => St.sub h sbA) ?_
            exact ⟨fx, fb, _, hfy, hfn, s30, HSub.sub sbA⟩
       ·
        refine WS_new hF rf (y_alloc Tryz.zeroValue118 rf) (fun b11 => ?_)
        refine WS_nil ?_
        refine WH_step1 1 dk0 (fun _ h => St.sub h sbA) rf ?_
        ·
         refine WS_gen hF rf (y_callL rf rf Tryz.call50 (fun w hw => ways_any (c.more ((k : Int) + 1)) z1 q1 z2 q2 w hokm hnm hmm (NewRow.ints hr1 rfl sbA w hw) (NewRow.ints hr2 rfl sbA w hw))) ?_
         rintro _ _ ⟨mk, lE, ck, HX, rfl, rfl, hg, hT⟩
         refine WS_nil ?_
         refine WH_step1 4 dk0 (fun _ h => St.sub h sbA) rf ?_
         ·
          refine WS_gen hF rf (y_callL rf rf Tryz.call54 (fun w hw => some_any (c.more ((k : Int) + 1)) z1 q1 z2 q2 n w)) ?_
          rintro _ _ ⟨bb, bp, rfl, rfl⟩
          refine WS_nil ?_
          refine WH_step1 5 dk0 (fun _ h => St.sub h sbA) rf ?_
          ·
           refine WS_pull (bp, _) zu ?_
           refine WS_pull (bb, _) zu ?_
           refine WS_pull (mk, _) zu ?_
           refine WS_callS hF rf rf rf Tryz.call66 (fewest_cs _ _ _ mk ck lE (c.more ((k : Int) + 1)) _ 100 [] [_, _] ((c.more ((k : Int) + 1)).someP n) hg (hT.mono sbA) [(bb, CB [.slice z1 (c.more ((k : Int) + 1)).n q1, .slice z2 (c.more ((k : Int) + 1)).inn.length q2, .int .i64 (c.more ((k : Int) + 1)).st] 92), (bp, CB [.int .i64 n] 3)] ⟨Tryz.call100, fun x hx C H w' hC hs hw => some1_any (c.more ((k : Int) + 1)) z1 q1 z2 q2 x n bb bp w' hokm (Mem.own (us := [.slice z1 (c.more ((k : Int) + 1)).n q1, .slice z2 (c.more ((k : Int) + 1)).inn.length q2, .int .i64 (c.more ((k : Int) + 1)).st]) 0 rf rf w' (St.sub hw hs)) (Mem.own1 1 rf rf w' (St.sub hw hs))⟩ sbA hokm) ?_
           rintro _ _ ⟨fx, fb, rfl, hfv, rfl⟩
           have hfy : fb = true → c.hk n ((k : Int) + 1) = some fx.w := hfv.yes'
           have hfn : fb = false → c.hk n ((k : Int) + 1) = none := fun h => (hfv.no' h).2
           refine WS_nil ?_
           refine WH_take 6 dk0 rf dk0 dk0 rf (ye_move (c := .tuple _) rf) ?_
           refine WH_take 7 dk0 rf dk0 dk0 rf (ye_extract (c := .agg _) rf rf) ?_
           refine WH_take 8 dk0 rf dk0 dk0 rf (ye_extract (c := .bool _) rf rf) ?_
           refine WH_step1 10 dk0 (fun _ h => St.sub h sbA) rf ?_
           ·
            refine WS_pull (b11, _) zu ?_
            refine WS_store hF (i := 0) rf rf Tryz.sizeOf118 rf rf rf d20 ?_
            refine WS_nil ?_
            refine WH_done dk0 (fun _ h => St.sub h sbA) ?_
            exact ⟨fx, fb, _, hfy, hfn, s30, HSub.sub sbA⟩
    ·
     try simp only [qz1, qz2, qz3, qz4, qz5, qz6, qz7, qz8] at c10
     obtain rfl : k = 20 := by omega
     have hll := c.hpL_len n 20
     refine W_exit ?_
     refine Then_exit ?_
     refine Loop_exit ?_
     refine InB_same ?_
     refine Then_normal ?_
     refine W_seq ?_
     refine zR fun ds => ?_
     refine zm (.slice _ _ _) hF ?_
     refine zD hF (y_len rf Tryz.runUnderlying149) ?_
     refine zD hF (y_eql rf rf) ?_
     refine zN ?_
     refine W_cond rf (fun c18 => ?_) (fun c18 => ?_)
     ·
      try simp only [qz1, qz2, qz3, qz4, qz5, qz6, qz7, qz8] at c18
      refine zR fun ds => ?_
      refine za (.int .i64 _) hF ?_
      refine za (.int .i64 _) hF ?_
      refine za (.int .i64 _) hF ?_
      refine zN ?_
      refine W_ret ?_
      refine Then_ret ?_
      refine Fin_ret [.int .i64 _, .int .i64 _, .int .i64 _] [] Tryz.results36 ⟨by rfl, by rfl, by rfl, trivial⟩ HSub.nil ?_
      have h0 : c.hpL n 20 = [] := List.eq_nil_of_length_eq_zero om0
      exact HlpV.bad (by unfold Cn.hpE; rw [hokB, if_pos rfl, c4, if_pos rfl, if_neg om0, if_pos h0]) dc
     ·
      try simp only [qz1, qz2, qz3, qz4, qz5, qz6, qz7, qz8] at c18
      have h0 : c.hpL n 20 ≠ [] := fun h => by rw [h] at c18; exact c18 rfl
      refine W_skip ?_
      refine zS fun ds => ?_
      refine zm (.slice _ _ _) hF ?_
      refine zD hF (y_callL rf rf Tryz.call83 (fun w hw => firstH_any a (c.hpL n 20).length cap (c.hpL n 20) w (by have := List.length_pos_iff.2 h0; omega) om0 (NewRow.rws hp_len hrow rfl sbA w hw))) ?_
      refine WS_new hF rf (y_alloc Tryz.zeroValue152 rf) (fun b4 => ?_)
      refine WS_store hF (i := 0) rf rf Tryz.sizeOf152 rf rf rf d20 ?_
      refine zO ?_
      refine W_draw0 hF Tryzmixed [] dk0 (fun ds => ?_)
      refine P_det rf (Over_nil (y_fieldAddr rf fa152_0)) ?_
      refine P_det rf (Over_nil (y_load1 rf Tryz.isAgg3 (Mem.own1 0 rf rf))) ?_
      refine P_det rf (Over_nil (y_fieldAddr rf fa152_1)) ?_
      refine P_det rf (Over_nil (y_load1 rf Tryz.isAgg3 (Mem.own1 0 rf rf))) ?_
      refine P_det rf (Over_nil (y_assign (c := .int .i64 _) rf)) ?_
      refine P_det rf (Over_nil (y_assign (c := .int .i64 _) rf)) ?_
      refine P_det rf (Over_nil (y_assign (c := .int .i64 _) rf)) ?_
      refine PW_end rf ?_
      refine OverAll_nil ?_
      rintro -
      refine Then_normal ?_
      refine W_ret ?_
      refine Fin_ret [.int .i64 _, .int .i64 _, .int .i64 _] [] Tryz.results36 ⟨by rfl, by rfl, by rfl, trivial⟩ HSub.nil ?_
      exact HlpV.ok (by unfold Cn.hpE; rw [hokB, if_pos rfl, c4, if_pos rfl, if_neg om0, if_neg h0])
def stH (b x : Hp) : Hp := if b.s = 0 ∨ x.m < b.m then x else b
def hpF (l : List Hp) : Hp := l.foldl stH Hp.z
def Cn.IsAll (c : Cn) (L : List Co) : Prop := L.Nodup ∧ ∀ y, y ∈ L ↔ ∃ w, c.Best w y
theorem nodup_len {α : Type} [DecidableEq α] : ∀ {l m : List α}, l.Nodup → m.Nodup → (∀ x, x ∈ l ↔ x ∈ m) → l.length = m.length := by
 have key : ∀ {l m : List α}, l.Nodup → (∀ x ∈ l, x ∈ m) → l.length ≤ m.length := by
  intro l
  induction l with
  | nil => intro m _ _; exact Nat.zero_le _
  | cons x l ih =>
   intro m hl hs
   rw [List.nodup_cons] at hl
   have hxm := hs x List.mem_cons_self
   have h := ih (m := m.erase x) hl.2 fun y hy => by
    have hne : y ≠ x := fun e => hl.1 (e ▸ hy)
    exact (List.mem_erase_of_ne hne).2 (hs y (List.mem_cons_of_mem _ hy))
   rw [List.length_erase_of_mem hxm] at h
   have := List.length_pos_of_mem hxm
   simp only [List.length_cons]
   omega
 intro l m hl hm h
 exact Nat.le_antisymm (key hl fun x hx => (h x).1 hx) (key hm fun x hx => (h x).2 hx)
open Classical in
noncomputable def Cn.many (c : Cn) : Nat := if h : ∃ L, c.IsAll L then h.choose.length else 0
theorem Cn.IsAll.len {c : Cn} {L : List Co} (h : c.IsAll L) : c.many = L.length := by
 unfold Cn.many
 have hx : ∃ L, c.IsAll L := ⟨L, h⟩
 rw [dif_pos hx]
 exact nodup_len hx.choose_spec.1 h.1 fun y => by rw [hx.choose_spec.2, h.2]
theorem Tab.all {c : Cn} {HX : List Blk} {l : List (EntK Co)} {ck : Nat} (hg : GoodM l ck) (hT : Tab HX l c.bestO) : c.IsAll (l.map (·.1)) := by
 refine ⟨hg.keys, fun y => ⟨fun h => ?_, fun ⟨w, h⟩ => ?_⟩⟩
 ·obtain ⟨e, he, rfl⟩ := List.mem_map.1 h
  obtain ⟨x, _, h2, _⟩ := hT.mem hg he
  exact ⟨_, Cn.bestO_iff.1 h2⟩
 ·obtain ⟨e, he, rfl⟩ := hT.has (Cn.bestO_iff.2 h)
  exact List.mem_map.2 ⟨e, he, rfl⟩
noncomputable def Cn.maN (c : Cn) : Int := if c.okB then (c.many : Int) else 0
theorem many_any (c : Cn) (a1 : Option Addr) (p1 : Nat) (a2 : Option Addr) (p2 : Nat) (w : World) (hG : Gv w) (hn : c.n ≤ 1000000) (hm : c.inn.length ≤ 1000000) (h1 : Ints w a1 c.n p1 c.sz) (h2 : Ints w a2 c.inn.length p2 c.inn) : Ct Tryz.prog 16 #[.agg #[.slice a1 c.n p1, .slice a2 c.inn.length p2, .int .i64 c.st]] w fun v _ => v = .tuple #[.int .i64 c.maN, .int .i64 c.err] := by
 have hF := wide_wide
 refine Ct_start (args := [_]) Tryz.func16 rf Tryz.ntmps16 rf ?_
 refine zR fun ds => ?_
 refine WS_new hF rf (y_box rf) (fun b1 => ?_)
 refine za (.int .i64 _) hF ?_
 refine za (.int .i64 _) hF ?_
 refine zO ?_
 refine zR fun ds => ?_
 refine zD hF (y_loadN rf Tryz.isAgg24 Tryz.sizeOf24 (Mem.own (us := [.slice _ _ _, .slice _ _ _, .int .i64 _]) 0 rf rf) rf) ?_
 refine zD hF (y_callL rf rf Tryz.call47 (fun w hw => ccheck_any c a1 p1 a2 p2 w (hG.st w hw) hn hm (h1.st w hw) (h2.st w hw))) ?_
 refine za (.int .i64 _) hF ?_
 refine zP fun ds => ?_
 refine zm (.int .i64 _) hF ?_
 refine zD hF (y_neq rf rf) ?_
 refine zN ?_
 refine W_cond rf (fun c2 => ?_) (fun c2 => ?_)
 ·
  try simp only [qz1, qz2, qz3, qz4, qz5, qz6, qz7, qz8] at c2
  refine zR fun ds => ?_
  refine zm (.int .i64 _) hF ?_
  refine za (.int .i64 _) hF ?_
  refine za (.int .i64 _) hF ?_
  refine zN ?_
  refine W_ret ?_
  refine Then_ret ?_
  refine Fin_ret [.int .i64 _, .int .i64 _] [] Tryz.results16 ⟨by rfl, by rfl, trivial⟩ HSub.nil ?_
  obtain ⟨h3, h4⟩ := Cn.err_no c2
  rw [h4]
  unfold Cn.maN
  rw [h3]
  rfl
 ·
  try simp only [qz1, qz2, qz3, qz4, qz5, qz6, qz7, qz8] at c2
  have hokB := Cn.err_iff.1 c2
  have hok := Cn.ok_iff.1 hokB
  refine W_skip ?_
  refine zS fun ds => ?_
  refine zD hF (y_loadN rf Tryz.isAgg24 Tryz.sizeOf24 (Mem.own (us := [.slice _ _ _, .slice _ _ _, .int .i64 _]) 0 rf rf) rf) ?_
  refine zD hF (y_buildL bd92_0 rf) ?_
  refine WS_gen hF rf (y_callL rf rf Tryz.call50 (fun w hw => ways_any c a1 p1 a2 p2 w hok hn hm (h1.st w hw) (h2.st w hw))) ?_
  rintro _ _ ⟨mk, l, ck, HX, rfl, rfl, hg, hT⟩
  refine zD hF (y_lenK (enc := encC) (i := 0) rf Tryz.underlying94 rf) ?_
  refine za (.int .i64 _) hF ?_
  refine za (.int .i64 _) hF ?_
  refine zN ?_
  refine W_ret ?_
  refine Fin_ret [.int .i64 _, .int .i64 _] [] Tryz.results16 ⟨by rfl, by rfl, trivial⟩ HSub.nil ?_
  rw [c2]
  unfold Cn.maN
  rw [hokB, (Tab.all hg hT).len, List.length_map]
  rfl
def Cn.certB (c : Cn) (xs : List (Co × Wy)) : Bool :=
 xs.any (fun z => decide (z = (c.co, ⟨[], 0⟩))) &&
 (xs.all (fun z => allP.all fun p => !decide (c.pE z.1 p = 0) || xs.any fun u => decide (u.1 = c.stp z.1 p) && !(c.nx z.2 z.1 p).lt u.2) &&
 (xs.all (fun z => decide (c.runO c.co z.2.l = some z.1) && decide (z.2.back = c.bkO c.co z.2.l)) && decide ((xs.map Prod.fst).Nodup)))
def insW (ys : List (Co × Wy)) (y : Co) (v : Wy) : List (Co × Wy) :=
 if ys.any (fun z => decide (z.1 = y)) then ys.map (fun z => if z.1 = y ∧ v.lt z.2 = true then (y, v) else z) else ys ++ [(y, v)]
def Cn.lev (c : Cn) (known cur : List (Co × Wy)) : List (Co × Wy) :=
 cur.foldl (fun acc z => allP.foldl (fun acc p => if c.pE z.1 p = 0 then (if known.any (fun u => decide (u.1 = c.stp z.1 p)) then acc else insW acc (c.stp z.1 p) (c.nx z.2 z.1 p)) else acc) acc) []
def Cn.bfsN (c : Cn) : Nat → List (Co × Wy) → List (Co × Wy) → List (Co × Wy)
 | 0, k, _ => k
 | n + 1, k, cur => c.bfsN n (k ++ c.lev k cur) (c.lev k cur)
def Cn.bfs (c : Cn) (n : Nat) : List (Co × Wy) := c.bfsN n [(c.co, ⟨[], 0⟩)] [(c.co, ⟨[], 0⟩)]
theorem Cn.cert_way {c : Cn} {xs : List (Co × Wy)} (hn : c.n ≤ 3) (h : c.certB xs = true) : ∀ (m : Nat) (l : List Po), l.length = m → ∀ (b : Int) (y : Co), c.Way ⟨l, b⟩ y → ∃ u, (y, u) ∈ xs ∧ Wy.lt ⟨l, b⟩ u = false := by
 unfold Cn.certB at h
 simp only [Bool.and_eq_true, List.any_eq_true, List.all_eq_true, decide_eq_true_eq, Bool.or_eq_true, Bool.not_eq_true', decide_eq_false_iff_not] at h
 obtain ⟨⟨z0, hz0, rfl⟩, hs, _, _⟩ := h
 intro m
 induction m with
 | zero =>
  intro l hl b y hw
  obtain rfl : l = [] := List.length_eq_zero_iff.1 hl
  have h1 := hw.run
  have h2 := hw.back
  simp only [Cn.runO, Option.some.injEq] at h1
  simp only [Cn.bkO] at h2
  subst h1 h2
  exact ⟨_, hz0, Wy.lt_irrefl _⟩
 | succ m ih =>
  intro l hl b y hw
  obtain ⟨l0, p, rfl⟩ : ∃ l0 p, l = l0 ++ [p] := ⟨l.dropLast, l.getLast (by intro e; subst e; cases hl), (List.dropLast_concat_getLast _).symm⟩
  obtain ⟨x, h1, h2, rfl, rfl⟩ := hw.init
  obtain ⟨u, hu, hlt⟩ := ih l0 (by rw [List.length_append, List.length_singleton] at hl; omega) _ x h1
  rcases hs (x, u) hu p (Cn.pE_all hn h2) with h3 | ⟨z, hz, h3, h4⟩
  ·exact absurd h2 h3
  ·obtain ⟨y', u'⟩ := z
   simp only at h3 h4
   subst h3
   refine ⟨u', hz, ?_⟩
   cases hb : Wy.lt ⟨l0 ++ [p], c.bkO c.co l0 + bk x (c.stp x p)⟩ u' with
   | false => rfl
   | true =>
    cases hu2 : u.lt ⟨l0, c.bkO c.co l0⟩ with
    | false =>
     have e := Wy.tot hu2 hlt
     subst e
     unfold Cn.nx at h4
     rw [hb] at h4; cases h4
    | true =>
     have := Wy.lt_trans (Wy.lt_snoc (p := p) (d := bk x (c.stp x p)) hu2) hb
     unfold Cn.nx at h4
     rw [this] at h4; cases h4
theorem Cn.cert_best {c : Cn} {xs : List (Co × Wy)} (hn : c.n ≤ 3) (h : c.certB xs = true) {w : Wy} {y : Co} : c.Best w y ↔ (y, w) ∈ xs := by
 have hc := Cn.cert_way hn h
 unfold Cn.certB at h
 simp only [Bool.and_eq_true, List.any_eq_true, List.all_eq_true, decide_eq_true_eq, Bool.or_eq_true, Bool.not_eq_true', decide_eq_false_iff_not] at h
 obtain ⟨_, _, hw, hd⟩ := h
 have hu : ∀ u v, (y, u) ∈ xs → (y, v) ∈ xs → u = v := fun u v h1 h2 => by
  have : ∀ {xs : List (Co × Wy)}, (xs.map Prod.fst).Nodup → (y, u) ∈ xs → (y, v) ∈ xs → u = v := by
   intro xs
   induction xs with
   | nil => intro _ h; cases h
   | cons z xs ih =>
    intro hd h1 h2
    rw [List.map_cons, List.nodup_cons] at hd
    rcases List.mem_cons.1 h1 with e1 | h1 <;> rcases List.mem_cons.1 h2 with e2 | h2
    ·rw [← e1] at e2; cases e2; rfl
    ·exact absurd (List.mem_map.2 ⟨_, h2, by rw [← e1]⟩) hd.1
    ·exact absurd (List.mem_map.2 ⟨_, h1, by rw [← e2]⟩) hd.1
    ·exact ih hd.2 h1 h2
  exact this hd h1 h2
 constructor
 ·intro hb
  obtain ⟨u, hm, hlt⟩ := hc _ w.l rfl w.back y hb.way
  obtain ⟨h1, h2⟩ := hw _ hm
  have := hb.least u ⟨h1, h2⟩
  have e : w = u := Wy.tot hlt this
  rw [e]; exact hm
 ·intro hm
  obtain ⟨h1, h2⟩ := hw _ hm
  refine ⟨⟨h1, h2⟩, fun v hv => ?_⟩
  obtain ⟨u, hm2, hlt⟩ := hc _ v.l rfl v.back y hv
  rw [hu w u hm hm2]
  exact hlt
theorem Cn.cert_few {c : Cn} {xs : List (Co × Wy)} (hn : c.n ≤ 3) (h : c.certB xs = true) {p : Co → Bool} {w : Wy} (h1 : xs.any (fun z => decide (z.2 = w) && p z.1) = true) (h2 : xs.all (fun z => !p z.1 || !z.2.lt w) = true) : c.few p = some w := by
 simp only [List.any_eq_true, List.all_eq_true, Bool.and_eq_true, decide_eq_true_eq, Bool.or_eq_true, Bool.not_eq_true'] at h1 h2
 obtain ⟨⟨y, v⟩, hm, rfl, hp⟩ := h1
 refine Cn.few_some ⟨⟨y, hp, (Cn.cert_best hn h).2 hm⟩, fun k v' hk hv => ?_⟩
 rcases h2 (k, v') ((Cn.cert_best hn h).1 hv) with e | e
 ·rw [hk] at e; cases e
 ·exact e
theorem Cn.cert_none {c : Cn} {xs : List (Co × Wy)} (hn : c.n ≤ 3) (h : c.certB xs = true) {p : Co → Bool} (h1 : xs.all (fun z => !p z.1) = true) : c.few p = none := by
 simp only [List.all_eq_true, Bool.not_eq_true'] at h1
 refine Cn.few_none fun k v hk hv => ?_
 have := h1 (k, v) ((Cn.cert_best hn h).1 hv)
 rw [hk] at this; cases this
theorem Cn.cert_many {c : Cn} {xs : List (Co × Wy)} (hn : c.n ≤ 3) (h : c.certB xs = true) : c.many = xs.length := by
 have hb := fun w y => Cn.cert_best (w := w) (y := y) hn h
 unfold Cn.certB at h
 simp only [Bool.and_eq_true, decide_eq_true_eq] at h
 have ha : c.IsAll (xs.map Prod.fst) := ⟨h.2.2.2, fun y => ⟨fun hy => by
  obtain ⟨⟨y', w⟩, hz, rfl⟩ := List.mem_map.1 hy
  exact ⟨w, (hb _ _).2 hz⟩, fun ⟨w, hw⟩ => List.mem_map.2 ⟨_, (hb _ _).1 hw, rfl⟩⟩⟩
 rw [ha.len, List.length_map]
theorem Cn.cert_mk {c : Cn} {xs : List (Co × Wy)} (hn : c.n ≤ 3) (h : c.certB xs = true) {n : Int} : c.mkP n ↔ xs.any (fun z => decide (n ∈ (c.of z.1).inn)) = true := by
 simp only [List.any_eq_true, decide_eq_true_eq]
 constructor
 ·rintro ⟨w, y, hb, hm⟩; exact ⟨(y, w), (Cn.cert_best hn h).1 hb, hm⟩
 ·rintro ⟨⟨y, w⟩, hz, hm⟩; exact ⟨w, y, (Cn.cert_best hn h).2 hz, hm⟩
theorem Cn.cert_made {c : Cn} {xs : List (Co × Wy)} (hn : c.n ≤ 3) (h : c.certB xs = true) : c.madeL = ((List.range 21).map fun (k : Nat) => (k : Int)).filter fun n => xs.any (fun z => decide (n ∈ (c.of z.1).inn)) := by
 unfold Cn.madeL
 refine List.filter_congr fun n _ => ?_
 rw [Bool.eq_iff_iff]
 simp only [decide_eq_true_eq]
 exact Cn.cert_mk hn h
def bench2 (s a b : Int) : Cn := ⟨[a, b], [0, 0], s⟩
theorem cert35 : (bench2 20 3 5).certB ((bench2 20 3 5).bfs 9) = true := by decide +kernel
theorem cert46 : (bench2 20 4 6).certB ((bench2 20 4 6).bfs 9) = true := by decide +kernel
theorem Cn.runO_app (c : Cn) (m : List Po) : ∀ (l : List Po) (x : Co), c.runO x (l ++ m) = (c.runO x l).bind fun y => c.runO y m
 | [], x => by simp [Cn.runO]
 | p :: l, x => by
  simp only [List.cons_append, Cn.runO]
  split
  ·exact Cn.runO_app c m l _
  ·rfl
def Cn.RunOk (c : Cn) (l : List Po) (k : Nat) : Prop := ∀ j, j < k → c.pE (c.runK l j) (l.getD j Po.z) = 0
theorem take_snocD {α : Type} {l : List α} {k : Nat} {d : α} (h : k < l.length) : l.take (k + 1) = l.take k ++ [l.getD k d] := by
 rw [List.take_add_one, List.getElem?_eq_getElem h]
 simp [List.getD_eq_getElem?_getD, h]
theorem Cn.RunOk.runO {c : Cn} {l : List Po} : ∀ {k : Nat}, c.RunOk l k → k ≤ l.length → c.runO c.co (l.take k) = some (c.runK l k) ∧ c.bkO c.co (l.take k) = c.backK l k
 | 0, _, _ => by simp [Cn.runO, Cn.bkO, Cn.runK, Cn.backK]
 | k + 1, h, hk => by
  obtain ⟨h1, h2⟩ := Cn.RunOk.runO (c := c) (l := l) (k := k) (fun j hj => h j om0) om0
  have hp := h k (Nat.lt_succ_self k)
  rw [take_snocD (d := Po.z) om0]
  refine ⟨?_, ?_⟩
  ·rw [c.runO_snoc, h1, Option.bind_some, if_pos hp]; rfl
  ·rw [c.bkO_snoc _ _ _ _ h1, h2]; rfl
theorem Cn.RunOk.way {c : Cn} {l : List Po} {k : Nat} (h : c.RunOk l k) (hk : k ≤ l.length) : c.Way ⟨l.take k, c.backK l k⟩ (c.runK l k) :=
 ⟨(h.runO hk).1, (h.runO hk).2.symm⟩
theorem Cn.runO_ok {c : Cn} {l : List Po} {y : Co} (h : c.runO c.co l = some y) : ∀ k, k ≤ l.length → c.RunOk l k
 | 0, _ => fun j hj => absurd hj (Nat.not_lt_zero _)
 | k + 1, hk => fun j hj => by
  have ih := Cn.runO_ok h k om0
  by_cases hjk : j = k
  ·subst hjk
   have h1 := (ih.runO om0).1
   rw [← List.take_append_drop j l, c.runO_app, h1, Option.bind_some, List.drop_eq_getElem_cons om0] at h
   unfold Cn.runO at h
   split at h
   ·rename_i hp
    rw [List.getD_eq_getElem?_getD, List.getElem?_eq_getElem om0]
    exact hp
   ·cases h
  ·exact ih j om0
theorem Cn.Way.ok {c : Cn} {w : Wy} {y : Co} (h : c.Way w y) : c.RunOk w.l w.l.length ∧ c.runK w.l w.l.length = y ∧ c.backK w.l w.l.length = w.back := by
 have h1 := Cn.runO_ok h.run w.l.length (Nat.le_refl _)
 obtain ⟨h2, h3⟩ := h1.runO (Nat.le_refl _)
 rw [List.take_length] at h2 h3
 have h4 := h.run
 rw [h2] at h4
 exact ⟨h1, Option.some.inj h4, by rw [← h3, h.back]⟩
theorem Cn.few_ex {c : Cn} (hn : c.n ≤ 3) {p : Co → Bool} {v : Wy} {y : Co} (hy : p y = true) (h : c.Way v y) : ∃ w, c.few p = some w ∧ v.lt w = false := by
 obtain ⟨u, hu⟩ := h.best hn
 have hl : ∀ {w : Wy} {z : Co}, c.Best w z → w.l.length ≤ u.l.length → w ∈ (lists u.l.length).map fun l => (⟨l, c.bkO c.co l⟩ : Wy) := fun {w z} hw hle => by
  refine List.mem_map.2 ⟨w.l, mem_lists hle (Cn.runO_all hn hw.way.run), ?_⟩
  have := hw.way.back
  obtain ⟨wl, wb⟩ := w
  simp only at this
  rw [← this]
 obtain ⟨w, hm, ⟨z, hpz, hz⟩, hmin⟩ := exists_min (fun w => ∃ z, p z = true ∧ c.Best w z) Wy.lt (fun w => w.l.length) Wy.lt_irrefl (fun h1 h2 => Wy.lt_trans h1 h2) ((lists u.l.length).map fun l => (⟨l, c.bkO c.co l⟩ : Wy)) ⟨u, hl hu (Nat.le_refl _), y, hy, hu⟩
 have hwu : u.lt w = false := hmin u (hl hu (Nat.le_refl _)) ⟨y, hy, hu⟩
 refine ⟨w, Cn.few_some ⟨⟨z, hpz, hz⟩, fun k v' hk hv => ?_⟩, ?_⟩
 ·by_cases hle : v'.l.length ≤ u.l.length
  ·exact hmin v' (hl hv hle) ⟨k, hk, hv⟩
  ·cases hlt : v'.lt w with
   | false => rfl
   | true =>
    rw [Wy.lt_iff] at hlt
    have h2 : u.lt w = true := Wy.lt_iff.2 (by left; omega)
    rw [hwu] at h2; cases h2
 ·cases hlt : v.lt w with
  | false => rfl
  | true =>
   have h1 := hu.least v h
   cases huv : u.lt v with
   | true => rw [Wy.lt_trans huv hlt] at hwu; cases hwu
   | false =>
    have := Wy.tot huv h1
    subst this
    rw [hlt] at hwu; cases hwu
theorem Cn.few_way {c : Cn} {p : Co → Bool} {w : Wy} (h : c.few p = some w) : ∃ y, p y = true ∧ c.Best w y := (Cn.few_of h).1
end Go.Proofs.YtjekjehgmljbgaaGreatDoor.T
namespace Go.Proofs.YtjekjehgmljbgaaGreatDoor.T
open Go.RowKit Go.Proofs Go.Eng Go.Shelf
set_option maxRecDepth 100000
set_option maxHeartbeats 1000000
theorem bs172_2_0_1 {x0a : Option Addr} {x0l x0c : Nat} {x1a : Option Addr} {x1l x1c : Nat} : ∀ w, (Instr.buildSlice 172 2 #[(0, .slice x0a x0l x0c), (1, .slice x1a x1l x1c)]).run Tryz.prog w = .ok (.slice (some ⟨w.heap.size, 0, none⟩) 2 2) (w.alloc (CB [.slice x0a x0l x0c, .slice x1a x1l x1c] 22)) := fun w => by kernel_rfl
def grR : Go.Shelf.Ren := ⟨fun n => match n with
 | 4 => 102
 | _ => 0, fun n => match n with
 | 0 => 0
 | 3 => 3
 | 4 => 4
 | 9 => 9
 | 20 => 20
 | 22 => 22
 | 25 => 3
 | _ => 0, fun x => x⟩
theorem grL : Lays8.n4 Tryz.prog grR where
 mixed := by kernel_rfl
 f4 := ⟨Tryz.f102.name, by kernel_rfl, (Tryz.func102).trans (congrArg some (by kernel_rfl))⟩
 t0 := by kernel_rfl
 a0 := fun w => by kernel_rfl
 z0 := fun w => by kernel_rfl
 v0 := fun w => by kernel_rfl
 t3 := by kernel_rfl
 a3 := fun w => by kernel_rfl
 z3 := fun w => by kernel_rfl
 v3 := fun w => by kernel_rfl
 t4 := by kernel_rfl
 a4 := fun w => by kernel_rfl
 z4 := fun w => by kernel_rfl
 v4 := fun w => by kernel_rfl
 t9 := by kernel_rfl
 a9 := fun w => by kernel_rfl
 z9 := fun w => by kernel_rfl
 v9 := fun w => by kernel_rfl
 t20 := by kernel_rfl
 a20 := fun w => by kernel_rfl
 z20 := fun w => by kernel_rfl
 v20 := fun w => by kernel_rfl
 t22 := by kernel_rfl
 a22 := fun w => by kernel_rfl
 z22 := fun w => by kernel_rfl
 v22 := fun w => by kernel_rfl
theorem zc_size (n : Nat) : (Builtin.zeroCells (Value.int .i64 0).cells n).size = n := by rw [size_zeroCells]; show n * 1 = n; rw [Nat.mul_one]
theorem grow_any (n : Nat) (w : World) (hn0 : 0 < n) (hn : n ≤ 1000000) : Ct Tryz.prog 102 #[.slice none 0 0, .int .i64 (n : Int)] w fun v Hn => ∃ b cap junk, v = .slice (some ⟨b, 0, none⟩) 0 cap ∧ Hn = [(b, CB junk 3)] ∧ junk.length = cap ∧ n ≤ cap := by
 obtain ⟨i, hi, hz, hsz, hby⟩ := info_parts infInt
 refine Calls.mono (Any8.slices_Grow_grow grL i (.int .i64 0) hi hz om0 none 0 0 n [] w (Nat.le_refl _) om0 (by rw [hby]; omega) om0 (by simp) (fun _ => rfl) (fun a h => by cases h)) ?_
 rintro e w' ⟨rfl, rfl⟩
 have hge := grownCap_ge w (0 + n) 0 3
 change 0 + n ≤ grownCap w (0 + n) 0 (grR.t 25) at hge
 refine ⟨_, rfl, out_new_drew (fun h => by cases h) ⟨w.heap.size, grownCap w (0 + n) 0 (grR.t 25), ((#[] ++ Builtin.zeroCells (Value.int .i64 0).cells (0 + n - 0) ++ Builtin.zeroCells (Value.int .i64 0).cells (grownCap w (0 + n) 0 (grR.t 25) - (0 + n))) : Array Value).toList, rfl, rfl, ?_, by omega⟩⟩
 rw [Array.length_toList, Array.size_append, Array.size_append, zc_size, zc_size]
 simp only [List.size_toArray, List.length_nil]
 omega
def catK (L : Nat → List Int) : Nat → List Int
 | 0 => []
 | k + 1 => catK L k ++ L k
theorem catK_len (L : Nat → List Int) (k : Nat) : (catK L (k + 1)).length = (catK L k).length + (L k).length := List.length_append
theorem catK_bd {L : Nat → List Int} (h : ∀ k, k < 2 → (L k).length ≤ 1000) : ∀ k, k ≤ 2 → (catK L k).length ≤ 1000 * k
 | 0, _ => Nat.le_refl _
 | k + 1, hk => by have := catK_bd h k om0; have := h k om0; rw [catK_len]; omega
theorem concat_any (L : Nat → List Int) (A : Nat → Option Addr) (C : Nat → Nat) (bs : Nat) (w : World) (hb : ∀ k, k < 2 → At w bs (0 + k * 1) [.slice (A k) (L k).length (C k)]) (hI : ∀ k, k < 2 → Ints w (A k) (L k).length (C k) (L k)) (hl : ∀ k, k < 2 → (L k).length ≤ 1000) (h0 : 0 < (catK L 2).length) :
  Ct Tryz.prog 56 #[.slice (some ⟨bs, 0, none⟩) 2 2] w fun v Hn => ∃ a cap, v = .slice a (catK L 2).length cap ∧ Row 3 1 a (catK L 2).length cap (iv (catK L 2)) Hn := by
 have hbd := catK_bd hl
 have h2 := hbd 2 (Nat.le_refl _)
 have hF := wide_wide
 refine Ct_start (args := [_]) Tryz.func56 rf Tryz.ntmps56 rf ?_
 refine zR fun ds => ?_
 refine za (.slice _ _ _) hF ?_
 refine zP fun ds => ?_
 refine za (.int .i64 _) hF ?_
 refine zO ?_
 refine zR fun ds => ?_
 refine zm (.slice _ _ _) hF ?_
 refine zD hF (y_len rf Tryz.runUnderlying172) ?_
 refine zm (.int .i64 _) hF ?_
 refine zN ?_
 refine W_block ?_
 refine W_loop (γ := Nat) (fun k => k ≤ 2) (fun k => [(0, .slice (some ⟨bs, 0, none⟩) 2 2), (3, .int .i64 ((catK L k).length : Int)), (9, .slice (some ⟨bs, 0, none⟩) 2 2), (10, .int .i64 2), (11, .int .i64 (k : Int))]) (fun _ => _) (fun k => 2 - k) (0) (Nat.zero_le _) s10 (List.Sublist.refl _) ?_
 intro k e hk
 refine zR fun ds => ?_
 refine zD hF (y_lss rf rf) ?_
 refine zO ?_
 refine W_cond rf (fun c3 => ?_) (fun c3 => ?_)
 ·
  try simp only [qz1, qz2, qz3, qz4, qz5, qz6, qz7, qz8] at c3
  have hc := hb k om0
  have hbk := hbd k om0
  have hlk := hl k om0
  have hs : ((catK L k).length : Int) + ((L k).length : Int) = ((catK L (k + 1)).length : Int) := by rw [catK_len]; omega
  refine zU ?_
  refine W_seq ?_
  refine W_block ?_
  refine zR fun ds => ?_
  refine zD hF (y_index (k := k) rf rf r10 d10 Tryz.runUnderlying172 Tryz.sizeOf22) ?_
  refine zD hF (y_load1 rf Tryz.isAgg22 zo) ?_
  refine za (.slice _ _ _) hF ?_
  refine zP fun ds => ?_
  refine zm (.int .i64 _) hF ?_
  refine zm (.slice _ _ _) hF ?_
  refine zD hF (y_len rf Tryz.runUnderlying22) ?_
  refine zD hF (y_add rf rf ui) ?_
  refine za (.int .i64 _) hF ?_
  refine zO ?_
  rw [hs]
  refine W_region_lit (fun ds => ?_)
  refine zm (.int .i64 _) hF ?_
  refine zD hF (y_lss rf rf) ?_
  refine zN ?_
  refine W_cond rf (fun c6 => ?_) (fun c6 => ?_)
  ·(simp only [decide_eq_true_eq] at c6; omega)
  ·
   try simp only [qz1, qz2, qz3, qz4, qz5, qz6, qz7, qz8] at c6
   refine W_skip ?_
   refine InB_normal ?_
   refine zT fun ds => ?_
   refine zD hF (y_add rf rf ui) ?_
   refine zm (.int .i64 _) hF ?_
   refine WS_nil ?_
   exact Loop_next (k + 1) om0 s10 s20 om0
 ·
  try simp only [qz1, qz2, qz3, qz4, qz5, qz6, qz7, qz8] at c3
  obtain rfl : k = 2 := by omega
  refine W_exit ?_
  refine Then_exit ?_
  refine Loop_exit ?_
  refine InB_same ?_
  refine zS fun ds => ?_
  refine zm (.int .i64 _) hF ?_
  refine WS_gen hF rf (y_callL rf rf Tryz.call102 (fun w hw => grow_any (catK L 2).length w h0 om0)) ?_
  rintro _ _ ⟨b, gcap, junk, rfl, rfl, hjl, hgc⟩
  have hrow0 : Row 3 1 (some ⟨b, 0, none⟩) 0 gcap (iv (catK L 0)) [(b, CB junk 3)] := .inr ⟨b, junk, rfl, rfl, rfl, by rw [Nat.mul_one]; exact hjl, Nat.zero_le _⟩
  refine za (.slice _ _ _) hF ?_
  refine zO ?_
  refine zR fun ds => ?_
  refine zm (.slice _ _ _) hF ?_
  refine zD hF (y_len rf Tryz.runUnderlying172) ?_
  refine zm (.int .i64 _) hF ?_
  refine zN ?_
  refine W_block ?_
  refine W_loop (γ := Nat × Option Addr × Nat × List Blk) (fun q => q.1 ≤ 2 ∧ Row 3 1 q.2.1 (catK L q.1).length q.2.2.1 (iv (catK L q.1)) q.2.2.2) (fun q => [(6, .slice q.2.1 (catK L q.1).length q.2.2.1), (25, .slice (some ⟨bs, 0, none⟩) 2 2), (26, .int .i64 2), (27, .int .i64 (q.1 : Int))]) (fun q => q.2.2.2) (fun q => 2 - q.1) ((0, some ⟨b, 0, none⟩, gcap, [(b, CB junk 3)])) ⟨Nat.zero_le _, hrow0⟩ s10 (sbA) ?_
  rintro ⟨k, a, cap, Hr⟩ e ⟨(hk : k ≤ 2), (hrow : Row 3 1 a (catK L k).length cap (iv (catK L k)) Hr)⟩
  refine zR fun ds => ?_
  refine zD hF (y_lss rf rf) ?_
  refine zO ?_
  refine W_cond rf (fun c11 => ?_) (fun c11 => ?_)
  ·
   try simp only [qz1, qz2, qz3, qz4, qz5, qz6, qz7, qz8] at c11
   have hc := hb k om0
   have hbk := hbd k om0
   have hlk := hl k om0
   refine zU ?_
   refine W_seq ?_
   refine W_block ?_
   refine zR fun ds => ?_
   refine zD hF (y_index (k := k) rf rf r10 d10 Tryz.runUnderlying172 Tryz.sizeOf22) ?_
   refine zD hF (y_load1 rf Tryz.isAgg22 zo) ?_
   refine za (.slice _ _ _) hF ?_
   refine zQ fun ds => ?_
   refine zm (.slice _ _ _) hF ?_
   refine zm (.slice _ _ _) hF ?_
   refine WS_append hF (news := iv (L k)) (H1 := []) (Hn := Hr) (H2 := []) rf rf rf Tryz.underlying22 infInt rf (by simp) hrow (Ints.src (hI k om0)) (iv_len (L k)) (iv_one _) om0 om0 ?_
   intro a3 cap3 H3 hr3
   rw [← catK_len]
   have hrow3 : Row 3 1 a3 (catK L (k + 1)).length cap3 (iv (catK L (k + 1))) H3 := by
    rw [catK_len]
    show Row _ _ _ _ _ (iv (catK L k ++ L k)) _
    rw [show iv (catK L k ++ L k) = iv (catK L k) ++ iv (L k) from List.map_append]
    exact hr3
   rw [List.nil_append, List.append_nil]
   refine za (.slice _ _ _) hF ?_
   refine WS_nil ?_
   refine InB_normal ?_
   refine zT fun ds => ?_
   refine zD hF (y_add rf rf ui) ?_
   refine zm (.int .i64 _) hF ?_
   refine WS_nil ?_
   exact Loop_next (k + 1, a3, cap3, H3) ⟨by omega, hrow3⟩ s10 sbA (by simp only; omega)
  ·
   try simp only [qz1, qz2, qz3, qz4, qz5, qz6, qz7, qz8] at c11
   obtain rfl : k = 2 := by omega
   refine W_exit ?_
   refine Then_exit ?_
   refine Loop_exit ?_
   refine InB_same ?_
   refine zS fun ds => ?_
   refine zm (.slice _ _ _) hF ?_
   refine za (.slice _ _ _) hF ?_
   refine zN ?_
   refine W_ret ?_
   refine Fin_ret [.slice _ _ _] Hr Tryz.results56 ⟨by rfl, trivial⟩ HSub.refl ?_
   exact ⟨a, cap, rfl, hrow⟩
theorem row_adr {E : TypeId} {sz n cap : Nat} {a : Option Addr} {us : List Value} {Hn : List Blk} (h : Row E sz a n cap us Hn) (hn : 0 < n) : ∃ b, a = some ⟨b, 0, none⟩ := by
 rcases h with ⟨_, h, _⟩ | ⟨b, _, h, _⟩
 ·omega
 ·exact ⟨b, h⟩
def gK (zs : List Int) (k : Nat) : Nat := (zs.take k).foldl (fun g x => Nat.gcd g x.toNat) 0
theorem gK_succ {zs : List Int} {k : Nat} (h : k < zs.length) : gK zs (k + 1) = Nat.gcd (gK zs k) (zs.getD k 0).toNat := by
 unfold gK
 rw [List.take_add_one, List.getElem?_eq_getElem h]
 simp only [Option.toList_some]
 rw [List.foldl_append]
 simp [List.getD_eq_getElem?_getD, h]
def Cn.all (c : Cn) : List Int := c.sz ++ c.inn
def Cn.gc (c : Cn) : Nat := gK c.all c.all.length
def Cn.meN (c : Cn) : Int := if c.okB then (c.gc : Int) else 0
theorem Cn.Ok.all_bd {c : Cn} (h : c.Ok) : c.all.length = c.n + c.n ∧ ∀ k, k < c.all.length → 0 ≤ c.all.getD k 0 ∧ c.all.getD k 0 ≤ 20 := by
 have hs : c.sz.length = c.n := rfl
 have hl := h.len
 refine ⟨by unfold Cn.all; rw [List.length_append]; omega, fun k hk => ?_⟩
 unfold Cn.all at hk ⊢
 rw [List.length_append] at hk
 by_cases hkn : k < c.n
 ·rw [List.getD_eq_getElem?_getD, List.getElem?_append_left om0, ← List.getD_eq_getElem?_getD]
  have := h.s k hkn
  unfold Cn.s at this
  omega
 ·rw [List.getD_eq_getElem?_getD, List.getElem?_append_right om0, ← List.getD_eq_getElem?_getD]
  have h1 := h.i (k - c.sz.length) om0
  have h2 := h.s (k - c.sz.length) om0
  unfold Cn.i at h1
  omega
theorem gK_bd {zs : List Int} (h : ∀ k, k < zs.length → 0 ≤ zs.getD k 0 ∧ zs.getD k 0 ≤ 20) : ∀ k, k ≤ zs.length → gK zs k ≤ 20
 | 0, _ => by unfold gK; simp
 | k + 1, hk => by
  have ih := gK_bd h k om0
  have hx := h k om0
  rw [gK_succ om0]
  by_cases h0 : gK zs k = 0
  ·rw [h0, Nat.gcd_zero_left]; omega
  ·exact Nat.le_trans (Nat.gcd_le_left _ om0) ih
theorem measure_any (c : Cn) (a1 : Option Addr) (p1 : Nat) (a2 : Option Addr) (p2 : Nat) (w : World) (hG : Gv w) (hn : c.n ≤ 1000000) (hm : c.inn.length ≤ 1000000) (h1 : Ints w a1 c.n p1 c.sz) (h2 : Ints w a2 c.inn.length p2 c.inn) : Ct Tryz.prog 21 #[.agg #[.slice a1 c.n p1, .slice a2 c.inn.length p2, .int .i64 c.st]] w fun v _ => v = .tuple #[.int .i64 c.meN, .int .i64 c.err] := by
 have hF := wide_wide
 refine Ct_start (args := [_]) Tryz.func21 rf Tryz.ntmps21 rf ?_
 refine zR fun ds => ?_
 refine WS_new hF rf (y_box rf) (fun b1 => ?_)
 refine za (.int .i64 _) hF ?_
 refine za (.int .i64 _) hF ?_
 refine zO ?_
 refine zR fun ds => ?_
 refine zD hF (y_loadN rf Tryz.isAgg24 Tryz.sizeOf24 (Mem.own (us := [.slice _ _ _, .slice _ _ _, .int .i64 _]) 0 rf rf) rf) ?_
 refine zD hF (y_callL rf rf Tryz.call47 (fun w hw => ccheck_any c a1 p1 a2 p2 w (hG.st w hw) hn hm (h1.st w hw) (h2.st w hw))) ?_
 refine za (.int .i64 _) hF ?_
 refine zP fun ds => ?_
 refine zm (.int .i64 _) hF ?_
 refine zD hF (y_neq rf rf) ?_
 refine zN ?_
 refine W_cond rf (fun c2 => ?_) (fun c2 => ?_)
 ·
  try simp only [qz1, qz2, qz3, qz4, qz5, qz6, qz7, qz8] at c2
  refine zR fun ds => ?_
  refine zm (.int .i64 _) hF ?_
  refine za (.int .i64 _) hF ?_
  refine za (.int .i64 _) hF ?_
  refine zN ?_
  refine W_ret ?_
  refine Then_ret ?_
  refine Fin_ret [.int .i64 _, .int .i64 _] [] Tryz.results21 ⟨by rfl, by rfl, trivial⟩ HSub.nil ?_
  obtain ⟨h3, h4⟩ := Cn.err_no c2
  rw [h4]
  unfold Cn.meN
  rw [h3]
  rfl
 ·
  try simp only [qz1, qz2, qz3, qz4, qz5, qz6, qz7, qz8] at c2
  have hokB := Cn.err_iff.1 c2
  have hok := Cn.ok_iff.1 hokB
  have hn1 := hok.n1
  have hn3 := hok.n3
  have hlen := hok.len
  obtain ⟨hal, habd⟩ := hok.all_bd
  have hgb := gK_bd habd
  have hszl : c.sz.length = c.n := rfl
  have hc2 : catK (fun k => if k = 0 then c.sz else c.inn) 2 = c.all := by show ([] ++ c.sz) ++ c.inn = c.sz ++ c.inn; rw [List.nil_append]
  refine W_skip ?_
  refine zS fun ds => ?_
  refine za (.int .i64 _) hF ?_
  refine zO ?_
  refine zR fun ds => ?_
  refine zD hF (y_fieldAddr rf fa24_0) ?_
  refine zD hF (y_load1 rf Tryz.isAgg22 (Mem.own1 0 rf rf)) ?_
  refine zD hF (y_fieldAddr rf fa24_1) ?_
  refine zD hF (y_load1 rf Tryz.isAgg22 (Mem.own1 0 rf rf)) ?_
  refine WS_newS hF rf (y_buildSliceL bs172_2_0_1 rf) (fun bs => ?_)
  refine WS_gen hF rf (y_callL rf rf Tryz.call56 (fun w hw => concat_any (fun k => if k = 0 then c.sz else c.inn) (fun k => if k = 0 then a1 else a2) (fun k => if k = 0 then p1 else p2) bs w (fun k hk => by obtain rfl | rfl : k = 0 ∨ k = 1 := om0; exact Mem.own (us := [.slice a1 c.n p1]) 0 rf rf w hw; exact Mem.own (us := [.slice a2 c.inn.length p2]) 0 rf rf w hw) (fun k hk => by obtain rfl | rfl : k = 0 ∨ k = 1 := om0; exact h1.st w hw; exact h2.st w hw) (fun k hk => by obtain rfl | rfl : k = 0 ∨ k = 1 := om0; show c.sz.length ≤ 1000; omega; show c.inn.length ≤ 1000; omega) (by rw [hc2, hal]; omega))) ?_
  rw [hc2]
  rintro _ Hr ⟨a, cap, rfl, hrow⟩
  obtain ⟨bR, rfl⟩ := row_adr hrow (by rw [hal]; omega)
  refine zD hF (y_len rf Tryz.runUnderlying22) ?_
  refine zm (.int .i64 _) hF ?_
  refine zN ?_
  refine W_block ?_
  refine W_loop (γ := Nat) (fun k => k ≤ c.all.length) (fun k => [(5, .int .i64 (gK c.all k : Int)), (18, .slice (some ⟨bR, 0, none⟩) c.all.length cap), (19, .int .i64 (c.all.length : Int)), (20, .int .i64 (k : Int))]) (fun k => Hr) (fun k => c.all.length - k) (0) (Nat.zero_le _) s10 (sbA) ?_
  intro k e hk
  refine zR fun ds => ?_
  refine zD hF (y_lss rf rf) ?_
  refine zO ?_
  refine W_cond rf (fun c6 => ?_) (fun c6 => ?_)
  ·
   try simp only [qz1, qz2, qz3, qz4, qz5, qz6, qz7, qz8] at c6
   have hx := habd k om0
   have hgk := hgb k hk
   have hgs := gK_succ (zs := c.all) (k := k) om0
   obtain ⟨zk, hzk⟩ : ∃ zk : Nat, c.all.getD k 0 = (zk : Int) := ⟨(c.all.getD k 0).toNat, by omega⟩
   have hz20 : zk ≤ 20 := by omega
   have hg2 : Nat.gcd (gK c.all k) zk = gK c.all (k + 1) := by rw [hgs, hzk, Int.toNat_natCast]
   refine zU ?_
   refine W_seq ?_
   refine W_block ?_
   refine zR fun ds => ?_
   refine zD hF (y_index (k := k) rf rf r10 d10 Tryz.runUnderlying22 Tryz.sizeOf3) ?_
   refine zD hF (y_load1 (v := .int .i64 (zk : Int)) rf Tryz.isAgg3 (by rw [← hzk]; exact Row.mem hrow rfl sbA om0)) ?_
   refine za (.int .i64 _) hF ?_
   refine zN ?_
   refine W_block ?_
   refine W_loop (γ := Nat × Nat) (fun q => q.1 ≤ 20 ∧ q.2 ≤ 20 ∧ Nat.gcd q.1 q.2 = gK c.all (k + 1)) (fun q => [(5, .int .i64 (q.1 : Int)), (7, .int .i64 (q.2 : Int)), (18, .slice (some ⟨bR, 0, none⟩) c.all.length cap), (19, .int .i64 (c.all.length : Int)), (20, .int .i64 (k : Int))]) (fun q => Hr) (fun q => q.2) ((gK c.all k, zk)) ⟨hgk, hz20, hg2⟩ s10 (sbA) ?_
   rintro ⟨n, x⟩ e ⟨(hn20 : n ≤ 20), (hx20 : x ≤ 20), (hgc : Nat.gcd n x = gK c.all (k + 1))⟩
   refine W_seq ?_
   refine zR fun ds => ?_
   refine zm (.int .i64 _) hF ?_
   refine zD hF (y_gtr rf rf) ?_
   refine zN ?_
   refine W_cond rf (fun c8 => ?_) (fun c8 => ?_)
   ·
    try simp only [qz1, qz2, qz3, qz4, qz5, qz6, qz7, qz8] at c8
    have hx0 : 0 < x := by omega
    have hgn : Nat.gcd x (n % x) = gK c.all (k + 1) := by rw [← hgc, Nat.gcd_comm n x, Nat.gcd_rec x n, Nat.gcd_comm]
    refine zU ?_
    refine W_block ?_
    refine W_draw0 hF Tryzmixed [] dk0 (fun ds => ?_)
    refine P_det rf (Over_nil (y_move (c := .int .i64 _) rf)) ?_
    refine P_det rf (Over_nil (y_move (c := .int .i64 _) rf)) ?_
    refine P_det rf (Over_nil (y_move (c := .int .i64 _) rf)) ?_
    refine P_det rf (Over_nil (y_rem rf rf om0 om0)) ?_
    refine P_det rf (Over_nil (y_assign (c := .int .i64 _) rf)) ?_
    refine P_det rf (Over_nil (y_assign (c := .int .i64 _) rf)) ?_
    refine PW_end rf ?_
    refine OverAll_nil ?_
    rintro -
    refine InB_normal ?_
    exact Loop_next (x, n % x) ⟨hx20, Nat.le_trans (Nat.le_of_lt (Nat.mod_lt n hx0)) hx20, hgn⟩ s10 sbA (by simp only; exact Nat.mod_lt n hx0)
   ·
    try simp only [qz1, qz2, qz3, qz4, qz5, qz6, qz7, qz8] at c8
    obtain rfl : n = gK c.all (k + 1) := by rw [← hgc, show x = 0 by omega, Nat.gcd_zero_right]
    refine W_exit ?_
    refine Then_exit ?_
    refine Loop_exit ?_
    refine InB_same ?_
    refine InB_normal ?_
    refine zT fun ds => ?_
    refine zD hF (y_add rf rf ui) ?_
    refine zm (.int .i64 _) hF ?_
    refine WS_nil ?_
    exact Loop_next (k + 1) om0 s10 sbA om0
  ·
   try simp only [qz1, qz2, qz3, qz4, qz5, qz6, qz7, qz8] at c6
   obtain rfl : k = c.all.length := by omega
   refine W_exit ?_
   refine Then_exit ?_
   refine Loop_exit ?_
   refine InB_same ?_
   refine zS fun ds => ?_
   refine zm (.int .i64 _) hF ?_
   refine za (.int .i64 _) hF ?_
   refine za (.int .i64 _) hF ?_
   refine zN ?_
   refine W_ret ?_
   refine Fin_ret [.int .i64 _, .int .i64 _] [] Tryz.results21 ⟨by rfl, by rfl, trivial⟩ HSub.nil ?_
   rw [c2]
   unfold Cn.meN
   rw [hokB]
   rfl
def Cn.dvB (c : Cn) (m i : Nat) : Bool := (List.range i).all fun j => decide (m ∣ (c.s j).toNat) && decide (m ∣ (c.i j).toNat)
end Go.Proofs.YtjekjehgmljbgaaGreatDoor.T
namespace Go.Proofs.YtjekjehgmljbgaaGreatDoor.T
open Go.RowKit Go.Proofs Go.Eng
set_option maxRecDepth 100000
set_option maxHeartbeats 1000000
theorem gK_dvd {zs : List Int} : ∀ {k : Nat}, k ≤ zs.length → ∀ {j : Nat}, j < k → gK zs k ∣ (zs.getD j 0).toNat
 | 0, _, j, hj => absurd hj (Nat.not_lt_zero _)
 | k + 1, hk, j, hj => by
  rw [gK_succ om0]
  by_cases hjk : j = k
  ·subst hjk; exact Nat.gcd_dvd_right _ _
  ·exact Nat.dvd_trans (Nat.gcd_dvd_left _ _) (gK_dvd om0 om0)
theorem Cn.all_s {c : Cn} {k : Nat} (hk : k < c.n) : c.all.getD k 0 = c.s k := by
 unfold Cn.all Cn.s
 simp only [List.getD_eq_getElem?_getD]
 rw [List.getElem?_append_left hk]
theorem Cn.all_i {c : Cn} {k : Nat} (hk : k < c.inn.length) : c.all.getD (c.n + k) 0 = c.i k := by
 unfold Cn.all Cn.i Cn.n
 simp only [List.getD_eq_getElem?_getD]
 rw [List.getElem?_append_right (Nat.le_add_right _ _), Nat.add_sub_cancel_left]
theorem dvd_of_nat {a : Nat} {x : Int} (hx : 0 ≤ x) (h : a ∣ x.toNat) : (a : Int) ∣ x := by
 rw [← Int.toNat_of_nonneg hx]
 exact Int.natCast_dvd_natCast.2 h
def Cn.Mul (c : Cn) (g : Int) (x : Co) : Prop := ∀ k, 1 ≤ k → k ≤ c.n → g ∣ x.g k
theorem Cn.gc_s {c : Cn} (hok : c.Ok) {k : Nat} (hk : k < c.n) : (c.gc : Int) ∣ c.s k ∧ (c.gc : Int) ∣ c.i k := by
 have hl := hok.len
 have hal := hok.all_bd.1
 have h1 := gK_dvd (zs := c.all) (k := c.all.length) (Nat.le_refl _) (j := k) om0
 have h2 := gK_dvd (zs := c.all) (k := c.all.length) (Nat.le_refl _) (j := c.n + k) om0
 rw [Cn.all_s hk] at h1
 rw [Cn.all_i om0] at h2
 have s := hok.s k hk
 have i := hok.i k hk
 exact ⟨dvd_of_nat om0 h1, dvd_of_nat om0 h2⟩
theorem Cn.Mul.stp {c : Cn} (hok : c.Ok) {g : Int} (hs : ∀ k, k < c.n → g ∣ c.s k) {x : Co} {p : Po} (h : c.Mul g x) (hp : c.pE x p = 0) : c.Mul g (c.stp x p) := by
 have hn := hok.n3
 obtain ⟨hv, hc⟩ := Cn.pE_zero.1 hp
 obtain ⟨⟨hf0, hf1⟩, ⟨ht0, ht1⟩, hne⟩ := Cn.vld_iff.1 hv
 obtain ⟨f, t⟩ := p
 simp only at hf0 hf1 ht0 ht1 hne hc
 obtain ⟨f, rfl⟩ := Int.eq_ofNat_of_zero_le hf0
 obtain ⟨t, rfl⟩ := Int.eq_ofNat_of_zero_le ht0
 rw [Int.toNat_natCast, Int.toNat_natCast, Cn.canB_iff] at hc
 obtain ⟨⟨ha, hb⟩, hpos⟩ := hc
 have hlk : 1 ≤ t → g ∣ c.lack x t := fun h1 => by
  unfold Cn.lack
  refine Int.dvd_sub ?_ (h t h1 om0)
  obtain ⟨j, rfl⟩ : ∃ j, t = j + 1 := ⟨t - 1, by omega⟩
  rw [c.room_s]
  exact hs j om0
 have hamt : g ∣ c.amt x f t := by
  have h0 : c.amt x f t = x.g f ∨ c.amt x f t = c.lack x t := by unfold Cn.amt; omega
  by_cases hf : f = 0
  ·have : c.amt x f t = c.lack x t := by unfold Cn.amt at h0 hpos ⊢; omega
   rw [this]; exact hlk om0
  ·by_cases ht : t = 0
   ·have : c.amt x f t = x.g f := by unfold Cn.amt at h0 hpos ⊢; omega
    rw [this]; exact h f om0 om0
   ·rcases h0 with e | e
    ·rw [e]; exact h f om0 om0
    ·rw [e]; exact hlk om0
 intro k hk1 hkn
 show g ∣ (c.to x (f : Int).toNat (t : Int).toNat).g k
 rw [Int.toNat_natCast, Int.toNat_natCast, c.to_g x om0 om0 om0]
 split
 ·rename_i e; subst e; exact Int.dvd_add (h k hk1 hkn) hamt
 ·split
  ·rename_i e; subst e; exact Int.dvd_sub (h k hk1 hkn) hamt
  ·exact h k hk1 hkn
theorem Cn.Mul.run {c : Cn} (hok : c.Ok) {g : Int} (hs : ∀ k, k < c.n → g ∣ c.s k) : ∀ {l : List Po} {x y : Co}, c.Mul g x → c.runO x l = some y → c.Mul g y
 | [], x, y, h, hr => by cases hr; exact h
 | p :: l, x, y, h, hr => by
  unfold Cn.runO at hr
  split at hr
  ·rename_i hp; exact Cn.Mul.run hok hs (h.stp hok hs hp) hr
  ·cases hr
theorem Cn.Mul.co {c : Cn} (hok : c.Ok) : c.Mul c.gc c.co := fun k h1 hk => by
 have := hok.n3
 obtain ⟨j, rfl⟩ : ∃ j, k = j + 1 := ⟨k - 1, by omega⟩
 rw [c.co_g j om0]
 exact (Cn.gc_s hok om0).2
theorem getD_snoc0 (l : List Int) (k : Nat) : (l ++ [0]).getD k 0 = l.getD k 0 := by
 simp only [List.getD_eq_getElem?_getD]
 by_cases h : k < l.length
 ·rw [List.getElem?_append_left h]
 ·rw [List.getElem?_append_right om0, List.getElem?_eq_none (l := l) om0]
  cases hj : k - l.length with
  | zero => rfl
  | succ j => rfl
theorem Cn.more_co (c : Cn) (s : Int) : (c.more s).co = c.co := by
 unfold Cn.co Cn.i Cn.more
 simp only [getD_snoc0]
theorem Cn.more_room {c : Cn} (s : Int) {k : Nat} (h : k ≤ c.n) : (c.more s).room k = c.room k := by
 cases k with
 | zero => rfl
 | succ k =>
  rw [Cn.room_s, Cn.room_s]
  unfold Cn.s Cn.more
  simp only [List.getD_eq_getElem?_getD]
  rw [List.getElem?_append_left h]
theorem Cn.more_pE {c : Cn} (s : Int) {x : Co} {p : Po} (h : c.pE x p = 0) : (c.more s).pE x p = 0 ∧ (c.more s).stp x p = c.stp x p := by
 obtain ⟨hv, hc⟩ := Cn.pE_zero.1 h
 obtain ⟨⟨hf0, hf1⟩, ⟨ht0, ht1⟩, hne⟩ := Cn.vld_iff.1 hv
 have hl : (c.more s).lack x p.t.toNat = c.lack x p.t.toNat := by unfold Cn.lack; rw [Cn.more_room s om0]
 have ha : (c.more s).amt x p.f.toNat p.t.toNat = c.amt x p.f.toNat p.t.toNat := by unfold Cn.amt; rw [hl]
 refine ⟨Cn.pE_zero.2 ⟨Cn.vld_iff.2 ⟨⟨hf0, by rw [c.more_n]; omega⟩, ⟨ht0, by rw [c.more_n]; omega⟩, hne⟩, ?_⟩, ?_⟩
 ·unfold Cn.canB Cn.noB at hc ⊢
  rw [hl, ha]; exact hc
 ·unfold Cn.stp Cn.to
  rw [ha]
theorem Cn.more_run {c : Cn} (s : Int) : ∀ {l : List Po} {x y : Co}, c.runO x l = some y → (c.more s).runO x l = some y ∧ (c.more s).bkO x l = c.bkO x l
 | [], x, y, h => ⟨h, rfl⟩
 | p :: l, x, y, h => by
  unfold Cn.runO at h
  split at h
  ·rename_i hp
   obtain ⟨h1, h2⟩ := Cn.more_pE s hp
   obtain ⟨h3, h4⟩ := Cn.more_run s h
   unfold Cn.runO Cn.bkO
   rw [if_pos h1, h2]
   exact ⟨h3, by rw [h4]⟩
  ·cases h
theorem Cn.Way.more {c : Cn} (s : Int) {w : Wy} {y : Co} (h : c.Way w y) : (c.more s).Way w y := by
 obtain ⟨h1, h2⟩ := Cn.more_run s h.run
 exact ⟨by rw [c.more_co]; exact h1, by rw [c.more_co, h2]; exact h.back⟩
theorem ordHlt {a b : Hp} : ordH a b < 0 ↔ a.m < b.m ∨ (a.m = b.m ∧ a.s < b.s) := by
 have h1 := @cmpI_lt a.m b.m
 have h2 := @cmpI_lt a.s b.s
 unfold ordH orL orL orL
 split
 ·split <;> omega
 ·omega
theorem foldH : ∀ (l : List Hp) (b : Hp), (l.foldl (fun b y => if ordH y b < 0 then y else b) b = b ∨ l.foldl (fun b y => if ordH y b < 0 then y else b) b ∈ l) ∧ ¬ ordH b (l.foldl (fun b y => if ordH y b < 0 then y else b) b) < 0 ∧ ∀ x ∈ l, ¬ ordH x (l.foldl (fun b y => if ordH y b < 0 then y else b) b) < 0
 | [], b => ⟨.inl rfl, by rw [ordHlt]; simp, fun x h => (by cases h)⟩
 | y :: l, b => by
  rw [List.foldl_cons]
  obtain ⟨h1, h2, h3⟩ := foldH l (if ordH y b < 0 then y else b)
  rw [ordHlt] at h2
  generalize hm : List.foldl (fun b y => if ordH y b < 0 then y else b) (if ordH y b < 0 then y else b) l = m at h1 h2 h3 ⊢
  refine ⟨?_, ?_, fun x hx => ?_⟩
  ·rcases h1 with h1 | h1
   ·split at h1
    ·exact .inr (by rw [h1]; exact List.mem_cons_self)
    ·exact .inl h1
   ·exact .inr (List.mem_cons_of_mem _ h1)
  ·rw [ordHlt]
   split at h2
   ·rename_i h; rw [ordHlt] at h; omega
   ·exact h2
  ·rcases List.mem_cons.1 hx with rfl | hx
   ·rw [ordHlt]
    split at h2
    ·exact h2
    ·rename_i h; rw [ordHlt] at h; omega
   ·exact h3 x hx
theorem minH_min {l : List Hp} (h : l ≠ []) : minH l ∈ l ∧ ∀ x ∈ l, ¬ ordH x (minH l) < 0 := by
 cases l with
 | nil => exact absurd rfl h
 | cons y l =>
  obtain ⟨h1, h2, h3⟩ := foldH l y
  refine ⟨?_, fun x hx => ?_⟩
  ·rcases h1 with h1 | h1
   ·show List.foldl _ y l ∈ _
    rw [h1]; exact List.mem_cons_self
   ·exact List.mem_cons_of_mem _ h1
  ·rcases List.mem_cons.1 hx with rfl | hx
   ·exact h2
   ·exact h3 x hx
theorem Cn.hpL_mem {c : Cn} {n : Int} {x : Hp} : ∀ {k : Nat}, x ∈ c.hpL n k ↔ ∃ j, j < k ∧ x.s = (j : Int) + 1 ∧ ¬ (j : Int) + 1 = n ∧ ∃ w, c.hk n ((j : Int) + 1) = some w ∧ x.m = (w.l.length : Int)
 | 0 => ⟨fun h => (by cases h), fun ⟨j, h, _⟩ => absurd h (Nat.not_lt_zero _)⟩
 | k + 1 => by
  have ih := Cn.hpL_mem (c := c) (n := n) (x := x) (k := k)
  have key : (∃ j, j < k + 1 ∧ x.s = (j : Int) + 1 ∧ ¬ (j : Int) + 1 = n ∧ ∃ w, c.hk n ((j : Int) + 1) = some w ∧ x.m = (w.l.length : Int)) ↔ (x ∈ c.hpL n k ∨ (x.s = (k : Int) + 1 ∧ ¬ (k : Int) + 1 = n ∧ ∃ w, c.hk n ((k : Int) + 1) = some w ∧ x.m = (w.l.length : Int))) := by
   rw [ih]
   constructor
   ·rintro ⟨j, h1, h2⟩
    by_cases e : j = k
    ·subst e; exact .inr h2
    ·exact .inl ⟨j, by omega, h2⟩
   ·rintro (⟨j, h1, h2⟩ | h2)
    ·exact ⟨j, by omega, h2⟩
    ·exact ⟨k, by omega, h2⟩
  rw [key]
  by_cases h0 : (k : Int) + 1 = n
  ·rw [Cn.hpL_skip h0]; simp [h0]
  ·cases hh : c.hk n ((k : Int) + 1) with
   | none => rw [Cn.hpL_none hh]; simp
   | some w =>
    rw [Cn.hpL_some h0 hh, List.mem_append, List.mem_singleton]
    constructor
    ·rintro (h | rfl)
     ·exact .inl h
     ·exact .inr ⟨rfl, h0, w, rfl, rfl⟩
    ·rintro (h | ⟨h1, _, v, h2, h3⟩)
     ·exact .inl h
     ·cases h2
      obtain ⟨a, b⟩ := x
      simp only at h1 h3
      subst h1 h3
      exact .inr rfl
def minW (p : Co → Bool) (xs : List (Co × Wy)) : Option Wy := xs.foldl (fun o z => if p z.1 then (match o with | none => some z.2 | some w => if z.2.lt w then some z.2 else some w) else o) none
def chkW (p : Co → Bool) (xs : List (Co × Wy)) : Option Wy → Bool
 | none => xs.all fun z => !p z.1
 | some w => xs.any (fun z => decide (z.2 = w) && p z.1) && xs.all (fun z => !p z.1 || !z.2.lt w)
theorem Cn.cert_is {c : Cn} {xs : List (Co × Wy)} (hn : c.n ≤ 3) (h : c.certB xs = true) {p : Co → Bool} : ∀ {o : Option Wy}, chkW p xs o = true → c.few p = o
 | none, h1 => Cn.cert_none hn h h1
 | some w, h1 => by
  unfold chkW at h1
  rw [Bool.and_eq_true] at h1
  exact Cn.cert_few hn h h1.1 h1.2
abbrev b35 : Cn := bench2 20 3 5
abbrev b46 : Cn := bench2 20 4 6
theorem k_few35 {p : Co → Bool} {o : Option Wy} (h : chkW p (b35.bfs 9) o = true) : b35.few p = o := Cn.cert_is dc cert35 h
theorem k_many : Value.tuple #[.int .i64 b35.maN, .int .i64 b35.err] = .tuple #[.int .i64 16, .int .i64 0] := by
 have h : b35.maN = 16 := by
  unfold Cn.maN
  rw [if_pos dc, Cn.cert_many dc cert35, show ((bench2 20 3 5).bfs 9).length = 16 by decide +kernel]
  rfl
 rw [h]; rfl
theorem k_made : b46.mdL = [0, 2, 4, 6] := by
 unfold Cn.mdL
 rw [if_pos dc, Cn.cert_made dc cert46]
 decide +kernel
theorem k_made35 : b35.madeL = [0, 1, 2, 3, 4, 5] := by
 rw [Cn.cert_made dc cert35]
 decide +kernel
theorem k_meas : Value.tuple #[.int .i64 b46.meN, .int .i64 b46.err] = .tuple #[.int .i64 2, .int .i64 0] := by
 rw [show b46.meN = 2 by decide +kernel]; rfl
def w4 : Wy := ⟨[⟨0, 2⟩, ⟨2, 1⟩, ⟨1, 0⟩, ⟨2, 1⟩, ⟨0, 2⟩, ⟨2, 1⟩], 3⟩
def w1 : Wy := ⟨[⟨0, 1⟩, ⟨1, 2⟩, ⟨0, 1⟩, ⟨1, 2⟩], 0⟩
def w6 : Wy := ⟨[⟨0, 1⟩, ⟨1, 2⟩, ⟨0, 1⟩], 0⟩
theorem k_l4 : b35.few (b35.someP 4) = some w4 := k_few35 dk0
theorem k_l1 : b35.few (b35.someP 1) = some w1 := k_few35 dk0
theorem k_t6 : b35.few (totP 6) = some w6 := k_few35 dk0
theorem k_e4 : b35.lsE 4 = 0 := by decide +kernel
theorem k_e1 : b35.lsE 1 = 0 := by decide +kernel
theorem k_e6 : b35.ttE 6 = 0 := by decide +kernel
def wyL : Option Wy → Int
 | some w => (w.l.length : Int)
 | none => 0
theorem k_fl {n : Int} {o : Option Wy} {m : Int} (h : chkW (b35.someP n) (b35.bfs 9) o = true) (hm : wyL o = m) : b35.fl n = m := by
 unfold Cn.fl
 rw [k_few35 h, ← hm]
 cases o <;> rfl
theorem k_far : b35.farT b35.madeL.length = (4, 6) := by
 have f0 : b35.fl 0 = 0 := k_fl (o := minW (b35.someP 0) (b35.bfs 9)) dk0 dk0
 have f1 : b35.fl 1 = 4 := k_fl (o := minW (b35.someP 1) (b35.bfs 9)) dk0 dk0
 have f2 : b35.fl 2 = 2 := k_fl (o := minW (b35.someP 2) (b35.bfs 9)) dk0 dk0
 have f3 : b35.fl 3 = 1 := k_fl (o := minW (b35.someP 3) (b35.bfs 9)) dk0 dk0
 have f4 : b35.fl 4 = 6 := k_fl (o := minW (b35.someP 4) (b35.bfs 9)) dk0 dk0
 have f5 : b35.fl 5 = 1 := k_fl (o := minW (b35.someP 5) (b35.bfs 9)) dk0 dk0
 unfold Cn.farT
 rw [List.take_length, k_made35]
 simp [Cn.farS, f0, f1, f2, f3, f4, f5]
theorem k_less {s : Int} (h1 : 1 ≤ s) (h20 : s ≤ 20) (h4 : s ≠ 4) {w : Wy} (h : b35.hk 4 s = some w) : 2 ≤ w.l.length := by
 obtain ⟨y, hy, hb⟩ := Cn.few_way h
 have hall : ((List.range 20).all fun k => decide ((k : Int) + 1 = 4) || (!(b35.more ((k : Int) + 1)).someP 4 (b35.more ((k : Int) + 1)).co && allP.all fun p => !decide ((b35.more ((k : Int) + 1)).pE (b35.more ((k : Int) + 1)).co p = 0) || !(b35.more ((k : Int) + 1)).someP 4 ((b35.more ((k : Int) + 1)).stp (b35.more ((k : Int) + 1)).co p))) = true := by decide +kernel
 rw [List.all_eq_true] at hall
 have hk := hall (s - 1).toNat (List.mem_range.2 om0)
 rw [show (((s - 1).toNat : Nat) : Int) + 1 = s by omega] at hk
 simp only [Bool.or_eq_true, Bool.and_eq_true, decide_eq_true_eq, Bool.not_eq_true', List.all_eq_true, decide_eq_false_iff_not] at hk
 rcases hk with hk | ⟨hk0, hk1⟩
 ·exact absurd hk h4
 ·have hr := hb.way.run
  refine Classical.byContradiction fun hlt => ?_
  match hw : w.l with
  | [] =>
   rw [hw] at hr
   cases hr
   rw [hk0] at hy; cases hy
  | [p] =>
   rw [hw] at hr
   unfold Cn.runO at hr
   split at hr
   ·rename_i hp
    cases hr
    rcases hk1 p (Cn.pE_all (by rw [Cn.more_n]; decide) hp) with e | e
    ·exact e hp
    ·rw [e] at hy; cases hy
   ·cases hr
  | _ :: _ :: _ => rw [hw] at hlt; simp at hlt
theorem k_one : ∃ w, b35.hk 4 1 = some w ∧ w.l.length ≤ 2 := by
 have hw : (b35.more 1).Way ⟨[⟨0, 2⟩, ⟨2, 3⟩], 0⟩ ⟨15, 0, 4, 1⟩ := ⟨by decide +kernel, by decide +kernel⟩
 obtain ⟨w, h1, h2⟩ := Cn.few_ex dc (p := (b35.more 1).someP 4) dc hw
 refine ⟨w, h1, ?_⟩
 refine Classical.byContradiction fun hlt => ?_
 have : Wy.lt ⟨[⟨0, 2⟩, ⟨2, 3⟩], 0⟩ w = true := Wy.lt_iff.2 (by left; simp only [List.length_cons, List.length_nil]; omega)
 rw [h2] at this; cases this
theorem k_help : b35.hpE 4 = 0 ∧ minH (b35.hpL 4 20) = ⟨1, 2⟩ := by
 obtain ⟨w, h1, h2⟩ := k_one
 have h3 := k_less (s := 1) dc dc dc h1
 have hm : (⟨1, 2⟩ : Hp) ∈ b35.hpL 4 20 := Cn.hpL_mem.2 ⟨0, by decide, rfl, by decide, w, h1, by show (2 : Int) = _; omega⟩
 have hne : b35.hpL 4 20 ≠ [] := fun e => by rw [e] at hm; cases hm
 refine ⟨?_, ?_⟩
 ·unfold Cn.hpE
  rw [if_pos dc, if_pos dc, if_neg dc, if_neg hne]
 ·obtain ⟨h4, h5⟩ := minH_min hne
  have h6 := h5 _ hm
  rw [ordHlt] at h6
  obtain ⟨j, hj, e1, e2, v, e3, e4⟩ := Cn.hpL_mem.1 h4
  have h7 := k_less om0 om0 e2 e3
  generalize minH (b35.hpL 4 20) = m at *
  obtain ⟨a, b⟩ := m
  simp only at h6 e1 e4
  simp only [Hp.mk.injEq]
  omega
def bef0 : Cn := ⟨[3, 5], [3, 0], 17⟩
def Cn.inB' (c : Cn) (x : Co) : Bool := ((List.range 4).all fun k => decide (0 ≤ x.g k) && (if k ≤ c.n then decide (x.g k ≤ c.room k) else decide (x.g k = 0)))
theorem Cn.in_iff {c : Cn} {x : Co} (hn : c.n ≤ 3) : c.inB' x = true ↔ c.In x := by
 unfold Cn.inB'
 simp only [List.all_eq_true, List.mem_range, Bool.and_eq_true, decide_eq_true_eq]
 constructor
 ·intro h
  refine ⟨fun k hk => (h k hk).1, fun k hk => ?_, fun k hk hk4 => ?_⟩
  ·have := (h k om0).2
   rw [if_pos hk] at this
   exact of_decide_eq_true this
  ·have := (h k hk4).2
   rw [if_neg om0] at this
   exact of_decide_eq_true this
 ·intro h k hk
  refine ⟨h.lo k hk, ?_⟩
  split
  ·rename_i hk'; exact decide_eq_true (h.hi k hk')
  ·exact decide_eq_true (h.z k om0 hk)
def Cn.befB (c : Cn) (f t : Nat) (x : Co) : Bool := c.inB' x && (c.canB x f t && decide (c.to x f t = c.co))
theorem Cn.bef_iff {c : Cn} {f t : Nat} {x : Co} (hn : c.n ≤ 3) : c.befB f t x = true ↔ c.IsBef f t x := by
 unfold Cn.befB
 rw [Bool.and_eq_true, Bool.and_eq_true, decide_eq_true_eq, Cn.in_iff hn]
 exact ⟨fun ⟨h1, h2, h3⟩ => ⟨h1, h2, h3⟩, fun h => ⟨h.inn, h.can, h.to⟩⟩
instance (x y : Co) : Decidable (x.lt y) := by unfold Co.lt; exact inferInstance
theorem Cn.cert_bef {c : Cn} {p : Po} {L : List Co} (hok : c.okB = true) (hv : c.vldB p = true) (h1 : L.Pairwise Co.lt) (h2 : L.all (c.befB p.f.toNat p.t.toNat) = true) (h3 : ((List.range 21).all fun n => !c.befB p.f.toNat p.t.toNat (c.old p.f.toNat p.t.toNat n) || decide (c.old p.f.toNat p.t.toNat n ∈ L)) = true) : c.Bef p 0 L := by
 have hO := Cn.ok_iff.1 hok
 have hn := hO.n3
 obtain ⟨⟨hf0, hf1⟩, ⟨ht0, ht1⟩, hne⟩ := Cn.vld_iff.1 hv
 have hp : c.Fp p.f.toNat p.t.toNat := ⟨by omega, by omega, by omega⟩
 unfold Cn.Bef
 rw [if_pos hok, if_pos hv]
 refine ⟨rfl, h1, fun x => ⟨fun hx => (Cn.bef_iff hn).1 (List.all_eq_true.1 h2 x hx), fun hx => ?_⟩⟩
 have ha := hx.amt hO hp
 have e := hx.old hO hp
 have := List.all_eq_true.1 h3 (c.amt x p.f.toNat p.t.toNat).toNat (List.mem_range.2 om0)
 rw [← e] at this
 simp only [Bool.or_eq_true, Bool.not_eq_true', decide_eq_true_eq] at this
 rcases this with h4 | h4
 ·rw [(Cn.bef_iff hn).2 hx] at h4; cases h4
 ·exact h4
def befL : List Co := [⟨20, 0, 0, 0⟩, ⟨19, 1, 0, 0⟩, ⟨18, 2, 0, 0⟩]
theorem k_bef : bef0.Bef ⟨0, 1⟩ 0 befL := Cn.cert_bef dc dc dc dk0 dk0
end Go.Proofs.YtjekjehgmljbgaaGreatDoor.T
