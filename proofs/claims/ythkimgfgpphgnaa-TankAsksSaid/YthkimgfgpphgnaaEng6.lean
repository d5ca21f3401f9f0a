/- What each kind of operation yields. No project text. -/
import Derived.Test.YthkimgfgpphgnaaEng5
namespace Go.Eng
open Go.RowKit

/-- A block of plain cells. -/
def CB (vs : List Value) (T : TypeId) : Obj := .cells vs.toArray T (0, 0)

def I64 (x : Int) : Prop := -9223372036854775808 ≤ x ∧ x ≤ 9223372036854775807

def At (w : World) (b o : Nat) : List Value → Prop
  | [] => True
  | v :: vs => w.cell? ⟨b, o, none⟩ = some v ∧ At w b (o + 1) vs
def Mem (C : Ctx) (H : List Blk) (b o : Nat) (us : List Value) : Prop := ∀ w, St C H w → At w b o us

theorem at_block {w : World} {b : Nat} {vs : List Value} {T : TypeId} (h : w.heap[b]? = some (CB vs T)) : ∀ {us : List Value} {o : Nat} {rest : List Value}, vs.drop o = us ++ rest → At w b o us
  | [], _, _, _ => trivial
  | u :: us, o, rest, hd => by
    have hg : vs[o]? = some u := by
      have := congrArg (fun l => l[0]?) hd
      simpa using this
    have hd' : vs.drop (o + 1) = us ++ rest := by
      have := congrArg (fun l => l.drop 1) hd
      simpa [List.drop_drop, Nat.add_comm 1 o] using this
    refine ⟨?_, at_block h hd'⟩
    unfold World.cell?
    simp only [h, CB]
    simpa using hg
theorem Mem.own {C : Ctx} {H : List Blk} {b o : Nat} {vs us rest : List Value} {T : TypeId} (i : Nat) (hi : H[i]? = some (b, CB vs T)) (hd : vs.drop o = us ++ rest) : Mem C H b o us :=
  fun _ hw => at_block (hw.get hi) hd
theorem Mem.own1 {C : Ctx} {H : List Blk} {b o : Nat} {vs : List Value} {u : Value} {T : TypeId} (i : Nat) (hi : H[i]? = some (b, CB vs T)) (hd : vs[o]? = some u) : Mem C H b o [u] :=
  fun w hw => ⟨by unfold World.cell?; simp only [hw.get hi, CB]; simpa using hd, trivial⟩
theorem At.old {w w' : World} {b : Nat} (hb : Below w.heap.size w w') : ∀ {us : List Value} {o : Nat}, At w b o us → At w' b o us
  | [], _, _ => trivial
  | _ :: _, _, h => ⟨(hb.cell (p := ⟨b, _, none⟩) (World.block_lt_of_cell? _ _ h.1)).trans h.1, At.old hb h.2⟩
theorem Mem.old {C : Ctx} {H : List Blk} {b o : Nat} {us : List Value} (h : At C.w0 b o us) : Mem C H b o us := fun _ hw => At.old hw.1 h
theorem Mem.old1 {C : Ctx} {H : List Blk} {b o : Nat} {u : Value} (h : C.w0.cell? ⟨b, o, none⟩ = some u) : Mem C H b o [u] := Mem.old ⟨h, trivial⟩

section
variable {C : Ctx} {e : Env} {H : List Blk} {d : Option Tmp} {ty : TypeId} {pos : String} {af : Array Edge} {g : Option (Nat × Bool)}

def YD (C : Ctx) (o : Oper) (e : Env) (H : List Blk) (c : Value) : Prop := YR C o e H fun v _ => v = c

theorem yd_of {o : Oper} {c : Value} (h : ∀ w, St C H w → (execOp (ev e) o).run C.P w = .ok (.value c) w) : YD C o e H c := fun w hw => by
  rw [h w hw]; exact ⟨[], Below.refl _ _, HOk.nil _ _, rfl⟩

theorem YR.mono {o : Oper} {R R' : Value → List Blk → Prop} (h : YR C o e H R) (hr : ∀ v Hn, R v Hn → R' v Hn) : YR C o e H R' := fun w hw => by
  have := h w hw
  generalize (execOp (ev e) o).run C.P w = r at *
  cases r with
  | ok x w' =>
    cases x <;> simp only [OutRes] at this ⊢
    case value v => obtain ⟨Hn, h1, h2, h3⟩ := this; exact ⟨Hn, h1, h2, hr _ _ h3⟩
    case skip => obtain ⟨Hn, h1, h2, h3⟩ := this; exact ⟨Hn, h1, h2, hr _ _ h3⟩
    case enter f args =>
      refine ⟨this.1, Calls.mono this.2 ?_⟩
      rintro en w'' ⟨v, he, Hn, h1, h2, h3⟩
      exact ⟨v, he, Hn, h1, h2, hr _ _ h3⟩
  | halt => exact this

/-! #### Moves -/
theorem y_move {x : Operand} {c : Value} (h : ev e x = c) : YD C ⟨d, .move x, ty, pos, af, g⟩ e H c := yd_of fun w _ => by simp [execOp, h]
theorem y_assign {x : Operand} {c : Value} (h : ev e x = c) : YD C ⟨d, .assign x, ty, pos, af, g⟩ e H c := yd_of fun w _ => by simp [execOp, h]
theorem y_pick_t {x y z : Operand} {c : Value} (hx : ev e x = .bool true) (h : ev e y = c) : YD C ⟨d, .pick x y z, ty, pos, af, g⟩ e H c := yd_of fun w _ => by simp [execOp, hx, h, asBool]
theorem y_pick_f {x y z : Operand} {c : Value} (hx : ev e x = .bool false) (h : ev e z = c) : YD C ⟨d, .pick x y z, ty, pos, af, g⟩ e H c := yd_of fun w _ => by simp [execOp, hx, h, asBool]

/-! #### Numbers -/
section
variable {x y : Operand} {t t' : TypeId} {m n : Int} {k : IntKind}
theorem wrapI {x : Int} (h : I64 x) : IntKind.i64.wrap x = x := IntWalk.i64_in x (by unfold I64 at h; omega)
theorem eqGuard_int {op : BinOp} {w : World} : (eqGuard op t x y (.int k m) (.int k n)).run C.P w = .ok () w := by
  unfold eqGuard
  cases op <;> simp
theorem y_add (hx : ev e x = .int .i64 m) (hy : ev e y = .int .i64 n) (h : I64 (m + n)) : YD C ⟨d, .binOp .add t x y t', ty, pos, af, g⟩ e H (.int .i64 (m + n)) :=
  yd_of fun w _ => by simp [execOp, hx, hy, eqGuard, binOp, Op.intArith, wrapI h]
theorem y_sub (hx : ev e x = .int .i64 m) (hy : ev e y = .int .i64 n) (h : I64 (m - n)) : YD C ⟨d, .binOp .sub t x y t', ty, pos, af, g⟩ e H (.int .i64 (m - n)) :=
  yd_of fun w _ => by simp [execOp, hx, hy, eqGuard, binOp, Op.intArith, wrapI h]
theorem y_mul (hx : ev e x = .int .i64 m) (hy : ev e y = .int .i64 n) (h : I64 (m * n)) : YD C ⟨d, .binOp .mul t x y t', ty, pos, af, g⟩ e H (.int .i64 (m * n)) :=
  yd_of fun w _ => by simp [execOp, hx, hy, eqGuard, binOp, Op.intArith, wrapI h]
theorem y_quo (hx : ev e x = .int .i64 m) (hy : ev e y = .int .i64 n) (h0 : 0 ≤ m) (h1 : 0 < n) (h2 : I64 m) : YD C ⟨d, .binOp .quo t x y t', ty, pos, af, g⟩ e H (.int .i64 (m / n)) :=
  yd_of fun w _ => by
    have h3 : I64 (m / n) := by
      have h4 := Int.ediv_nonneg h0 (Int.le_of_lt h1)
      have h5 : m / n ≤ m := Int.ediv_le_self n h0
      unfold I64 at *; omega
    have h6 : ¬ n = 0 := by omega
    simp [execOp, hx, hy, eqGuard, binOp, Op.intDiv, h6, Int.tdiv_eq_ediv_of_nonneg h0, wrapI h3]
theorem y_rem (hx : ev e x = .int .i64 m) (hy : ev e y = .int .i64 n) (h0 : 0 ≤ m) (h1 : 0 < n) : YD C ⟨d, .binOp .rem t x y t', ty, pos, af, g⟩ e H (.int .i64 (m % n)) :=
  yd_of fun w _ => by
    have h6 : ¬ n = 0 := by omega
    simp [execOp, hx, hy, eqGuard, binOp, Op.intDiv, h6, Int.tmod_eq_emod_of_nonneg h0]
theorem y_lss (hx : ev e x = .int k m) (hy : ev e y = .int k n) : YD C ⟨d, .binOp .lss t x y t', ty, pos, af, g⟩ e H (.bool (decide (m < n))) :=
  yd_of fun w _ => by simp [execOp, hx, hy, eqGuard, binOp, Op.intCmp]
theorem y_leq (hx : ev e x = .int k m) (hy : ev e y = .int k n) : YD C ⟨d, .binOp .leq t x y t', ty, pos, af, g⟩ e H (.bool (decide (m ≤ n))) :=
  yd_of fun w _ => by simp [execOp, hx, hy, eqGuard, binOp, Op.intCmp]
theorem y_gtr (hx : ev e x = .int k m) (hy : ev e y = .int k n) : YD C ⟨d, .binOp .gtr t x y t', ty, pos, af, g⟩ e H (.bool (decide (n < m))) :=
  yd_of fun w _ => by simp [execOp, hx, hy, eqGuard, binOp, Op.intCmp]
theorem y_geq (hx : ev e x = .int k m) (hy : ev e y = .int k n) : YD C ⟨d, .binOp .geq t x y t', ty, pos, af, g⟩ e H (.bool (decide (n ≤ m))) :=
  yd_of fun w _ => by simp [execOp, hx, hy, eqGuard, binOp, Op.intCmp]
theorem y_eql (hx : ev e x = .int k m) (hy : ev e y = .int k n) : YD C ⟨d, .binOp .eql t x y t', ty, pos, af, g⟩ e H (.bool (decide (m = n))) :=
  yd_of fun w _ => by
    have : (m == n) = decide (m = n) := by by_cases h : m = n <;> simp [h]
    simp [execOp, hx, hy, eqGuard, binOp, Op.intCmp, this]
theorem y_neq (hx : ev e x = .int k m) (hy : ev e y = .int k n) : YD C ⟨d, .binOp .neq t x y t', ty, pos, af, g⟩ e H (.bool (decide (m ≠ n))) :=
  yd_of fun w _ => by
    have : (m != n) = decide (m ≠ n) := by by_cases h : m = n <;> simp [h]
    simp [execOp, hx, hy, eqGuard, binOp, Op.intCmp, this]
theorem y_neg (hx : ev e x = .int .i64 m) (h : I64 (-m)) : YD C ⟨d, .unOp .neg t x, ty, pos, af, g⟩ e H (.int .i64 (-m)) :=
  yd_of fun w _ => by
    have h' : IntKind.i64.wrap (-m) = -m := wrapI h
    simp [execOp, hx, Op.unary, Op.intArith, h']
theorem y_not {b : Bool} (hx : ev e x = .bool b) : YD C ⟨d, .unOp .not t x, ty, pos, af, g⟩ e H (.bool (!b)) :=
  yd_of fun w _ => by simp [execOp, hx, Op.unary]
theorem y_max {ats : Array TypeId} (hx : ev e x = .int k m) (hy : ev e y = .int k n) : YD C ⟨d, .call ⟨.builtin .max, #[x, y], ats⟩, ty, pos, af, g⟩ e H (.int k (max m n)) :=
  yd_of fun w _ => by
    have h : (if m < n then n else m) = max m n := by omega
    simp [execOp, resolve, invoke, builtin, Builtin.max_, Builtin.max2, hx, hy, h]
theorem y_min {ats : Array TypeId} (hx : ev e x = .int k m) (hy : ev e y = .int k n) : YD C ⟨d, .call ⟨.builtin .min, #[x, y], ats⟩, ty, pos, af, g⟩ e H (.int k (min m n)) :=
  yd_of fun w _ => by
    have h : (if n < m then n else m) = min m n := by omega
    simp [execOp, resolve, invoke, builtin, Builtin.min_, Builtin.min2, hx, hy, h]
end

/-! #### Tuples, functions, nil -/
theorem y_extract {x : Operand} {i : Nat} {vs : Array Value} {c : Value} (hx : ev e x = .tuple vs) (hi : vs[i]? = some c) : YD C ⟨d, .extract x i, ty, pos, af, g⟩ e H c :=
  yd_of fun w _ => by simp [execOp, hx, Instr.extract, hi]
theorem y_nilCheck {x : Operand} {a : Addr} (hx : ev e x = .pointer (some a)) : YD C ⟨d, .nilCheck x, ty, pos, af, g⟩ e H (.pointer (some a)) :=
  yd_of fun w _ => by simp [execOp, hx]
theorem y_nilCheckF {x : Operand} {f : FuncId} {a b : Array Value} (hx : ev e x = .func (.func f) a b) : YD C ⟨d, .nilCheck x, ty, pos, af, g⟩ e H (.func (.func f) a b) :=
  yd_of fun w _ => by simp [execOp, hx]
theorem y_makeFunc {fn : Fn} {first captured : Array Operand} {a b : Array Value} (ha : first.map (ev e) = a) (hb : captured.map (ev e) = b) : YD C ⟨d, .makeFunc fn first captured, ty, pos, af, g⟩ e H (.func fn a b) :=
  yd_of fun w _ => by simp [execOp, ha, hb, Instr.makeFunc]

/-! #### Memory -/
theorem out_new {w : World} {o : Obj} {R : Value → List Blk → Prop} {v : Value} (hk : o ≠ .deferred (some [])) (h : R v [(w.heap.size, o)]) : Out R v w (w.alloc o) := by
  refine ⟨[(w.heap.size, o)], (Below.refl _ _).alloc (Nat.le_refl _) _, ⟨fun x hx => ?_, by simp, fun x hx => ?_⟩, h⟩
  · simp only [List.mem_singleton] at hx
    subst hx
    exact ⟨Nat.le_refl _, heap_alloc_new w _⟩
  · simp only [List.mem_singleton] at hx
    subst hx
    exact hk

def NewPtr (o : Obj) (v : Value) (Hn : List Blk) : Prop := ∃ b, v = .pointer (some ⟨b, 0, none⟩) ∧ Hn = [(b, o)]
theorem y_box {x : Operand} {T : TypeId} {vs : List Value} (hx : (ev e x).cells = vs.toArray) : YR C ⟨d, .box T x, ty, pos, af, g⟩ e H (NewPtr (CB vs T)) := fun w _ => by
  have : (execOp (ev e) ⟨d, .box T x, ty, pos, af, g⟩).run C.P w = .ok (.value (.pointer (some ⟨w.heap.size, 0, none⟩))) (w.alloc (CB vs T)) := by
    simp [execOp, Instr.box, newVar, newRow, newObj, hx, CB]; rfl
  rw [this]; exact out_new (fun h => by cases h) ⟨_, rfl, rfl⟩
theorem y_alloc {T : TypeId} {z : Value} {vs : List Value} (hz : ∀ w, (zeroValue T).run C.P w = .ok z w) (hc : z.cells = vs.toArray) : YR C ⟨d, .alloc T, ty, pos, af, g⟩ e H (NewPtr (CB vs T)) := fun w _ => by
  have : (execOp (ev e) ⟨d, .alloc T, ty, pos, af, g⟩).run C.P w = .ok (.value (.pointer (some ⟨w.heap.size, 0, none⟩))) (w.alloc (CB vs T)) := by
    simp [execOp, Instr.alloc, hz, newVar, newRow, newObj, hc, CB]; rfl
  rw [this]; exact out_new (fun h => by cases h) ⟨_, rfl, rfl⟩
theorem y_build {T : TypeId} {parts : Array (Nat × Operand)} {ps : Array (Nat × Value)} {c : Value} (hp : parts.map (fun x => (x.1, ev e x.2)) = ps) (hb : ∀ w, (Instr.build T ps).run C.P w = .ok c w) :
    YD C ⟨d, .build T parts, ty, pos, af, g⟩ e H c := yd_of fun w _ => by simp [execOp, hp, hb]
def NewSlice (o : Obj) (n : Nat) (v : Value) (Hn : List Blk) : Prop := ∃ b, v = .slice (some ⟨b, 0, none⟩) n n ∧ Hn = [(b, o)]
theorem y_buildSlice {T E : TypeId} {n : Nat} {parts : Array (Nat × Operand)} {ps : Array (Nat × Value)} {vs : List Value} (hp : parts.map (fun x => (x.1, ev e x.2)) = ps)
    (hb : ∀ w, (Instr.buildSlice T n ps).run C.P w = .ok (.slice (some ⟨w.heap.size, 0, none⟩) n n) (w.alloc (CB vs E))) :
    YR C ⟨d, .buildSlice T n parts, ty, pos, af, g⟩ e H (NewSlice (CB vs E) n) := fun w _ => by
  have : (execOp (ev e) ⟨d, .buildSlice T n parts, ty, pos, af, g⟩).run C.P w = .ok (.value (.slice (some ⟨w.heap.size, 0, none⟩) n n)) (w.alloc (CB vs E)) := by simp [execOp, hp, hb]
  rw [this]; exact out_new (fun h => by cases h) ⟨_, rfl, rfl⟩

theorem run_load1 {P : Program} {w : World} {a : Addr} {v : Value} (h : w.cell? a = some v) : (load a).run P w = .ok v w := by simp [load, Sem.run, h]
theorem run_loads {P : Program} {w : World} {b o : Nat} : ∀ {us : List Value} {i : Nat} {acc : Array Value}, At w b (o + i) us → (loadCellsFrom ⟨b, o, none⟩ i us.length acc).run P w = .ok (acc ++ us.toArray) w
  | [], i, acc, _ => by simp [loadCellsFrom]
  | u :: us, i, acc, h => by
    have ha : (⟨b, o, none⟩ : Addr).add i = ⟨b, o + i, none⟩ := by unfold Addr.add; split <;> simp_all
    have ih := run_loads (P := P) (us := us) (i := i + 1) (acc := acc.push u) (by rw [← Nat.add_assoc]; exact h.2)
    simp only [List.length_cons, loadCellsFrom, ha]
    simp [run_load1 h.1, ih]
theorem y_load1 {x : Operand} {T : TypeId} {b o : Nat} {v : Value} (hx : ev e x = .pointer (some ⟨b, o, none⟩)) (hT : ∀ w, (isAgg T).run C.P w = .ok false w) (hm : Mem C H b o [v]) :
    YD C ⟨d, .load T x, ty, pos, af, g⟩ e H v := yd_of fun w hw => by
  have := (hm w hw).1
  simp [execOp, hx, Instr.loadAt, Instr.sureAddr, loadVar, hT, this]
theorem y_loadN {x : Operand} {T : TypeId} {b o n : Nat} {us : List Value} (hx : ev e x = .pointer (some ⟨b, o, none⟩)) (hT : ∀ w, (isAgg T).run C.P w = .ok true w) (hs : ∀ w, (sizeOf T).run C.P w = .ok n w)
    (hm : Mem C H b o us) (hn : us.length = n) : YD C ⟨d, .load T x, ty, pos, af, g⟩ e H (.agg us.toArray) := yd_of fun w hw => by
  subst hn
  have := run_loads (P := C.P) (i := 0) (acc := #[]) (by simpa using hm w hw)
  simp [execOp, hx, Instr.loadAt, Instr.sureAddr, loadVar, hT, hs, loadCells, this]
theorem y_fieldAddr {x : Operand} {T : TypeId} {f b o o' : Nat} (hx : ev e x = .pointer (some ⟨b, o, none⟩)) (hf : ∀ b o w, (Instr.fieldAt T (.pointer (some ⟨b, o, none⟩)) f).run C.P w = .ok (.pointer (some ⟨b, o + o', none⟩)) w) :
    YD C ⟨d, .fieldAddr T x f, ty, pos, af, g⟩ e H (.pointer (some ⟨b, o + o', none⟩)) := yd_of fun w _ => by simp [execOp, hx, hf]
theorem y_field {x : Operand} {T : TypeId} {f : Nat} {cs : Array Value} {c : Value} (hx : ev e x = .agg cs) (hf : ∀ w, (Instr.field T (.agg cs) f).run C.P w = .ok c w) :
    YD C ⟨d, .field T x f, ty, pos, af, g⟩ e H c := yd_of fun w _ => by simp [execOp, hx, hf]
theorem y_index {x i : Operand} {T E : TypeId} {b o len cap sz k : Nat} {n : Int} {kk : IntKind} (hx : ev e x = .slice (some ⟨b, o, none⟩) len cap) (hi : ev e i = .int kk n) (hn : n = (k : Int)) (hk : k < len)
    (hT : ∀ w, (underlying T).run C.P w = .ok (.slice E) w) (hE : ∀ w, (sizeOf E).run C.P w = .ok sz w) : YD C ⟨d, .indexAddr T x i, ty, pos, af, g⟩ e H (.pointer (some ⟨b, o + k * sz, none⟩)) := yd_of fun w _ => by
  subst hn
  have h3 : (⟨b, o, none⟩ : Addr).add (k * sz) = ⟨b, o + k * sz, none⟩ := by unfold Addr.add; split <;> simp_all
  simp [execOp, hx, hi, Instr.indexAt, asIntOf, hT, hE, h3]
  exact fun h => absurd h (by omega)
theorem y_indexA {x i : Operand} {T E : TypeId} {b o len sz k : Nat} {n : Int} {kk : IntKind} (hx : ev e x = .pointer (some ⟨b, o, none⟩)) (hi : ev e i = .int kk n) (hn : n = (k : Int)) (hk : k < len)
    (hT : ∀ w, (underlying T).run C.P w = .ok (.array len E) w) (hE : ∀ w, (sizeOf E).run C.P w = .ok sz w) : YD C ⟨d, .indexAddr T x i, ty, pos, af, g⟩ e H (.pointer (some ⟨b, o + k * sz, none⟩)) := yd_of fun w _ => by
  subst hn
  have h3 : (⟨b, o, none⟩ : Addr).add (k * sz) = ⟨b, o + k * sz, none⟩ := by unfold Addr.add; split <;> simp_all
  simp [execOp, hx, hi, Instr.indexAt, Instr.sureAddr, asIntOf, hT, hE, h3]
  exact fun h => absurd h (by omega)
theorem y_len {x : Operand} {T E : TypeId} {a : Option Addr} {len cap : Nat} (hx : ev e x = .slice a len cap) (hT : ∀ w, (underlying T).run C.P w = .ok (.slice E) w) :
    YD C ⟨d, .call ⟨.builtin .len, #[x], #[T]⟩, ty, pos, af, g⟩ e H (.int .i64 len) := yd_of fun w _ => by
  simp [execOp, resolve, invoke, builtin, Builtin.len_, hx, hT, goInt]

/-! #### Calls -/
theorem y_call {x : Operand} {args : Array Operand} {ats : Array TypeId} {f : FuncId} {first captured vs : Array Value} {R : Value → List Blk → Prop} (hx : ev e x = .func (.func f) first captured)
    (ha : first ++ args.map (ev e) ++ captured = vs) (hc : ∀ args w, (callFunc f args).run C.P w = .ok (.enter f args) w) (hR : ∀ w, St C H w → Ct C.P f vs w R) :
    YR C ⟨d, .call ⟨.value x, args, ats⟩, ty, pos, af, g⟩ e H R := fun w hw => by
  have : (execOp (ev e) ⟨d, .call ⟨.value x, args, ats⟩, ty, pos, af, g⟩).run C.P w = .ok (.enter f vs) w := by
    simp only [execOp, resolve, hx, Deferred.ofValue]
    simp [invoke, ha, hc]
  rw [this]
  exact ⟨rfl, hR w hw⟩
end
end Go.Eng
