/- More operations: shifts, bits. No project text. -/
import Derived.Test.YthkimgfgpphgnaaEng9
namespace Go.Eng
open Go.RowKit
/-! Equality of flat structs: the generator prints a lemma for each type -/
def ieq (a b : Int) : Bool := decide (a = b)
theorem ieq_iff {a b : Int} : ieq a b = true ↔ a = b := by unfold ieq; simp
theorem ieq_self {a : Int} : ieq a a = true := by simp [ieq]
theorem eq_int {P : Program} {d t : Nat} {k k' : IntKind} {x y : Int} (hT : ∀ w, (underlying t).run P w = .ok (.int k') w) : ∀ w, (Op.equalIn (d + 1) t (.int k x) (.int k y)).run P w = .ok (ieq x y) w := fun w => by
  unfold Op.equalIn
  have : (x == y) = ieq x y := by unfold ieq; by_cases h : x = y <;> simp [h]
  simp [hT, this]
theorem eq_top {P : Program} {T : Nat} {x y : Operand} {xs ys : Array Value} {b : Bool} (hg : ∀ w, (eqGuard .eql T x y (.agg xs) (.agg ys)).run P w = .ok () w) (he : ∀ w, (Op.equalIn Op.maxDepth T (.agg xs) (.agg ys)).run P w = .ok b w) :
    ∀ w, ((do eqGuard .eql T x y (.agg xs) (.agg ys); binOp .eql T (.agg xs) (.agg ys)) : Sem Value).run P w = .ok (.bool b) w := fun w => by
  simp [hg, binOp, Op.equal, he]
theorem eq_topN {P : Program} {T : Nat} {x y : Operand} {xs ys : Array Value} {b : Bool} (hg : ∀ w, (eqGuard .neq T x y (.agg xs) (.agg ys)).run P w = .ok () w) (he : ∀ w, (Op.equalIn Op.maxDepth T (.agg xs) (.agg ys)).run P w = .ok b w) :
    ∀ w, ((do eqGuard .neq T x y (.agg xs) (.agg ys); binOp .neq T (.agg xs) (.agg ys)) : Sem Value).run P w = .ok (.bool (!b)) w := fun w => by
  simp [hg, binOp, Op.equal, he]
section
variable {C : Ctx} {e : Env} {H : List Blk} {d : Option Tmp} {ty : TypeId} {pos : String} {af : Array Edge} {g : Option (Nat × Bool)}
theorem y_shr {x y : Operand} {t t' : TypeId} {k k' : IntKind} {m s r : Int} (hx : ev e x = .int k m) (hy : ev e y = .int k' s) (hs : 0 ≤ s) (hr : m.fdiv (2 ^ min s.toNat k.bits) = r) :
    YD C ⟨d, .binOp .shr t x y t', ty, pos, af, g⟩ e H (.int k r) := yd_of fun w _ => by
  subst hr
  simp [execOp, hx, hy, eqGuard, binOp, Op.shift, Int.not_lt.2 hs]
theorem y_shr1 {x y : Operand} {t t' : TypeId} {k k' : IntKind} {m : Int} (hx : ev e x = .int k m) (hy : ev e y = .int k' 1) (hk : Nat.ble 1 k.bits = true) :
    YD C ⟨d, .binOp .shr t x y t', ty, pos, af, g⟩ e H (.int k (m / 2)) := y_shr hx hy (by decide) (by
  have : min (1 : Int).toNat k.bits = 1 := by have := Nat.le_of_ble_eq_true hk; simp; omega
  rw [this, Int.fdiv_eq_ediv_of_nonneg _ (by decide)]; rfl)
theorem y_shl {x y : Operand} {t t' : TypeId} {k k' : IntKind} {m s r : Int} (hx : ev e x = .int k m) (hy : ev e y = .int k' s) (hs : 0 ≤ s) (hr : k.wrap (m * 2 ^ min s.toNat k.bits) = r) :
    YD C ⟨d, .binOp .shl t x y t', ty, pos, af, g⟩ e H (.int k r) := yd_of fun w _ => by
  subst hr
  simp [execOp, hx, hy, eqGuard, binOp, Op.shift, Int.not_lt.2 hs]
theorem y_eqlT {x y : Operand} {T T' : TypeId} {k : IntKind} {m : Int} (hx : ev e x = .int k m) (hy : ev e y = .int k m) : YD C ⟨d, .binOp .eql T x y T', ty, pos, af, g⟩ e H (.bool true) :=
  (y_eql hx hy).mono fun v Hn h => h.trans (by simp)
theorem y_neqF {x y : Operand} {T T' : TypeId} {k : IntKind} {m : Int} (hx : ev e x = .int k m) (hy : ev e y = .int k m) : YD C ⟨d, .binOp .neq T x y T', ty, pos, af, g⟩ e H (.bool false) :=
  (y_neq hx hy).mono fun v Hn h => h.trans (by simp)
theorem y_eqlAT {x y : Operand} {T T' : TypeId} {xs ys : Array Value} {b : Bool} (hx : ev e x = .agg xs) (hy : ev e y = .agg ys)
    (hr : ∀ w, ((do eqGuard .eql T x y (.agg xs) (.agg ys); binOp .eql T (.agg xs) (.agg ys)) : Sem Value).run C.P w = .ok (.bool b) w) (hb : b = true) : YD C ⟨d, .binOp .eql T x y T', ty, pos, af, g⟩ e H (.bool true) := by subst hb; exact y_eqlA hx hy hr
theorem y_neqlA {x y : Operand} {T T' : TypeId} {xs ys : Array Value} {b : Bool} (hx : ev e x = .agg xs) (hy : ev e y = .agg ys)
    (hr : ∀ w, ((do eqGuard .neq T x y (.agg xs) (.agg ys); binOp .neq T (.agg xs) (.agg ys)) : Sem Value).run C.P w = .ok (.bool b) w) : YD C ⟨d, .binOp .neq T x y T', ty, pos, af, g⟩ e H (.bool b) :=
  yd_of fun w _ => by
    have := hr w
    simp only [execOp, hx, hy]
    simp only [Sem.run_bind, this]
    rfl
theorem y_neqlAF {x y : Operand} {T T' : TypeId} {xs ys : Array Value} {b : Bool} (hx : ev e x = .agg xs) (hy : ev e y = .agg ys)
    (hr : ∀ w, ((do eqGuard .neq T x y (.agg xs) (.agg ys); binOp .neq T (.agg xs) (.agg ys)) : Sem Value).run C.P w = .ok (.bool b) w) (hb : b = false) : YD C ⟨d, .binOp .neq T x y T', ty, pos, af, g⟩ e H (.bool false) := by subst hb; exact y_neqlA hx hy hr
theorem y_slice_loE {x lo : Operand} {T E : TypeId} {a a' : Option Addr} {len cap l sz : Nat} {n : Int} {kk : IntKind} (hx : ev e x = .slice a len cap) (hlo : ev e lo = .int kk n) (hn : n = (l : Int)) (hl : l ≤ len)
    (hT : ∀ w, (underlying T).run C.P w = .ok (.slice E) w) (hE : ∀ w, (sizeOf E).run C.P w = .ok sz w) (hs : shiftA a l sz cap = a') :
    YD C ⟨d, .slice T x (some lo) none none, ty, pos, af, g⟩ e H (.slice a' (len - l) (cap - l)) := by subst hs; exact y_slice_lo hx hlo hn hl hT hE
theorem shift_some {b o l sz cap : Nat} (h : cap ≠ l) : shiftA (some ⟨b, o, none⟩) l sz cap = some ⟨b, o + l * sz, none⟩ := by
  have h3 : (⟨b, o, none⟩ : Addr).add (l * sz) = ⟨b, o + l * sz, none⟩ := by unfold Addr.add; split <;> simp_all
  unfold shiftA
  rw [if_neg h, Option.map_some, h3]
end
section
variable {C : Ctx} {F : Fence} {n : Nat} {ds : List Deferred} {all : Array Oper} {Q : Exit → Env → List Blk → Prop} {rest : List Oper} {e : Env} {H Hn : List Blk}
/-- New blocks go behind the others. -/
theorem WS_back (h : WS C F n ds all Q rest e (H ++ Hn)) : WS C F n ds all Q rest e (Hn ++ H) := fun w hw a ha => h w ⟨hw.1, hw.2.perm List.perm_append_comm, hw.3⟩ a ha
end
end Go.Eng
