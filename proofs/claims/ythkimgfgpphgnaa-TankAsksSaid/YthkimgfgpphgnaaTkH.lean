/- The arguments of the laws, opened. -/
import Derived.Test.YthkimgfgpphgnaaRows
import Derived.WalkKit
import Derived.ProofKit
import Derived.OpenShut
import Derived.Lib.SmallJoins
import Derived.ChangeOld
import Derived.Below
import Derived.Test.YthkimgfgpphgnaaTkG
namespace Go.Proofs.Ythkimgfgpphgnaa.T
open Go.RowKit Go.Proofs Go.Eng Go.ChangeShapes Go.WideShapes Go.ChangeAt Go.Joins
set_option maxRecDepth 100000
set_option linter.unusedVariables false

section
variable {H : Type} {enc : TypeId × Value → H} {w : World} {base : Nat} {spare : Nat → Bool} {held : Bool}
theorem open_intsT {fuel : Nat} {v : Value} {y : DataW H × List MemPlace} (h : DataW.trod enc Try.prog w base spare held fuel 22 [v] = some y) (hs : ∀ b, spare b = true) : ∃ a n cap xs, v = .slice a n cap ∧ Ints w a n cap xs := by
  rcases open_ints Try.underlying22 Try.underlying3 (by kernel_rfl) h with ⟨hcs, _⟩ | ⟨x, l, c, zs, hcs, _, hl, hm, hz, _, hcell, hwz⟩
  · simp only [List.cons.injEq, and_true] at hcs
    subst hcs
    exact ⟨_, _, _, [], rfl, Ints.nil _ _ _⟩
  · simp only [List.cons.injEq, and_true] at hcs
    subst hcs
    rw [hs, if_pos rfl] at hz
    refine ⟨_, _, _, zs.take l, rfl, by simp; omega, hl, fun k hk => ?_⟩
    have hc := hcell k (by omega)
    obtain ⟨b, off, spot⟩ := x
    have hspot : spot = none := by
      have := World.cell?_spot (hcell 0 (by omega))
      simpa [Addr.add] using this
    subst hspot
    have ha : (⟨b, off, none⟩ : Addr).add k = ⟨b, off + k * 1, none⟩ := by unfold Addr.add; split <;> simp_all
    rw [ha] at hc
    refine ⟨b, off, rfl, ?_, trivial⟩
    rw [hc]
    simp [List.getD_eq_getElem?_getD, hk]
theorem open_tank {r : Reach} {b0 : Nat} {v : Value} {d : DataW H} {p : List MemPlace} (hv : Value.okWide Try.prog w r b0 24 v) (h : DataW.Trod enc Try.prog w base spare held 24 v d p) (hs : ∀ b, spare b = true) :
    ∃ (t : Tk) (a : Option Addr) (cap : Nat), v = .agg #[.slice a t.n cap, .int .i64 t.leak, .int .i64 t.foot] ∧ Ints w a t.n cap t.pints := by
  obtain ⟨v0, v1, v2, y0, y1, y2, n, rfl, _, _, h0, h1, h2⟩ := open_agg3 Try.underlying24 (by kernel_rfl) (by kernel_rfl) hv h
  obtain ⟨a, m, cap, xs, rfl, hx⟩ := open_intsT h0 hs
  obtain ⟨l, hl, _, _⟩ := DataW.trod_int Try.underlying3 h1
  obtain ⟨f, hf, _, _⟩ := DataW.trod_int Try.underlying3 h2
  simp only [List.cons.injEq, and_true] at hl hf
  subst hl hf
  have := hx.len
  subst this
  exact ⟨⟨xs, l, f⟩, a, cap, rfl, hx⟩
theorem open_span {r : Reach} {b0 : Nat} {v : Value} {d : DataW H} {p : List MemPlace} (hv : Value.okWide Try.prog w r b0 26 v) (h : DataW.Trod enc Try.prog w base spare held 26 v d p) :
    ∃ x y : Int, v = .agg #[.int .i64 x, .int .i64 y] := by
  obtain ⟨v0, v1, y0, y1, n, rfl, _, _, h0, h1⟩ := open_agg2 Try.underlying26 (by kernel_rfl) (by kernel_rfl) hv h
  obtain ⟨l, hl, _, _⟩ := DataW.trod_int Try.underlying3 h0
  obtain ⟨f, hf, _, _⟩ := DataW.trod_int Try.underlying3 h1
  simp only [List.cons.injEq, and_true] at hl hf
  subst hl hf
  exact ⟨l, f, rfl⟩
end
theorem own : ownKnob Try.prog.godebug = none := by kernel_rfl
theorem laidOut : laidOutB Try.prog = true := by kernel_rfl
end Go.Proofs.Ythkimgfgpphgnaa.T
