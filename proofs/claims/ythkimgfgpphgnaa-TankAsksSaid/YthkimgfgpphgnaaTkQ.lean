/- What a tank can hold: pure. -/
import Derived.Test.YthkimgfgpphgnaaTkO
namespace Go.Proofs.Ythkimgfgpphgnaa.T
open Go.RowKit Go.Proofs Go.Eng
set_option maxRecDepth 100000
set_option linter.unusedVariables false

def Lg.hold (l : Lg) : Nat → Sn
  | 0 => l.start
  | k + 1 => l.after k (l.hold k)
def Sn.empty (s : Sn) : Bool := decide (s.hi < s.lo)
/-- How many times are told, from one on: till there is nothing, or no entry more. -/
def Lg.steps (l : Lg) (k : Nat) : Nat → Nat
  | 0 => 1
  | m + 1 => if (l.hold k).empty then 1 else 1 + l.steps (k + 1) m
theorem Lg.Ok.hold_bd {l : Lg} (h : l.Ok) : ∀ k, k ≤ l.es.length → (∀ j, j < k → (l.hold j).empty = false) → 0 ≤ (l.hold k).lo ∧ (l.hold k).hi ≤ l.tk.full ∧ (l.hold k).lo ≤ 700000 ∧ -700000 ≤ (l.hold k).hi
  | 0, _, _ => by
    have := Sn.inB_iff.1 h.start
    have := h.tk.full_bd
    show 0 ≤ l.start.lo ∧ l.start.hi ≤ _ ∧ _ ∧ _
    refine ⟨by omega, by omega, ?_, ?_⟩
    · show l.start.lo ≤ _; omega
    · show _ ≤ l.start.hi; omega
  | k + 1, hk, hj => by
    have ih := Lg.Ok.hold_bd h k (by omega) fun j hjk => hj j (by omega)
    have he := hj k (by omega)
    unfold Sn.empty at he
    simp only [decide_eq_false_iff_not, Int.not_lt] at he
    have hd := h.drip_bd (i := k) (by omega)
    have hf := h.tk.full_bd
    have hz := Sn.inB_iff.1 (h.size k (by omega))
    have hhb : l.tk.height ≤ 160 := by have := h.tk.n21; unfold Tk.height; omega
    have hup := h.tk.eight_bd (x := (l.e k).size.lo)
    have hdn := h.tk.eight_bd (x := (l.e k).size.hi)
    show 0 ≤ (l.after k (l.hold k)).lo ∧ (l.after k (l.hold k)).hi ≤ _ ∧ (l.after k (l.hold k)).lo ≤ 700000 ∧ -700000 ≤ (l.after k (l.hold k)).hi
    generalize l.hold k = s at *
    unfold Lg.after Tk.forth Lg.before
    unfold Tk.most at hz
    split
    · rename_i h1
      rw [if_neg (by omega)] at hz
      simp only [Sn.met, Sn.add, Tk.all]
      omega
    · split
      · rename_i h1 h2
        rw [if_neg (by omega)] at hz
        simp only [Sn.met, Sn.sub, Tk.all]
        omega
      · rename_i h1 h2
        have hk := h.kind k (by omega)
        rw [if_pos (by omega)] at hz
        have hup := hup (by omega) (by omega)
        have hdn := hdn (by omega) (by omega)
        simp only [Sn.met, Tk.dip, Tk.up, Tk.down]
        omega
end Go.Proofs.Ythkimgfgpphgnaa.T
