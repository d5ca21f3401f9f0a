/- What may come before and after, by the entries behind: pure. -/
import Derived.Test.YthkimgfgpphgnaaTkR
import Derived.Test.YthkimgfgpphgnaaEng13
namespace Go.Proofs.Ythkimgfgpphgnaa.T
open Go.RowKit Go.Proofs Go.Eng
set_option maxRecDepth 100000
set_option linter.unusedVariables false

def Lg.aftR (l : Lg) : Nat → Sn
  | 0 => l.tk.all
  | m + 1 => ⟨(l.tk.back (l.e (l.es.length - (m + 1))) (l.aftR m)).lo, min l.tk.full ((l.tk.back (l.e (l.es.length - (m + 1))) (l.aftR m)).hi + l.drip (l.es.length - (m + 1)))⟩
def Lg.aft (l : Lg) (i : Nat) : Sn := l.aftR (l.es.length - i)
def Lg.ahd (l : Lg) (i : Nat) : Sn := l.tk.back (l.e i) (l.aft (i + 1))
theorem Lg.aft_n (l : Lg) : l.aft l.es.length = l.tk.all := by unfold Lg.aft; rw [Nat.sub_self]; rfl
theorem Lg.aft_lt (l : Lg) {i : Nat} (h : i < l.es.length) : l.aft i = ⟨(l.ahd i).lo, min l.tk.full ((l.ahd i).hi + l.drip i)⟩ := by
  unfold Lg.ahd Lg.aft
  obtain ⟨m, hm⟩ : ∃ m, l.es.length - i = m + 1 := ⟨l.es.length - i - 1, by omega⟩
  rw [hm, Lg.aftR, show l.es.length - (m + 1) = i by omega, show l.es.length - (i + 1) = m by omega]
def Sn.BB (s : Sn) (f k : Int) : Prop := 0 ≤ s.lo ∧ s.hi ≤ f ∧ s.lo ≤ 700000 * k ∧ -(700000 * k) ≤ s.hi
theorem Lg.Ok.back_bd {l : Lg} (h : l.Ok) {i : Nat} (hi : i < l.es.length) {s : Sn} {k : Int} (hk : 1 ≤ k) (hs : s.BB l.tk.full k) : (l.tk.back (l.e i) s).BB l.tk.full (k + 1) := by
  have hf := h.tk.full_bd
  have hz := Sn.inB_iff.1 (h.size i hi)
  have hhb : l.tk.height ≤ 160 := by have := h.tk.n21; unfold Tk.height; omega
  have hup := h.tk.eight_bd (x := (l.e i).size.lo)
  have hdn := h.tk.eight_bd (x := (l.e i).size.hi)
  have hkd := h.kind i hi
  unfold Sn.BB at hs ⊢
  unfold Tk.back
  unfold Tk.most at hz
  split
  · rename_i h1
    rw [if_neg (by omega)] at hz
    simp only [Sn.met, Sn.sub, Tk.all]
    omega
  · split
    · rename_i h1 h2
      rw [if_neg (by omega)] at hz
      simp only [Sn.met, Sn.add, Tk.all]
      omega
    · rename_i h1 h2
      rw [if_pos (by omega)] at hz
      have hup := hup (by omega) (by omega)
      have hdn := hdn (by omega) (by omega)
      simp only [Sn.met, Tk.dip, Tk.up, Tk.down]
      omega
theorem Lg.Ok.aftR_bd {l : Lg} (h : l.Ok) : ∀ m, m ≤ l.es.length → (l.aftR m).BB l.tk.full (m + 1)
  | 0, _ => by
    have hf := h.tk.full_bd
    unfold Lg.aftR Sn.BB Tk.all
    simp only
    omega
  | m + 1, hm => by
    have hb := h.back_bd (i := l.es.length - (m + 1)) (by omega) (k := m + 1) (by omega) (Lg.Ok.aftR_bd h m (by omega))
    have hd := h.drip_bd (i := l.es.length - (m + 1)) (by omega)
    have hf := h.tk.full_bd
    unfold Lg.aftR
    unfold Sn.BB at hb ⊢
    push_cast
    omega
theorem Lg.Ok.aft_bd {l : Lg} (h : l.Ok) {i : Nat} (hi : i ≤ l.es.length) : 0 ≤ (l.aft i).lo ∧ (l.aft i).hi ≤ l.tk.full ∧ (l.aft i).lo ≤ 10000000 ∧ -10000000 ≤ (l.aft i).hi := by
  have := h.aftR_bd (l.es.length - i) (by omega)
  have h12 := h.n12
  unfold Sn.BB at this
  unfold Lg.aft
  omega
theorem Lg.Ok.ahd_bd {l : Lg} (h : l.Ok) {i : Nat} (hi : i < l.es.length) : 0 ≤ (l.ahd i).lo ∧ (l.ahd i).hi ≤ l.tk.full ∧ (l.ahd i).lo ≤ 10000000 ∧ -10000000 ≤ (l.ahd i).hi := by
  have := h.back_bd hi (k := (l.es.length - (i + 1) : Nat) + 1) (by omega) (h.aftR_bd (l.es.length - (i + 1)) (by omega))
  have h12 := h.n12
  unfold Sn.BB at this
  unfold Lg.ahd Lg.aft
  omega
end Go.Proofs.Ythkimgfgpphgnaa.T
