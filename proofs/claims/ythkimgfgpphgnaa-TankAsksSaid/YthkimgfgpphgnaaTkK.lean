/- The arguments of the laws of logs, opened. -/
import Derived.Test.YthkimgfgpphgnaaTkH
import Derived.Test.YthkimgfgpphgnaaTkL
namespace Go.Proofs.Ythkimgfgpphgnaa.T
open Go.RowKit Go.Proofs Go.Eng Go.ChangeShapes Go.WideShapes Go.ChangeAt Go.Joins Go.Deep
set_option maxRecDepth 100000
set_option linter.unusedVariables false

theorem cells_At {w : World} {base : Nat} {b o : Nat} {cs : List Value} (h : w.cells? base ⟨b, o, none⟩ 4 = some cs) : At w b o cs := by
  unfold World.cells? at h
  split at h
  · have ha : ∀ i, (⟨b, o, none⟩ : Addr).add i = ⟨b, o + i, none⟩ := fun i => by unfold Addr.add; split <;> simp_all
    rw [show List.range 4 = [0, 1, 2, 3] from rfl] at h
    simp only [List.mapM_cons, List.mapM_nil, ha, Option.bind_eq_bind, Option.bind_eq_some_iff, Option.pure_def, Option.some.injEq] at h
    obtain ⟨c0, h0, _, ⟨c1, h1, _, ⟨c2, h2, _, ⟨c3, h3, _, rfl, rfl⟩, rfl⟩, rfl⟩, rfl⟩ := h
    exact ⟨h0, h1, h2, h3, trivial⟩
  · cases h
section
variable {H : Type} {enc : TypeId × Value → H} {w : World} {base : Nat} {spare : Nat → Bool} {held : Bool}
theorem cells3 : Try.prog.cellsOf 3 = 1 := by kernel_rfl
theorem cells26 : Try.prog.cellsOf 26 = 2 := by kernel_rfl
theorem cells48 : Try.prog.cellsOf 48 = 4 := by kernel_rfl
theorem cells24 : Try.prog.cellsOf 24 = 3 := by kernel_rfl
theorem cells44 : Try.prog.cellsOf 44 = 1 := by kernel_rfl
theorem cells22 : Try.prog.cellsOf 22 = 1 := by kernel_rfl
theorem cells46 : Try.prog.cellsOf 46 = 6 := by kernel_rfl
theorem open_spanT {fuel : Nat} {c0 c1 : Value} {y : DataW H × List MemPlace} (h : DataW.trod enc Try.prog w base spare held fuel 26 [c0, c1] = some y) : ∃ s : Sn, [c0, c1] = s.cells := by
  obtain ⟨y0, y1, n, _, _, h0, h1⟩ := trod_struct2 Try.underlying26 h
  simp only [cells3, List.drop_zero, List.take_succ_cons, List.take_zero, List.drop_succ_cons] at h0 h1
  obtain ⟨l, hl, _, _⟩ := DataW.trod_int Try.underlying3 h0
  obtain ⟨f, hf, _, _⟩ := DataW.trod_int Try.underlying3 h1
  simp only [List.cons.injEq, and_true] at hl hf
  subst hl hf
  exact ⟨⟨l, f⟩, rfl⟩
theorem open_en {fuel : Nat} {cs : List Value} {y : DataW H × List MemPlace} (h : DataW.trod enc Try.prog w base spare held fuel 48 cs = some y) : ∃ x : En, cs = x.cells := by
  obtain ⟨y0, y1, y2, n, _, hl, h0, h1, h2⟩ := trod_struct3 Try.underlying48 h
  rw [cells48] at hl
  match cs, hl with
  | [c0, c1, c2, c3], _ =>
    simp only [cells3, cells26, List.drop_zero, List.take_succ_cons, List.take_zero, List.drop_succ_cons] at h0 h1 h2
    obtain ⟨d, hd, _, _⟩ := DataW.trod_int Try.underlying3 h0
    obtain ⟨k, hk, _, _⟩ := DataW.trod_int Try.underlying3 h1
    obtain ⟨s, hs⟩ := open_spanT h2
    simp only [List.cons.injEq, and_true] at hd hk
    subst hd hk
    exact ⟨⟨d, k, s⟩, congrArg (fun l => _ :: _ :: l) hs⟩
theorem open_entsT {fuel : Nat} {v : Value} {y : DataW H × List MemPlace} (h : DataW.trod enc Try.prog w base spare held fuel 44 [v] = some y) : ∃ ae n cape es, v = .slice ae n cape ∧ Ens w ae n cape es := by
  rcases DataW.trod_slice Try.underlying44 h with ⟨hcs, _⟩ | ⟨a, len, cap, elems, rest, n, _, hcs, _, hb, hl, hm, hlen, hel, _, _⟩
  · simp only [List.cons.injEq, and_true] at hcs
    subst hcs
    exact ⟨_, _, _, [], rfl, Rws.nil _ _ _⟩
  · simp only [List.cons.injEq, and_true] at hcs
    subst hcs
    have hsp : 0 < len → a.spot = none := fun h0 => by
      have h1 := hel 0 h0
      rw [List.getElem?_eq_getElem (by omega), Option.bind_eq_some_iff] at h1
      obtain ⟨cs, hcs, hy⟩ := h1
      rw [cells48] at hcs
      unfold World.cells? at hcs
      split at hcs
      · rw [show List.range 4 = [0, 1, 2, 3] from rfl] at hcs
        simp only [List.mapM_cons, Option.bind_eq_bind, Option.bind_eq_some_iff] at hcs
        obtain ⟨c0, h0, _⟩ := hcs
        have := World.cell?_spot h0
        simpa [Addr.add] using this
      · cases hcs
    have key : ∀ i, i < len → ∃ x : En, a.spot = none ∧ At w a.block (a.off + i * 4) x.cells := fun i hi => by
      have h1 := hel i hi
      rw [List.getElem?_eq_getElem (by omega), Option.bind_eq_some_iff] at h1
      obtain ⟨cs, hcs, hy⟩ := h1
      obtain ⟨x, rfl⟩ := open_en hy
      refine ⟨x, hsp (by omega), ?_⟩
      rw [cells48] at hcs
      have hsp := hsp (by omega)
      obtain ⟨b, off, spot⟩ := a
      simp only at hsp
      subst hsp
      have ha : (⟨b, off, none⟩ : Addr).add (i * 4) = ⟨b, off + i * 4, none⟩ := by unfold Addr.add; split <;> simp_all
      rw [ha] at hcs
      exact cells_At hcs
    refine ⟨_, _, _, (List.range len).map (fun i => if h : i < len then Classical.choose (key i h) else En.z), rfl, by simp, hl, fun k hk => ?_⟩
    have hsp := Classical.choose_spec (key k hk)
    refine ⟨a.block, a.off, ?_, ?_⟩
    · obtain ⟨b, off, spot⟩ := a
      have := hsp.1
      simp only at this
      subst this; rfl
    · rw [show ((List.range len).map (fun i => if h : i < len then Classical.choose (key i h) else En.z)).getD k En.z = Classical.choose (key k hk) by simp [List.getD_eq_getElem?_getD, hk]]
      exact hsp.2
theorem open_log {r : Reach} {b0 : Nat} {v : Value} {d : DataW H} {p : List MemPlace} (hv : Value.okWide Try.prog w r b0 46 v) (h : DataW.Trod enc Try.prog w base spare held 46 v d p) (hs : ∀ b, spare b = true) :
    ∃ (l : Lg) (a : Option Addr) (cap : Nat) (ae : Option Addr) (cape : Nat), v = .agg #[.slice a l.tk.n cap, .int .i64 l.tk.leak, .int .i64 l.tk.foot, .int .i64 l.start.lo, .int .i64 l.start.hi, .slice ae l.es.length cape] ∧ Ints w a l.tk.n cap l.tk.pints ∧ Ens w ae l.es.length cape l.es := by
  obtain ⟨cs, rfl, hsz⟩ := okWide_struct Try.underlying46 hv
  rw [cells46] at hsz
  obtain ⟨cl⟩ := cs
  match cl, hsz with
  | [c0, c1, c2, c3, c4, c5], _ =>
    obtain ⟨fuel, hf⟩ := h
    obtain ⟨y0, y1, y2, n, _, _, h0, h1, h2⟩ := trod_struct3 Try.underlying46 hf
    simp only [Value.cells, cells24, cells26, cells44, List.drop_zero, List.take_succ_cons, List.take_zero, List.drop_succ_cons] at h0 h1 h2
    obtain ⟨z0, z1, z2, m, _, _, g0, g1, g2⟩ := trod_struct3 Try.underlying24 h0
    simp only [cells3, cells22, List.drop_zero, List.take_succ_cons, List.take_zero, List.drop_succ_cons] at g0 g1 g2
    obtain ⟨a, q, cap, xs, rfl, hx⟩ := open_intsT g0 hs
    obtain ⟨lk, hlk, _, _⟩ := DataW.trod_int Try.underlying3 g1
    obtain ⟨ft, hft, _, _⟩ := DataW.trod_int Try.underlying3 g2
    simp only [List.cons.injEq, and_true] at hlk hft
    subst hlk hft
    obtain ⟨s, hs1⟩ := open_spanT h1
    unfold Sn.cells at hs1
    simp only [List.cons.injEq, and_true] at hs1
    obtain ⟨rfl, rfl⟩ := hs1
    obtain ⟨ae, ne, cape, es, rfl, he⟩ := open_entsT h2
    have := hx.len
    subst this
    have := he.len
    subst this
    exact ⟨⟨⟨xs, lk, ft⟩, s, es⟩, a, cap, ae, cape, rfl, hx, he⟩
end
end Go.Proofs.Ythkimgfgpphgnaa.T
