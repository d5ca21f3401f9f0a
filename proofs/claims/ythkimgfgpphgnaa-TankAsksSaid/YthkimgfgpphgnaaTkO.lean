/- What a tank can hold at all times: the iterator. -/
import Derived.Test.YthkimgfgpphgnaaTkN
namespace Go.Proofs.Ythkimgfgpphgnaa.T
open Go.RowKit Go.Proofs Go.Eng
set_option maxRecDepth 100000
set_option linter.unusedVariables false
set_option linter.unusedSimpArgs false



theorem holding_any (bk : Nat) (w : World) : Ct Try.prog 125 #[.pointer (some ⟨bk, 0, none⟩)] w fun v Hn => ∃ bx, v = .func (.func 140) #[] #[.pointer (some ⟨bx, 0, none⟩)] ∧ Hn = [(bx, CB [.pointer (some ⟨bk, 0, none⟩)] 108)] := by
  have hF := wide_wide
  refine Ct_start (args := [_]) Try.func125 (by rfl) Try.ntmps125 (by rfl) ?_
  refine W_seq ?_
  refine W_region_lit (fun ds => ?_)
  refine WS_new hF (by rfl) (y_box (by rfl)) (fun b1 => ?_)
  refine WS_det hF (by rfl) (y_assign (c := _) (by rfl)) ?_
  refine WS_nil ?_
  refine Then_normal ?_
  refine W_seq ?_
  refine W_region_lit (fun ds => ?_)
  refine WS_det hF (by rfl) (y_makeFuncL (by rfl) (by rfl)) ?_
  refine WS_det hF (by rfl) (y_assign (c := _) (by rfl)) ?_
  refine WS_nil ?_
  refine Then_normal ?_
  refine W_ret ?_
  refine Fin_ret [_] [(b1, _)] Try.results125 ⟨by rfl, trivial⟩ (HSub.sub (by repeat (first | exact List.nil_sublist _ | apply List.Sublist.cons_cons | apply List.Sublist.cons))) ?_
  exact ⟨_, rfl, rfl⟩
theorem Bk.own {C : Ctx} {H : List Blk} {bk g : Nat} {l : Lg} {a : Option Addr} {cap : Nat} {ae : Option Addr} {cape : Nat} (hb : (bk, CB (bookCells g l a cap ae cape) 119) ∈ H) (hg : (g, CB (gaugeCells l.tk a cap) 98) ∈ H) (hok : l.Ok) (hx : Ints C.w0 a l.tk.n cap l.tk.pints) (he : Ens C.w0 ae l.es.length cape l.es)
    (w : World) (hw : St C H w) : Bk w bk l := by
  obtain ⟨i, hi, hii⟩ := List.mem_iff_getElem.1 hb
  exact ⟨hok, g, a, cap, ae, cape, Mem.own (rest := []) i ((List.getElem?_eq_getElem hi).trans (congrArg some hii)) (by rw [List.append_nil]; rfl) w hw, Gg.own hg (Tk.ok_iff.2 hok.tk) hx w hw, he.st w hw⟩
end Go.Proofs.Ythkimgfgpphgnaa.T
