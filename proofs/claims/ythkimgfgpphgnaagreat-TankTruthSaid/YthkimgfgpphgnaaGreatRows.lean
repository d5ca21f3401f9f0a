/-
  No cell of these rows narrows 'for every input' (looked for: loops, veiled, ifaces, maps, wideKeys, modest, calm, conditions, laid).
  DERIVED. THE GIVEN ROWS OF THIS SEAT. 7 by the template 'for every input the law returns true; each argument reads behind the call as it read before'; 0 by the template 'total and deterministic' (their statements: YthkimgfgpphgnaaGreatTotals.lean).
  GIVEN WITH THE SEED: the statements are not yours to turn. If you find one false, say at which input.
  Laid BY PROGRAM, IN A SANDBOX (cutbox-rows.mjs): the forced cells as the released guide's own fill.sh prints them over the translation 6838a891fef32574… (all of the seat's roots in one cut). By AI agents, Wed Nov 11 2026. No macro, syntax, notation, axiom, sorry.
-/
import Derived.Test.YthkimgfgpphgnaaGreatChecked
import GoSem.Claim
import GoSem.ClaimJoined
import GoSem.ClaimMapViews
import Derived.JoinedTies
import Derived.KernelRfl
namespace Go.Proofs.YthkimgfgpphgnaaGreat
/- THE CELL 'sum', in the pinned program and in every row, IS THE sha256 OF THE DUMP (.gsa) THAT YthkimgfgpphgnaaGreatProg.lean LOADS. Nothing in Lean hashes anything: it is a label: what it is worth is what the hold of that sum in a sandbox is worth. -/
noncomputable def Tryz.pinned : Pinned := { name := "ythkimgfgpphgnaagreat", sum := "6838a891fef325740f68b0e259524568813b901b3764a1a86f857288dbcbcda6", checked := Tryz.checked }
namespace Rows
def none {H : Type} : Left H := { results := [], args := [] }

/-- 'oilcakelaw03.TankCut': WHATEVER THE INPUT: true; the input reads as it did. -/
def tankCutSpec : ChangeSpec := { name := "tankCut", fn := fun _ => fun
  | [d1, d2] => { results := [.lit (.bool true)], args := [d1, d2] }
  | _ => none }
def tankCutRow : OpenClaim := { program := "ythkimgfgpphgnaagreat", sum := "6838a891fef325740f68b0e259524568813b901b3764a1a86f857288dbcbcda6", func := "oilcake/oilcakelaw03.TankCut", spec := "tankCut", unfollowed := true, recurses := true, apart := false }
def TankCutSaid : Prop := tankCutRow.holds Tryz.pinned (OpenSpec.ofChange tankCutSpec)

/-- ITS FALSE NEIGHBOUR: 'it returns false'. Refute it at one input. -/
def tankCutWrong : ChangeSpec := { name := "tankCut", fn := fun _ => fun
  | [d1, d2] => { results := [.lit (.bool false)], args := [d1, d2] }
  | _ => none }
def TankCutWrongFalsely : Prop := tankCutRow.holds Tryz.pinned (OpenSpec.ofChange tankCutWrong)

/-- 'oilcakelaw03.TankMore': WHATEVER THE INPUT: true; the input reads as it did. -/
def tankMoreSpec : ChangeSpec := { name := "tankMore", fn := fun _ => fun
  | [d1, d2, d3, d4, d5] => { results := [.lit (.bool true)], args := [d1, d2, d3, d4, d5] }
  | _ => none }
def tankMoreRow : OpenClaim := { program := "ythkimgfgpphgnaagreat", sum := "6838a891fef325740f68b0e259524568813b901b3764a1a86f857288dbcbcda6", func := "oilcake/oilcakelaw03.TankMore", spec := "tankMore", unfollowed := true, recurses := true, apart := false }
def TankMoreSaid : Prop := tankMoreRow.holds Tryz.pinned (OpenSpec.ofChange tankMoreSpec)

/-- ITS FALSE NEIGHBOUR: 'it returns false'. Refute it at one input. -/
def tankMoreWrong : ChangeSpec := { name := "tankMore", fn := fun _ => fun
  | [d1, d2, d3, d4, d5] => { results := [.lit (.bool false)], args := [d1, d2, d3, d4, d5] }
  | _ => none }
def TankMoreWrongFalsely : Prop := tankMoreRow.holds Tryz.pinned (OpenSpec.ofChange tankMoreWrong)

/-- 'oilcakelaw03.TankSums': WHATEVER THE INPUT: true; the input reads as it did. -/
def tankSumsSpec : ChangeSpec := { name := "tankSums", fn := fun _ => fun
  | [d] => { results := [.lit (.bool true)], args := [d] }
  | _ => none }
def tankSumsRow : OpenClaim := { program := "ythkimgfgpphgnaagreat", sum := "6838a891fef325740f68b0e259524568813b901b3764a1a86f857288dbcbcda6", func := "oilcake/oilcakelaw03.TankSums", spec := "tankSums", unfollowed := true, recurses := true, apart := false }
def TankSumsSaid : Prop := tankSumsRow.holds Tryz.pinned (OpenSpec.ofChange tankSumsSpec)

/-- ITS FALSE NEIGHBOUR: 'it returns false'. Refute it at one input. -/
def tankSumsWrong : ChangeSpec := { name := "tankSums", fn := fun _ => fun
  | [d] => { results := [.lit (.bool false)], args := [d] }
  | _ => none }
def TankSumsWrongFalsely : Prop := tankSumsRow.holds Tryz.pinned (OpenSpec.ofChange tankSumsWrong)

/-- 'oilcakelaw03.TankAsk': WHATEVER THE INPUT: true; the input reads as it did. -/
def tankAskSpec : ChangeSpec := { name := "tankAsk", fn := fun _ => fun
  | [d1, d2] => { results := [.lit (.bool true)], args := [d1, d2] }
  | _ => none }
def tankAskRow : OpenClaim := { program := "ythkimgfgpphgnaagreat", sum := "6838a891fef325740f68b0e259524568813b901b3764a1a86f857288dbcbcda6", func := "oilcake/oilcakelaw03.TankAsk", spec := "tankAsk", unfollowed := true, recurses := true, apart := false }
def TankAskSaid : Prop := tankAskRow.holds Tryz.pinned (OpenSpec.ofChange tankAskSpec)

/-- ITS FALSE NEIGHBOUR: 'it returns false'. Refute it at one input. -/
def tankAskWrong : ChangeSpec := { name := "tankAsk", fn := fun _ => fun
  | [d1, d2] => { results := [.lit (.bool false)], args := [d1, d2] }
  | _ => none }
def TankAskWrongFalsely : Prop := tankAskRow.holds Tryz.pinned (OpenSpec.ofChange tankAskWrong)

/-- 'oilcakelaw03.TankSure': WHATEVER THE INPUT: true; the input reads as it did. -/
def tankSureSpec : ChangeSpec := { name := "tankSure", fn := fun _ => fun
  | [d1, d2] => { results := [.lit (.bool true)], args := [d1, d2] }
  | _ => none }
def tankSureRow : OpenClaim := { program := "ythkimgfgpphgnaagreat", sum := "6838a891fef325740f68b0e259524568813b901b3764a1a86f857288dbcbcda6", func := "oilcake/oilcakelaw03.TankSure", spec := "tankSure", unfollowed := true, recurses := true, apart := false }
def TankSureSaid : Prop := tankSureRow.holds Tryz.pinned (OpenSpec.ofChange tankSureSpec)

/-- ITS FALSE NEIGHBOUR: 'it returns false'. Refute it at one input. -/
def tankSureWrong : ChangeSpec := { name := "tankSure", fn := fun _ => fun
  | [d1, d2] => { results := [.lit (.bool false)], args := [d1, d2] }
  | _ => none }
def TankSureWrongFalsely : Prop := tankSureRow.holds Tryz.pinned (OpenSpec.ofChange tankSureWrong)

/-- 'oilcakelaw03.TankStays': WHATEVER THE INPUT: true; the input reads as it did. -/
def tankStaysSpec : ChangeSpec := { name := "tankStays", fn := fun _ => fun
  | [d1, d2] => { results := [.lit (.bool true)], args := [d1, d2] }
  | _ => none }
def tankStaysRow : OpenClaim := { program := "ythkimgfgpphgnaagreat", sum := "6838a891fef325740f68b0e259524568813b901b3764a1a86f857288dbcbcda6", func := "oilcake/oilcakelaw03.TankStays", spec := "tankStays", unfollowed := true, recurses := true, apart := false }
def TankStaysSaid : Prop := tankStaysRow.holds Tryz.pinned (OpenSpec.ofChange tankStaysSpec)

/-- ITS FALSE NEIGHBOUR: 'it returns false'. Refute it at one input. -/
def tankStaysWrong : ChangeSpec := { name := "tankStays", fn := fun _ => fun
  | [d1, d2] => { results := [.lit (.bool false)], args := [d1, d2] }
  | _ => none }
def TankStaysWrongFalsely : Prop := tankStaysRow.holds Tryz.pinned (OpenSpec.ofChange tankStaysWrong)

/-- 'oilcakelaw03.TankTruth': WHATEVER THE INPUT: true; the input reads as it did. -/
def tankTruthSpec : ChangeSpec := { name := "tankTruth", fn := fun _ => fun
  | [d1, d2] => { results := [.lit (.bool true)], args := [d1, d2] }
  | _ => none }
def tankTruthRow : OpenClaim := { program := "ythkimgfgpphgnaagreat", sum := "6838a891fef325740f68b0e259524568813b901b3764a1a86f857288dbcbcda6", func := "oilcake/oilcakelaw03.TankTruth", spec := "tankTruth", unfollowed := true, recurses := true, apart := false }
def TankTruthSaid : Prop := tankTruthRow.holds Tryz.pinned (OpenSpec.ofChange tankTruthSpec)

/-- ITS FALSE NEIGHBOUR: 'it returns false'. Refute it at one input. -/
def tankTruthWrong : ChangeSpec := { name := "tankTruth", fn := fun _ => fun
  | [d1, d2] => { results := [.lit (.bool false)], args := [d1, d2] }
  | _ => none }
def TankTruthWrongFalsely : Prop := tankTruthRow.holds Tryz.pinned (OpenSpec.ofChange tankTruthWrong)

/- THE SECOND FORM. 'bulk': how many values and letters a reading holds, each counted each time it is reached (what is shared counts as often as it is met; a slice's spare places count too). A statement '..UptoSaid' is the law's where the arguments, and the package variables that the reading takes, are together of bulk at most 1048576: NARROWER than '..Said'. Prove '..Said' where nothing that the law and all that it calls make is longer than what came in: it says more and counts as full. Else prove '..UptoSaid'. A law counts once. -/
mutual
def uptoBulk {H : Type} : DataW H → Nat
  | .lit (.string bytes) => bytes.length + 1
  | .lit _ => 1
  | .nil => 1
  | .ptr d => uptoBulk d + 1
  | .slice elems spare => uptoBulkAll elems + uptoBulkAll spare + 1
  | .agg parts => uptoBulkAll parts + 1
  | .iface _ d => uptoBulk d + 1
  | .map entries => uptoBulkEntries entries + 1
  | .held _ => 1
def uptoBulkAll {H : Type} : List (DataW H) → Nat
  | [] => 0
  | d :: r => uptoBulk d + uptoBulkAll r
def uptoBulkEntries {H : Type} : List (Lit × DataW H) → Nat
  | [] => 0
  | x :: r => uptoBulkEntry x + uptoBulkEntries r
def uptoBulkEntry {H : Type} : Lit × DataW H → Nat
  | (.string bytes, d) => bytes.length + uptoBulk d + 1
  | (_, d) => uptoBulk d + 1
 end
def uptoSmall : (H : Type) → List (DataW H) → Bool := fun _ ds => decide (uptoBulkAll ds ≤ 1048576)
def OpenSpec.upto (s : _root_.Go.ChangeSpec) : _root_.Go.OpenSpec := { _root_.Go.OpenSpec.ofChange s with cond := some uptoSmall }

/-- 'oilcakelaw03.TankCut', WHERE WHAT IT READS IS OF BULK AT MOST 1048576: true; the input reads as it did. -/
def tankCutUptoRow : OpenClaim := { program := "ythkimgfgpphgnaagreat", sum := "6838a891fef325740f68b0e259524568813b901b3764a1a86f857288dbcbcda6", func := "oilcake/oilcakelaw03.TankCut", spec := "tankCut", unfollowed := true, recurses := true, apart := false, narrowed := true }
def TankCutUptoSaid : Prop := tankCutUptoRow.holds Tryz.pinned (OpenSpec.upto tankCutSpec)

/-- 'oilcakelaw03.TankMore', WHERE WHAT IT READS IS OF BULK AT MOST 1048576: true; the input reads as it did. -/
def tankMoreUptoRow : OpenClaim := { program := "ythkimgfgpphgnaagreat", sum := "6838a891fef325740f68b0e259524568813b901b3764a1a86f857288dbcbcda6", func := "oilcake/oilcakelaw03.TankMore", spec := "tankMore", unfollowed := true, recurses := true, apart := false, narrowed := true }
def TankMoreUptoSaid : Prop := tankMoreUptoRow.holds Tryz.pinned (OpenSpec.upto tankMoreSpec)

/-- 'oilcakelaw03.TankSums', WHERE WHAT IT READS IS OF BULK AT MOST 1048576: true; the input reads as it did. -/
def tankSumsUptoRow : OpenClaim := { program := "ythkimgfgpphgnaagreat", sum := "6838a891fef325740f68b0e259524568813b901b3764a1a86f857288dbcbcda6", func := "oilcake/oilcakelaw03.TankSums", spec := "tankSums", unfollowed := true, recurses := true, apart := false, narrowed := true }
def TankSumsUptoSaid : Prop := tankSumsUptoRow.holds Tryz.pinned (OpenSpec.upto tankSumsSpec)

/-- 'oilcakelaw03.TankAsk', WHERE WHAT IT READS IS OF BULK AT MOST 1048576: true; the input reads as it did. -/
def tankAskUptoRow : OpenClaim := { program := "ythkimgfgpphgnaagreat", sum := "6838a891fef325740f68b0e259524568813b901b3764a1a86f857288dbcbcda6", func := "oilcake/oilcakelaw03.TankAsk", spec := "tankAsk", unfollowed := true, recurses := true, apart := false, narrowed := true }
def TankAskUptoSaid : Prop := tankAskUptoRow.holds Tryz.pinned (OpenSpec.upto tankAskSpec)

/-- 'oilcakelaw03.TankSure', WHERE WHAT IT READS IS OF BULK AT MOST 1048576: true; the input reads as it did. -/
def tankSureUptoRow : OpenClaim := { program := "ythkimgfgpphgnaagreat", sum := "6838a891fef325740f68b0e259524568813b901b3764a1a86f857288dbcbcda6", func := "oilcake/oilcakelaw03.TankSure", spec := "tankSure", unfollowed := true, recurses := true, apart := false, narrowed := true }
def TankSureUptoSaid : Prop := tankSureUptoRow.holds Tryz.pinned (OpenSpec.upto tankSureSpec)

/-- 'oilcakelaw03.TankStays', WHERE WHAT IT READS IS OF BULK AT MOST 1048576: true; the input reads as it did. -/
def tankStaysUptoRow : OpenClaim := { program := "ythkimgfgpphgnaagreat", sum := "6838a891fef325740f68b0e259524568813b901b3764a1a86f857288dbcbcda6", func := "oilcake/oilcakelaw03.TankStays", spec := "tankStays", unfollowed := true, recurses := true, apart := false, narrowed := true }
def TankStaysUptoSaid : Prop := tankStaysUptoRow.holds Tryz.pinned (OpenSpec.upto tankStaysSpec)

/-- 'oilcakelaw03.TankTruth', WHERE WHAT IT READS IS OF BULK AT MOST 1048576: true; the input reads as it did. -/
def tankTruthUptoRow : OpenClaim := { program := "ythkimgfgpphgnaagreat", sum := "6838a891fef325740f68b0e259524568813b901b3764a1a86f857288dbcbcda6", func := "oilcake/oilcakelaw03.TankTruth", spec := "tankTruth", unfollowed := true, recurses := true, apart := false, narrowed := true }
def TankTruthUptoSaid : Prop := tankTruthUptoRow.holds Tryz.pinned (OpenSpec.upto tankTruthSpec)

end Rows
end Go.Proofs.YthkimgfgpphgnaaGreat
