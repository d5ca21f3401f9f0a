/-
  No cell of these rows narrows 'for every input' (looked for: loops, veiled, ifaces, maps, wideKeys, modest, calm, conditions, laid).
  DERIVED. THE GIVEN ROWS OF THIS SEAT. 8 by the template 'for every input the law returns true; each argument reads behind the call as it read before'; 0 by the template 'total and deterministic' (their statements: YthkimgfgpphgnaaTotals.lean).
  GIVEN WITH THE SEED: the statements are not yours to turn. If you find one false, say at which input.
  Laid BY PROGRAM, IN A SANDBOX (cutbox-rows.mjs): the forced cells as the released guide's own fill.sh prints them over the translation f79f4b3cfeaf2214… (all of the seat's roots in one cut). By AI agents, Wed Nov 11 2026. No macro, syntax, notation, axiom, sorry.
-/
import Derived.Test.YthkimgfgpphgnaaChecked
import GoSem.Claim
import GoSem.ClaimJoined
import GoSem.ClaimMapViews
import Derived.JoinedTies
import Derived.KernelRfl
namespace Go.Proofs.Ythkimgfgpphgnaa
/- THE CELL 'sum', in the pinned program and in every row, IS THE sha256 OF THE DUMP (.gsa) THAT YthkimgfgpphgnaaProg.lean LOADS. Nothing in Lean hashes anything: it is a label: what it is worth is what the hold of that sum in a sandbox is worth. -/
noncomputable def Try.pinned : Pinned := { name := "ythkimgfgpphgnaa", sum := "f79f4b3cfeaf2214af57292742ab293b362d35aba4472c6f9134aed599d2bd1b", checked := Try.checked }
namespace Rows
def none {H : Type} : Left H := { results := [], args := [] }

/-- 'oilcakelaw03.TankTables': WHATEVER THE INPUT: true; the input reads as it did. -/
def tankTablesSpec : ChangeSpec := { name := "tankTables", fn := fun _ => fun
  | [d1, d2, d3, d4] => { results := [.lit (.bool true)], args := [d1, d2, d3, d4] }
  | _ => none }
def tankTablesRow : OpenClaim := { program := "ythkimgfgpphgnaa", sum := "f79f4b3cfeaf2214af57292742ab293b362d35aba4472c6f9134aed599d2bd1b", func := "oilcake/oilcakelaw03.TankTables", spec := "tankTables", unfollowed := true, recurses := true, apart := false }
def TankTablesSaid : Prop := tankTablesRow.holds Try.pinned (OpenSpec.ofChange tankTablesSpec)

/-- ITS FALSE NEIGHBOUR: 'it returns false'. Refute it at one input. -/
def tankTablesWrong : ChangeSpec := { name := "tankTables", fn := fun _ => fun
  | [d1, d2, d3, d4] => { results := [.lit (.bool false)], args := [d1, d2, d3, d4] }
  | _ => none }
def TankTablesWrongFalsely : Prop := tankTablesRow.holds Try.pinned (OpenSpec.ofChange tankTablesWrong)

/-- 'oilcakelaw03.TankChanges': WHATEVER THE INPUT: true; the input reads as it did. -/
def tankChangesSpec : ChangeSpec := { name := "tankChanges", fn := fun _ => fun
  | [d1, d2, d3] => { results := [.lit (.bool true)], args := [d1, d2, d3] }
  | _ => none }
def tankChangesRow : OpenClaim := { program := "ythkimgfgpphgnaa", sum := "f79f4b3cfeaf2214af57292742ab293b362d35aba4472c6f9134aed599d2bd1b", func := "oilcake/oilcakelaw03.TankChanges", spec := "tankChanges", unfollowed := true, recurses := true, apart := false }
def TankChangesSaid : Prop := tankChangesRow.holds Try.pinned (OpenSpec.ofChange tankChangesSpec)

/-- ITS FALSE NEIGHBOUR: 'it returns false'. Refute it at one input. -/
def tankChangesWrong : ChangeSpec := { name := "tankChanges", fn := fun _ => fun
  | [d1, d2, d3] => { results := [.lit (.bool false)], args := [d1, d2, d3] }
  | _ => none }
def TankChangesWrongFalsely : Prop := tankChangesRow.holds Try.pinned (OpenSpec.ofChange tankChangesWrong)

/-- 'oilcakelaw03.TankAsks': WHATEVER THE INPUT: true; the input reads as it did. -/
def tankAsksSpec : ChangeSpec := { name := "tankAsks", fn := fun _ => fun
  | [d1, d2] => { results := [.lit (.bool true)], args := [d1, d2] }
  | _ => none }
def tankAsksRow : OpenClaim := { program := "ythkimgfgpphgnaa", sum := "f79f4b3cfeaf2214af57292742ab293b362d35aba4472c6f9134aed599d2bd1b", func := "oilcake/oilcakelaw03.TankAsks", spec := "tankAsks", unfollowed := true, recurses := true, apart := false }
def TankAsksSaid : Prop := tankAsksRow.holds Try.pinned (OpenSpec.ofChange tankAsksSpec)

/-- ITS FALSE NEIGHBOUR: 'it returns false'. Refute it at one input. -/
def tankAsksWrong : ChangeSpec := { name := "tankAsks", fn := fun _ => fun
  | [d1, d2] => { results := [.lit (.bool false)], args := [d1, d2] }
  | _ => none }
def TankAsksWrongFalsely : Prop := tankAsksRow.holds Try.pinned (OpenSpec.ofChange tankAsksWrong)

/-- 'oilcakelaw03.TankHolds': WHATEVER THE INPUT: true; the input reads as it did. -/
def tankHoldsSpec : ChangeSpec := { name := "tankHolds", fn := fun _ => fun
  | [d1, d2] => { results := [.lit (.bool true)], args := [d1, d2] }
  | _ => none }
def tankHoldsRow : OpenClaim := { program := "ythkimgfgpphgnaa", sum := "f79f4b3cfeaf2214af57292742ab293b362d35aba4472c6f9134aed599d2bd1b", func := "oilcake/oilcakelaw03.TankHolds", spec := "tankHolds", unfollowed := true, recurses := true, apart := false }
def TankHoldsSaid : Prop := tankHoldsRow.holds Try.pinned (OpenSpec.ofChange tankHoldsSpec)

/-- ITS FALSE NEIGHBOUR: 'it returns false'. Refute it at one input. -/
def tankHoldsWrong : ChangeSpec := { name := "tankHolds", fn := fun _ => fun
  | [d1, d2] => { results := [.lit (.bool false)], args := [d1, d2] }
  | _ => none }
def TankHoldsWrongFalsely : Prop := tankHoldsRow.holds Try.pinned (OpenSpec.ofChange tankHoldsWrong)

/-- 'oilcakelaw03.TankTable': WHATEVER THE INPUT: true; the input reads as it did. -/
def tankTableSpec : ChangeSpec := { name := "tankTable", fn := fun _ => fun
  | [d1, d2, d3, d4] => { results := [.lit (.bool true)], args := [d1, d2, d3, d4] }
  | _ => none }
def tankTableRow : OpenClaim := { program := "ythkimgfgpphgnaa", sum := "f79f4b3cfeaf2214af57292742ab293b362d35aba4472c6f9134aed599d2bd1b", func := "oilcake/oilcakelaw03.TankTable", spec := "tankTable", unfollowed := true, recurses := true, apart := false }
def TankTableSaid : Prop := tankTableRow.holds Try.pinned (OpenSpec.ofChange tankTableSpec)

/-- ITS FALSE NEIGHBOUR: 'it returns false'. Refute it at one input. -/
def tankTableWrong : ChangeSpec := { name := "tankTable", fn := fun _ => fun
  | [d1, d2, d3, d4] => { results := [.lit (.bool false)], args := [d1, d2, d3, d4] }
  | _ => none }
def TankTableWrongFalsely : Prop := tankTableRow.holds Try.pinned (OpenSpec.ofChange tankTableWrong)

/-- 'oilcakelaw03.TankExact': WHATEVER THE INPUT: true; the input reads as it did. -/
def tankExactSpec : ChangeSpec := { name := "tankExact", fn := fun _ => fun
  | [d1, d2] => { results := [.lit (.bool true)], args := [d1, d2] }
  | _ => none }
def tankExactRow : OpenClaim := { program := "ythkimgfgpphgnaa", sum := "f79f4b3cfeaf2214af57292742ab293b362d35aba4472c6f9134aed599d2bd1b", func := "oilcake/oilcakelaw03.TankExact", spec := "tankExact", unfollowed := true, recurses := true, apart := false }
def TankExactSaid : Prop := tankExactRow.holds Try.pinned (OpenSpec.ofChange tankExactSpec)

/-- ITS FALSE NEIGHBOUR: 'it returns false'. Refute it at one input. -/
def tankExactWrong : ChangeSpec := { name := "tankExact", fn := fun _ => fun
  | [d1, d2] => { results := [.lit (.bool false)], args := [d1, d2] }
  | _ => none }
def TankExactWrongFalsely : Prop := tankExactRow.holds Try.pinned (OpenSpec.ofChange tankExactWrong)

/-- 'oilcakelaw03.TankWrong': WHATEVER THE INPUT: true; the input reads as it did. -/
def tankWrongSpec : ChangeSpec := { name := "tankWrong", fn := fun _ => fun
  | [d1, d2] => { results := [.lit (.bool true)], args := [d1, d2] }
  | _ => none }
def tankWrongRow : OpenClaim := { program := "ythkimgfgpphgnaa", sum := "f79f4b3cfeaf2214af57292742ab293b362d35aba4472c6f9134aed599d2bd1b", func := "oilcake/oilcakelaw03.TankWrong", spec := "tankWrong", unfollowed := true, recurses := true, apart := false }
def TankWrongSaid : Prop := tankWrongRow.holds Try.pinned (OpenSpec.ofChange tankWrongSpec)

/-- ITS FALSE NEIGHBOUR: 'it returns false'. Refute it at one input. -/
def tankWrongWrong : ChangeSpec := { name := "tankWrong", fn := fun _ => fun
  | [d1, d2] => { results := [.lit (.bool false)], args := [d1, d2] }
  | _ => none }
def TankWrongWrongFalsely : Prop := tankWrongRow.holds Try.pinned (OpenSpec.ofChange tankWrongWrong)

/-- 'oilcakelaw03.TankExamples': WHATEVER THE INPUT: true; the input reads as it did. -/
def tankExamplesSpec : ChangeSpec := { name := "tankExamples", fn := fun _ => fun
  | [] => { results := [.lit (.bool true)], args := [] }
  | _ => none }
def tankExamplesRow : OpenClaim := { program := "ythkimgfgpphgnaa", sum := "f79f4b3cfeaf2214af57292742ab293b362d35aba4472c6f9134aed599d2bd1b", func := "oilcake/oilcakelaw03.TankExamples", spec := "tankExamples", unfollowed := true, recurses := true, apart := false }
def TankExamplesSaid : Prop := tankExamplesRow.holds Try.pinned (OpenSpec.ofChange tankExamplesSpec)

/-- ITS FALSE NEIGHBOUR: 'it returns false'. Refute it at one input. -/
def tankExamplesWrong : ChangeSpec := { name := "tankExamples", fn := fun _ => fun
  | [] => { results := [.lit (.bool false)], args := [] }
  | _ => none }
def TankExamplesWrongFalsely : Prop := tankExamplesRow.holds Try.pinned (OpenSpec.ofChange tankExamplesWrong)

/- THE SECOND FORM. 'bulk': how many values and letters a reading holds, each counted each time it is reached (what is shared counts as often as it is met; a slice's spare places count too). A statement '..UptoSaid' is the law's where the arguments, and the package variables that the reading takes, are together of bulk at most 1048576: NARROWER than '..Said'. Prove '..Said' where nothing that the law and all that it calls make is longer than what came in: it says more and counts as full. Else prove '..UptoSaid'. A law counts once. -/
mutual
def uptoBulk {H : Type} : DataW H → Nat
  | .lit (.string bytes) => bytes.length + 1
  | .lit _ => 1
  | .nil => 1
  | .ptr d => uptoBulk d + 1
  | .slice elems spare => uptoBulkAll elems + uptoBulkAll spare + 1
  | .agg parts => uptoBulkAll parts + 1
  | .iface _ d => uptoBulk d + 1
  | .map entries => uptoBulkEntries entries + 1
  | .held _ => 1
def uptoBulkAll {H : Type} : List (DataW H) → Nat
  | [] => 0
  | d :: r => uptoBulk d + uptoBulkAll r
def uptoBulkEntries {H : Type} : List (Lit × DataW H) → Nat
  | [] => 0
  | x :: r => uptoBulkEntry x + uptoBulkEntries r
def uptoBulkEntry {H : Type} : Lit × DataW H → Nat
  | (.string bytes, d) => bytes.length + uptoBulk d + 1
  | (_, d) => uptoBulk d + 1
 end
def uptoSmall : (H : Type) → List (DataW H) → Bool := fun _ ds => decide (uptoBulkAll ds ≤ 1048576)
def OpenSpec.upto (s : _root_.Go.ChangeSpec) : _root_.Go.OpenSpec := { _root_.Go.OpenSpec.ofChange s with cond := some uptoSmall }

/-- 'oilcakelaw03.TankTables', WHERE WHAT IT READS IS OF BULK AT MOST 1048576: true; the input reads as it did. -/
def tankTablesUptoRow : OpenClaim := { program := "ythkimgfgpphgnaa", sum := "f79f4b3cfeaf2214af57292742ab293b362d35aba4472c6f9134aed599d2bd1b", func := "oilcake/oilcakelaw03.TankTables", spec := "tankTables", unfollowed := true, recurses := true, apart := false, narrowed := true }
def TankTablesUptoSaid : Prop := tankTablesUptoRow.holds Try.pinned (OpenSpec.upto tankTablesSpec)

/-- 'oilcakelaw03.TankChanges', WHERE WHAT IT READS IS OF BULK AT MOST 1048576: true; the input reads as it did. -/
def tankChangesUptoRow : OpenClaim := { program := "ythkimgfgpphgnaa", sum := "f79f4b3cfeaf2214af57292742ab293b362d35aba4472c6f9134aed599d2bd1b", func := "oilcake/oilcakelaw03.TankChanges", spec := "tankChanges", unfollowed := true, recurses := true, apart := false, narrowed := true }
def TankChangesUptoSaid : Prop := tankChangesUptoRow.holds Try.pinned (OpenSpec.upto tankChangesSpec)

/-- 'oilcakelaw03.TankAsks', WHERE WHAT IT READS IS OF BULK AT MOST 1048576: true; the input reads as it did. -/
def tankAsksUptoRow : OpenClaim := { program := "ythkimgfgpphgnaa", sum := "f79f4b3cfeaf2214af57292742ab293b362d35aba4472c6f9134aed599d2bd1b", func := "oilcake/oilcakelaw03.TankAsks", spec := "tankAsks", unfollowed := true, recurses := true, apart := false, narrowed := true }
def TankAsksUptoSaid : Prop := tankAsksUptoRow.holds Try.pinned (OpenSpec.upto tankAsksSpec)

/-- 'oilcakelaw03.TankHolds', WHERE WHAT IT READS IS OF BULK AT MOST 1048576: true; the input reads as it did. -/
def tankHoldsUptoRow : OpenClaim := { program := "ythkimgfgpphgnaa", sum := "f79f4b3cfeaf2214af57292742ab293b362d35aba4472c6f9134aed599d2bd1b", func := "oilcake/oilcakelaw03.TankHolds", spec := "tankHolds", unfollowed := true, recurses := true, apart := false, narrowed := true }
def TankHoldsUptoSaid : Prop := tankHoldsUptoRow.holds Try.pinned (OpenSpec.upto tankHoldsSpec)

/-- 'oilcakelaw03.TankTable', WHERE WHAT IT READS IS OF BULK AT MOST 1048576: true; the input reads as it did. -/
def tankTableUptoRow : OpenClaim := { program := "ythkimgfgpphgnaa", sum := "f79f4b3cfeaf2214af57292742ab293b362d35aba4472c6f9134aed599d2bd1b", func := "oilcake/oilcakelaw03.TankTable", spec := "tankTable", unfollowed := true, recurses := true, apart := false, narrowed := true }
def TankTableUptoSaid : Prop := tankTableUptoRow.holds Try.pinned (OpenSpec.upto tankTableSpec)

/-- 'oilcakelaw03.TankExact', WHERE WHAT IT READS IS OF BULK AT MOST 1048576: true; the input reads as it did. -/
def tankExactUptoRow : OpenClaim := { program := "ythkimgfgpphgnaa", sum := "f79f4b3cfeaf2214af57292742ab293b362d35aba4472c6f9134aed599d2bd1b", func := "oilcake/oilcakelaw03.TankExact", spec := "tankExact", unfollowed := true, recurses := true, apart := false, narrowed := true }
def TankExactUptoSaid : Prop := tankExactUptoRow.holds Try.pinned (OpenSpec.upto tankExactSpec)

/-- 'oilcakelaw03.TankWrong', WHERE WHAT IT READS IS OF BULK AT MOST 1048576: true; the input reads as it did. -/
def tankWrongUptoRow : OpenClaim := { program := "ythkimgfgpphgnaa", sum := "f79f4b3cfeaf2214af57292742ab293b362d35aba4472c6f9134aed599d2bd1b", func := "oilcake/oilcakelaw03.TankWrong", spec := "tankWrong", unfollowed := true, recurses := true, apart := false, narrowed := true }
def TankWrongUptoSaid : Prop := tankWrongUptoRow.holds Try.pinned (OpenSpec.upto tankWrongSpec)

/-- 'oilcakelaw03.TankExamples', WHERE WHAT IT READS IS OF BULK AT MOST 1048576: true; the input reads as it did. -/
def tankExamplesUptoRow : OpenClaim := { program := "ythkimgfgpphgnaa", sum := "f79f4b3cfeaf2214af57292742ab293b362d35aba4472c6f9134aed599d2bd1b", func := "oilcake/oilcakelaw03.TankExamples", spec := "tankExamples", unfollowed := true, recurses := true, apart := false, narrowed := true }
def TankExamplesUptoSaid : Prop := tankExamplesUptoRow.holds Try.pinned (OpenSpec.upto tankExamplesSpec)

end Rows
end Go.Proofs.Ythkimgfgpphgnaa
