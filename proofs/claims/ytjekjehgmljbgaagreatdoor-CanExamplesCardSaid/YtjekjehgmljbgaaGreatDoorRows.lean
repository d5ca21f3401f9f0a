/-
  NARROWER THAN 'FOR EVERY INPUT', by the rows' own cells (each row's printed sentence says how): CanMeasured: laid · CanDivides: laid · CanBack: laid · CanFar: laid · CanDrawn: laid · CanHelps: laid · CanKept: laid · CanFewest: laid · CanNothing: laid · CanExamples: laid.
  DERIVED. THE GIVEN ROWS OF THIS SEAT. 10 by the template 'for every input the law returns true; each argument reads behind the call as it read before'; 0 by the template 'total and deterministic' (their statements: YtjekjehgmljbgaaGreatDoorTotals.lean).
  GIVEN WITH THE SEED: the statements are not yours to turn. If you find one false, say at which input.
  Laid BY PROGRAM, IN A SANDBOX (cutbox-rows.mjs): the forced cells as the released guide's own fill.sh prints them over the translation ff78ddb82b1f54f5… (all of the seat's roots in one cut). By AI agents, Wed Nov 11 2026. No macro, syntax, notation, axiom, sorry.
-/
import Derived.Test.YtjekjehgmljbgaaGreatDoorChecked
import GoSem.Claim
import GoSem.ClaimJoined
import GoSem.ClaimMapViews
import Derived.JoinedTies
import Derived.KernelRfl
namespace Go.Proofs.YtjekjehgmljbgaaGreatDoor
/- THE CELL 'sum', in the pinned program and in every row, IS THE sha256 OF THE DUMP (.gsa) THAT YtjekjehgmljbgaaGreatDoorProg.lean LOADS. Nothing in Lean hashes anything: it is a label: what it is worth is what the hold of that sum in a sandbox is worth. -/
noncomputable def Tryz.pinned : Pinned := { name := "ytjekjehgmljbgaagreatdoor", sum := "ff78ddb82b1f54f5ac4bbb16e918842a11b2d63b87ed07bebaac0d94ca858090", checked := Tryz.checked }
namespace Rows
def none {H : Type} : Left H := { results := [], args := [] }

/- WHAT THE LISTED PACKAGE-LEVEL VARIABLES READ AS WHEN THE CALL BEGINS. Each datum BY PROGRAM (the guide's laid-datum.mjs) off the statement by which the dump's own 'gosem.cut.vars' lays the variable. In a bare row this is a premise. The card (YtjekjehgmljbgaaGreatDoorCards.lean) ties it to the program's text. -/
def laid_oilcake_can_checks {H : Type} : DataW H := .iface "func table" (.agg [.agg [.iface "func" (.lit (.string [111, 105, 108, 99, 97, 107, 101, 47, 99, 97, 110, 46, 99, 104, 101, 99, 107, 115, 36, 49]))], .agg [.iface "func" (.lit (.string [111, 105, 108, 99, 97, 107, 101, 47, 99, 97, 110, 46, 99, 104, 101, 99, 107, 115, 36, 50]))], .agg [.iface "func" (.lit (.string [111, 105, 108, 99, 97, 107, 101, 47, 99, 97, 110, 46, 99, 104, 101, 99, 107, 115, 36, 51]))]])

/-- 'oilcakelaw08.CanMeasured': WHATEVER THE INPUT: true; the input reads as it did. -/
def canMeasuredSpec : ChangeSpec := { name := "canMeasured", fn := fun _ => fun
  | [d1, d2, d3] => { results := [.lit (.bool true)], args := [d1, d2, d3] }
  | _ => none }
def canMeasuredRow : OpenClaim := { program := "ytjekjehgmljbgaagreatdoor", sum := "ff78ddb82b1f54f5ac4bbb16e918842a11b2d63b87ed07bebaac0d94ca858090", func := "oilcake/oilcakelaw08.CanMeasured", spec := "canMeasured", unfollowed := true, recurses := true, named := ["oilcake/can.checks"], plainKeys := false, apart := false, laid := [("oilcake/can.checks", laid_oilcake_can_checks)] }
def CanMeasuredSaid : Prop := canMeasuredRow.holds Tryz.pinned (OpenSpec.ofChange canMeasuredSpec)

/-- ITS FALSE NEIGHBOUR: 'it returns false'. Refute it at one input. -/
def canMeasuredWrong : ChangeSpec := { name := "canMeasured", fn := fun _ => fun
  | [d1, d2, d3] => { results := [.lit (.bool false)], args := [d1, d2, d3] }
  | _ => none }
def CanMeasuredWrongFalsely : Prop := canMeasuredRow.holds Tryz.pinned (OpenSpec.ofChange canMeasuredWrong)

/-- 'oilcakelaw08.CanDivides': WHATEVER THE INPUT: true; the input reads as it did. -/
def canDividesSpec : ChangeSpec := { name := "canDivides", fn := fun _ => fun
  | [d1, d2] => { results := [.lit (.bool true)], args := [d1, d2] }
  | _ => none }
def canDividesRow : OpenClaim := { program := "ytjekjehgmljbgaagreatdoor", sum := "ff78ddb82b1f54f5ac4bbb16e918842a11b2d63b87ed07bebaac0d94ca858090", func := "oilcake/oilcakelaw08.CanDivides", spec := "canDivides", unfollowed := true, recurses := true, named := ["oilcake/can.checks"], plainKeys := false, apart := false, laid := [("oilcake/can.checks", laid_oilcake_can_checks)] }
def CanDividesSaid : Prop := canDividesRow.holds Tryz.pinned (OpenSpec.ofChange canDividesSpec)

/-- ITS FALSE NEIGHBOUR: 'it returns false'. Refute it at one input. -/
def canDividesWrong : ChangeSpec := { name := "canDivides", fn := fun _ => fun
  | [d1, d2] => { results := [.lit (.bool false)], args := [d1, d2] }
  | _ => none }
def CanDividesWrongFalsely : Prop := canDividesRow.holds Tryz.pinned (OpenSpec.ofChange canDividesWrong)

/-- 'oilcakelaw08.CanBack': WHATEVER THE INPUT: true; the input reads as it did. -/
def canBackSpec : ChangeSpec := { name := "canBack", fn := fun _ => fun
  | [d1, d2, d3, d4] => { results := [.lit (.bool true)], args := [d1, d2, d3, d4] }
  | _ => none }
def canBackRow : OpenClaim := { program := "ytjekjehgmljbgaagreatdoor", sum := "ff78ddb82b1f54f5ac4bbb16e918842a11b2d63b87ed07bebaac0d94ca858090", func := "oilcake/oilcakelaw08.CanBack", spec := "canBack", unfollowed := true, recurses := true, named := ["oilcake/can.checks"], plainKeys := false, apart := false, laid := [("oilcake/can.checks", laid_oilcake_can_checks)] }
def CanBackSaid : Prop := canBackRow.holds Tryz.pinned (OpenSpec.ofChange canBackSpec)

/-- ITS FALSE NEIGHBOUR: 'it returns false'. Refute it at one input. -/
def canBackWrong : ChangeSpec := { name := "canBack", fn := fun _ => fun
  | [d1, d2, d3, d4] => { results := [.lit (.bool false)], args := [d1, d2, d3, d4] }
  | _ => none }
def CanBackWrongFalsely : Prop := canBackRow.holds Tryz.pinned (OpenSpec.ofChange canBackWrong)

/-- 'oilcakelaw08.CanFar': WHATEVER THE INPUT: true; the input reads as it did. -/
def canFarSpec : ChangeSpec := { name := "canFar", fn := fun _ => fun
  | [d] => { results := [.lit (.bool true)], args := [d] }
  | _ => none }
def canFarRow : OpenClaim := { program := "ytjekjehgmljbgaagreatdoor", sum := "ff78ddb82b1f54f5ac4bbb16e918842a11b2d63b87ed07bebaac0d94ca858090", func := "oilcake/oilcakelaw08.CanFar", spec := "canFar", unfollowed := true, recurses := true, named := ["oilcake/can.checks"], plainKeys := false, apart := false, laid := [("oilcake/can.checks", laid_oilcake_can_checks)] }
def CanFarSaid : Prop := canFarRow.holds Tryz.pinned (OpenSpec.ofChange canFarSpec)

/-- ITS FALSE NEIGHBOUR: 'it returns false'. Refute it at one input. -/
def canFarWrong : ChangeSpec := { name := "canFar", fn := fun _ => fun
  | [d] => { results := [.lit (.bool false)], args := [d] }
  | _ => none }
def CanFarWrongFalsely : Prop := canFarRow.holds Tryz.pinned (OpenSpec.ofChange canFarWrong)

/-- 'oilcakelaw08.CanDrawn': WHATEVER THE INPUT: true; the input reads as it did. -/
def canDrawnSpec : ChangeSpec := { name := "canDrawn", fn := fun _ => fun
  | [d1, d2, d3, d4] => { results := [.lit (.bool true)], args := [d1, d2, d3, d4] }
  | _ => none }
def canDrawnRow : OpenClaim := { program := "ytjekjehgmljbgaagreatdoor", sum := "ff78ddb82b1f54f5ac4bbb16e918842a11b2d63b87ed07bebaac0d94ca858090", func := "oilcake/oilcakelaw08.CanDrawn", spec := "canDrawn", unfollowed := true, recurses := true, named := ["oilcake/can.checks"], plainKeys := false, apart := false, laid := [("oilcake/can.checks", laid_oilcake_can_checks)] }
def CanDrawnSaid : Prop := canDrawnRow.holds Tryz.pinned (OpenSpec.ofChange canDrawnSpec)

/-- ITS FALSE NEIGHBOUR: 'it returns false'. Refute it at one input. -/
def canDrawnWrong : ChangeSpec := { name := "canDrawn", fn := fun _ => fun
  | [d1, d2, d3, d4] => { results := [.lit (.bool false)], args := [d1, d2, d3, d4] }
  | _ => none }
def CanDrawnWrongFalsely : Prop := canDrawnRow.holds Tryz.pinned (OpenSpec.ofChange canDrawnWrong)

/-- 'oilcakelaw08.CanHelps': WHATEVER THE INPUT: true; the input reads as it did. -/
def canHelpsSpec : ChangeSpec := { name := "canHelps", fn := fun _ => fun
  | [d1, d2, d3] => { results := [.lit (.bool true)], args := [d1, d2, d3] }
  | _ => none }
def canHelpsRow : OpenClaim := { program := "ytjekjehgmljbgaagreatdoor", sum := "ff78ddb82b1f54f5ac4bbb16e918842a11b2d63b87ed07bebaac0d94ca858090", func := "oilcake/oilcakelaw08.CanHelps", spec := "canHelps", unfollowed := true, recurses := true, named := ["oilcake/can.checks"], plainKeys := false, apart := false, laid := [("oilcake/can.checks", laid_oilcake_can_checks)] }
def CanHelpsSaid : Prop := canHelpsRow.holds Tryz.pinned (OpenSpec.ofChange canHelpsSpec)

/-- ITS FALSE NEIGHBOUR: 'it returns false'. Refute it at one input. -/
def canHelpsWrong : ChangeSpec := { name := "canHelps", fn := fun _ => fun
  | [d1, d2, d3] => { results := [.lit (.bool false)], args := [d1, d2, d3] }
  | _ => none }
def CanHelpsWrongFalsely : Prop := canHelpsRow.holds Tryz.pinned (OpenSpec.ofChange canHelpsWrong)

/-- 'oilcakelaw08.CanKept': WHATEVER THE INPUT: true; the input reads as it did. -/
def canKeptSpec : ChangeSpec := { name := "canKept", fn := fun _ => fun
  | [d1, d2, d3] => { results := [.lit (.bool true)], args := [d1, d2, d3] }
  | _ => none }
def canKeptRow : OpenClaim := { program := "ytjekjehgmljbgaagreatdoor", sum := "ff78ddb82b1f54f5ac4bbb16e918842a11b2d63b87ed07bebaac0d94ca858090", func := "oilcake/oilcakelaw08.CanKept", spec := "canKept", unfollowed := true, recurses := true, named := ["oilcake/can.checks"], plainKeys := false, apart := false, laid := [("oilcake/can.checks", laid_oilcake_can_checks)] }
def CanKeptSaid : Prop := canKeptRow.holds Tryz.pinned (OpenSpec.ofChange canKeptSpec)

/-- ITS FALSE NEIGHBOUR: 'it returns false'. Refute it at one input. -/
def canKeptWrong : ChangeSpec := { name := "canKept", fn := fun _ => fun
  | [d1, d2, d3] => { results := [.lit (.bool false)], args := [d1, d2, d3] }
  | _ => none }
def CanKeptWrongFalsely : Prop := canKeptRow.holds Tryz.pinned (OpenSpec.ofChange canKeptWrong)

/-- 'oilcakelaw08.CanFewest': WHATEVER THE INPUT: true; the input reads as it did. -/
def canFewestSpec : ChangeSpec := { name := "canFewest", fn := fun _ => fun
  | [d1, d2] => { results := [.lit (.bool true)], args := [d1, d2] }
  | _ => none }
def canFewestRow : OpenClaim := { program := "ytjekjehgmljbgaagreatdoor", sum := "ff78ddb82b1f54f5ac4bbb16e918842a11b2d63b87ed07bebaac0d94ca858090", func := "oilcake/oilcakelaw08.CanFewest", spec := "canFewest", unfollowed := true, recurses := true, named := ["oilcake/can.checks"], plainKeys := false, apart := false, laid := [("oilcake/can.checks", laid_oilcake_can_checks)] }
def CanFewestSaid : Prop := canFewestRow.holds Tryz.pinned (OpenSpec.ofChange canFewestSpec)

/-- ITS FALSE NEIGHBOUR: 'it returns false'. Refute it at one input. -/
def canFewestWrong : ChangeSpec := { name := "canFewest", fn := fun _ => fun
  | [d1, d2] => { results := [.lit (.bool false)], args := [d1, d2] }
  | _ => none }
def CanFewestWrongFalsely : Prop := canFewestRow.holds Tryz.pinned (OpenSpec.ofChange canFewestWrong)

/-- 'oilcakelaw08.CanNothing': WHATEVER THE INPUT: true; the input reads as it did. -/
def canNothingSpec : ChangeSpec := { name := "canNothing", fn := fun _ => fun
  | [d1, d2] => { results := [.lit (.bool true)], args := [d1, d2] }
  | _ => none }
def canNothingRow : OpenClaim := { program := "ytjekjehgmljbgaagreatdoor", sum := "ff78ddb82b1f54f5ac4bbb16e918842a11b2d63b87ed07bebaac0d94ca858090", func := "oilcake/oilcakelaw08.CanNothing", spec := "canNothing", unfollowed := true, recurses := true, named := ["oilcake/can.checks"], plainKeys := false, apart := false, laid := [("oilcake/can.checks", laid_oilcake_can_checks)] }
def CanNothingSaid : Prop := canNothingRow.holds Tryz.pinned (OpenSpec.ofChange canNothingSpec)

/-- ITS FALSE NEIGHBOUR: 'it returns false'. Refute it at one input. -/
def canNothingWrong : ChangeSpec := { name := "canNothing", fn := fun _ => fun
  | [d1, d2] => { results := [.lit (.bool false)], args := [d1, d2] }
  | _ => none }
def CanNothingWrongFalsely : Prop := canNothingRow.holds Tryz.pinned (OpenSpec.ofChange canNothingWrong)

/-- 'oilcakelaw08.CanExamples': WHATEVER THE INPUT: true; the input reads as it did. -/
def canExamplesSpec : ChangeSpec := { name := "canExamples", fn := fun _ => fun
  | [] => { results := [.lit (.bool true)], args := [] }
  | _ => none }
def canExamplesRow : OpenClaim := { program := "ytjekjehgmljbgaagreatdoor", sum := "ff78ddb82b1f54f5ac4bbb16e918842a11b2d63b87ed07bebaac0d94ca858090", func := "oilcake/oilcakelaw08.CanExamples", spec := "canExamples", unfollowed := true, recurses := true, named := ["oilcake/can.checks"], plainKeys := false, apart := false, laid := [("oilcake/can.checks", laid_oilcake_can_checks)] }
def CanExamplesSaid : Prop := canExamplesRow.holds Tryz.pinned (OpenSpec.ofChange canExamplesSpec)

/-- ITS FALSE NEIGHBOUR: 'it returns false'. Refute it at one input. -/
def canExamplesWrong : ChangeSpec := { name := "canExamples", fn := fun _ => fun
  | [] => { results := [.lit (.bool false)], args := [] }
  | _ => none }
def CanExamplesWrongFalsely : Prop := canExamplesRow.holds Tryz.pinned (OpenSpec.ofChange canExamplesWrong)

/- THE SECOND FORM. 'bulk': how many values and letters a reading holds, each counted each time it is reached (what is shared counts as often as it is met; a slice's spare places count too). A statement '..UptoSaid' is the law's where the arguments, and the package variables that the reading takes, are together of bulk at most 1048576: NARROWER than '..Said'. Prove '..Said' where nothing that the law and all that it calls make is longer than what came in: it says more and counts as full. Else prove '..UptoSaid'. A law counts once. -/
mutual
def uptoBulk {H : Type} : DataW H → Nat
  | .lit (.string bytes) => bytes.length + 1
  | .lit _ => 1
  | .nil => 1
  | .ptr d => uptoBulk d + 1
  | .slice elems spare => uptoBulkAll elems + uptoBulkAll spare + 1
  | .agg parts => uptoBulkAll parts + 1
  | .iface _ d => uptoBulk d + 1
  | .map entries => uptoBulkEntries entries + 1
  | .held _ => 1
def uptoBulkAll {H : Type} : List (DataW H) → Nat
  | [] => 0
  | d :: r => uptoBulk d + uptoBulkAll r
def uptoBulkEntries {H : Type} : List (Lit × DataW H) → Nat
  | [] => 0
  | x :: r => uptoBulkEntry x + uptoBulkEntries r
def uptoBulkEntry {H : Type} : Lit × DataW H → Nat
  | (.string bytes, d) => bytes.length + uptoBulk d + 1
  | (_, d) => uptoBulk d + 1
 end
def uptoSmall : (H : Type) → List (DataW H) → Bool := fun _ ds => decide (uptoBulkAll ds ≤ 1048576)
def OpenSpec.upto (s : _root_.Go.ChangeSpec) : _root_.Go.OpenSpec := { _root_.Go.OpenSpec.ofChange s with cond := some uptoSmall }

/-- 'oilcakelaw08.CanMeasured', WHERE WHAT IT READS IS OF BULK AT MOST 1048576: true; the input reads as it did. -/
def canMeasuredUptoRow : OpenClaim := { program := "ytjekjehgmljbgaagreatdoor", sum := "ff78ddb82b1f54f5ac4bbb16e918842a11b2d63b87ed07bebaac0d94ca858090", func := "oilcake/oilcakelaw08.CanMeasured", spec := "canMeasured", unfollowed := true, recurses := true, named := ["oilcake/can.checks"], plainKeys := false, apart := false, laid := [("oilcake/can.checks", laid_oilcake_can_checks)], narrowed := true }
def CanMeasuredUptoSaid : Prop := canMeasuredUptoRow.holds Tryz.pinned (OpenSpec.upto canMeasuredSpec)

/-- 'oilcakelaw08.CanDivides', WHERE WHAT IT READS IS OF BULK AT MOST 1048576: true; the input reads as it did. -/
def canDividesUptoRow : OpenClaim := { program := "ytjekjehgmljbgaagreatdoor", sum := "ff78ddb82b1f54f5ac4bbb16e918842a11b2d63b87ed07bebaac0d94ca858090", func := "oilcake/oilcakelaw08.CanDivides", spec := "canDivides", unfollowed := true, recurses := true, named := ["oilcake/can.checks"], plainKeys := false, apart := false, laid := [("oilcake/can.checks", laid_oilcake_can_checks)], narrowed := true }
def CanDividesUptoSaid : Prop := canDividesUptoRow.holds Tryz.pinned (OpenSpec.upto canDividesSpec)

/-- 'oilcakelaw08.CanBack', WHERE WHAT IT READS IS OF BULK AT MOST 1048576: true; the input reads as it did. -/
def canBackUptoRow : OpenClaim := { program := "ytjekjehgmljbgaagreatdoor", sum := "ff78ddb82b1f54f5ac4bbb16e918842a11b2d63b87ed07bebaac0d94ca858090", func := "oilcake/oilcakelaw08.CanBack", spec := "canBack", unfollowed := true, recurses := true, named := ["oilcake/can.checks"], plainKeys := false, apart := false, laid := [("oilcake/can.checks", laid_oilcake_can_checks)], narrowed := true }
def CanBackUptoSaid : Prop := canBackUptoRow.holds Tryz.pinned (OpenSpec.upto canBackSpec)

/-- 'oilcakelaw08.CanFar', WHERE WHAT IT READS IS OF BULK AT MOST 1048576: true; the input reads as it did. -/
def canFarUptoRow : OpenClaim := { program := "ytjekjehgmljbgaagreatdoor", sum := "ff78ddb82b1f54f5ac4bbb16e918842a11b2d63b87ed07bebaac0d94ca858090", func := "oilcake/oilcakelaw08.CanFar", spec := "canFar", unfollowed := true, recurses := true, named := ["oilcake/can.checks"], plainKeys := false, apart := false, laid := [("oilcake/can.checks", laid_oilcake_can_checks)], narrowed := true }
def CanFarUptoSaid : Prop := canFarUptoRow.holds Tryz.pinned (OpenSpec.upto canFarSpec)

/-- 'oilcakelaw08.CanDrawn', WHERE WHAT IT READS IS OF BULK AT MOST 1048576: true; the input reads as it did. -/
def canDrawnUptoRow : OpenClaim := { program := "ytjekjehgmljbgaagreatdoor", sum := "ff78ddb82b1f54f5ac4bbb16e918842a11b2d63b87ed07bebaac0d94ca858090", func := "oilcake/oilcakelaw08.CanDrawn", spec := "canDrawn", unfollowed := true, recurses := true, named := ["oilcake/can.checks"], plainKeys := false, apart := false, laid := [("oilcake/can.checks", laid_oilcake_can_checks)], narrowed := true }
def CanDrawnUptoSaid : Prop := canDrawnUptoRow.holds Tryz.pinned (OpenSpec.upto canDrawnSpec)

/-- 'oilcakelaw08.CanHelps', WHERE WHAT IT READS IS OF BULK AT MOST 1048576: true; the input reads as it did. -/
def canHelpsUptoRow : OpenClaim := { program := "ytjekjehgmljbgaagreatdoor", sum := "ff78ddb82b1f54f5ac4bbb16e918842a11b2d63b87ed07bebaac0d94ca858090", func := "oilcake/oilcakelaw08.CanHelps", spec := "canHelps", unfollowed := true, recurses := true, named := ["oilcake/can.checks"], plainKeys := false, apart := false, laid := [("oilcake/can.checks", laid_oilcake_can_checks)], narrowed := true }
def CanHelpsUptoSaid : Prop := canHelpsUptoRow.holds Tryz.pinned (OpenSpec.upto canHelpsSpec)

/-- 'oilcakelaw08.CanKept', WHERE WHAT IT READS IS OF BULK AT MOST 1048576: true; the input reads as it did. -/
def canKeptUptoRow : OpenClaim := { program := "ytjekjehgmljbgaagreatdoor", sum := "ff78ddb82b1f54f5ac4bbb16e918842a11b2d63b87ed07bebaac0d94ca858090", func := "oilcake/oilcakelaw08.CanKept", spec := "canKept", unfollowed := true, recurses := true, named := ["oilcake/can.checks"], plainKeys := false, apart := false, laid := [("oilcake/can.checks", laid_oilcake_can_checks)], narrowed := true }
def CanKeptUptoSaid : Prop := canKeptUptoRow.holds Tryz.pinned (OpenSpec.upto canKeptSpec)

/-- 'oilcakelaw08.CanFewest', WHERE WHAT IT READS IS OF BULK AT MOST 1048576: true; the input reads as it did. -/
def canFewestUptoRow : OpenClaim := { program := "ytjekjehgmljbgaagreatdoor", sum := "ff78ddb82b1f54f5ac4bbb16e918842a11b2d63b87ed07bebaac0d94ca858090", func := "oilcake/oilcakelaw08.CanFewest", spec := "canFewest", unfollowed := true, recurses := true, named := ["oilcake/can.checks"], plainKeys := false, apart := false, laid := [("oilcake/can.checks", laid_oilcake_can_checks)], narrowed := true }
def CanFewestUptoSaid : Prop := canFewestUptoRow.holds Tryz.pinned (OpenSpec.upto canFewestSpec)

/-- 'oilcakelaw08.CanNothing', WHERE WHAT IT READS IS OF BULK AT MOST 1048576: true; the input reads as it did. -/
def canNothingUptoRow : OpenClaim := { program := "ytjekjehgmljbgaagreatdoor", sum := "ff78ddb82b1f54f5ac4bbb16e918842a11b2d63b87ed07bebaac0d94ca858090", func := "oilcake/oilcakelaw08.CanNothing", spec := "canNothing", unfollowed := true, recurses := true, named := ["oilcake/can.checks"], plainKeys := false, apart := false, laid := [("oilcake/can.checks", laid_oilcake_can_checks)], narrowed := true }
def CanNothingUptoSaid : Prop := canNothingUptoRow.holds Tryz.pinned (OpenSpec.upto canNothingSpec)

/-- 'oilcakelaw08.CanExamples', WHERE WHAT IT READS IS OF BULK AT MOST 1048576: true; the input reads as it did. -/
def canExamplesUptoRow : OpenClaim := { program := "ytjekjehgmljbgaagreatdoor", sum := "ff78ddb82b1f54f5ac4bbb16e918842a11b2d63b87ed07bebaac0d94ca858090", func := "oilcake/oilcakelaw08.CanExamples", spec := "canExamples", unfollowed := true, recurses := true, named := ["oilcake/can.checks"], plainKeys := false, apart := false, laid := [("oilcake/can.checks", laid_oilcake_can_checks)], narrowed := true }
def CanExamplesUptoSaid : Prop := canExamplesUptoRow.holds Tryz.pinned (OpenSpec.upto canExamplesSpec)

end Rows
end Go.Proofs.YtjekjehgmljbgaaGreatDoor
