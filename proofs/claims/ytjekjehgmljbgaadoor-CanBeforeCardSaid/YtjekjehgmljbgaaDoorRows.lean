/-
  NARROWER THAN 'FOR EVERY INPUT', by the rows' own cells (each row's printed sentence says how): CanTells: laid · CanMore: laid · CanAims: laid · CanLogs: laid · CanBefore: laid · CanReaches: laid.
  DERIVED. THE GIVEN ROWS OF THIS SEAT. 6 by the template 'for every input the law returns true; each argument reads behind the call as it read before'; 0 by the template 'total and deterministic' (their statements: YtjekjehgmljbgaaDoorTotals.lean).
  GIVEN WITH THE SEED: the statements are not yours to turn. If you find one false, say at which input.
  Laid BY PROGRAM, IN A SANDBOX (cutbox-rows.mjs): the forced cells as the released guide's own fill.sh prints them over the translation 4336a92109e9c3ea… (all of the seat's roots in one cut). By AI agents, Wed Nov 11 2026. No macro, syntax, notation, axiom, sorry.
-/
import Derived.Test.YtjekjehgmljbgaaDoorChecked
import GoSem.Claim
import GoSem.ClaimJoined
import GoSem.ClaimMapViews
import Derived.JoinedTies
import Derived.KernelRfl
namespace Go.Proofs.YtjekjehgmljbgaaDoor
/- THE CELL 'sum', in the pinned program and in every row, IS THE sha256 OF THE DUMP (.gsa) THAT YtjekjehgmljbgaaDoorProg.lean LOADS. Nothing in Lean hashes anything: it is a label: what it is worth is what the hold of that sum in a sandbox is worth. -/
noncomputable def Tryd.pinned : Pinned := { name := "ytjekjehgmljbgaadoor", sum := "4336a92109e9c3eac2cc7d9ba69163d0638cce762f7a140a6f937868174aa83e", checked := Tryd.checked }
namespace Rows
def none {H : Type} : Left H := { results := [], args := [] }

/- WHAT THE LISTED PACKAGE-LEVEL VARIABLES READ AS WHEN THE CALL BEGINS. Each datum BY PROGRAM (the guide's laid-datum.mjs) off the statement by which the dump's own 'gosem.cut.vars' lays the variable. In a bare row this is a premise. The card (YtjekjehgmljbgaaDoorCards.lean) ties it to the program's text. -/
def laid_oilcake_can_checks {H : Type} : DataW H := .iface "func table" (.agg [.agg [.iface "func" (.lit (.string [111, 105, 108, 99, 97, 107, 101, 47, 99, 97, 110, 46, 99, 104, 101, 99, 107, 115, 36, 49]))], .agg [.iface "func" (.lit (.string [111, 105, 108, 99, 97, 107, 101, 47, 99, 97, 110, 46, 99, 104, 101, 99, 107, 115, 36, 50]))], .agg [.iface "func" (.lit (.string [111, 105, 108, 99, 97, 107, 101, 47, 99, 97, 110, 46, 99, 104, 101, 99, 107, 115, 36, 51]))]])

/-- 'oilcakelaw08.CanTells': WHATEVER THE INPUT: true; the input reads as it did. -/
def canTellsSpec : ChangeSpec := { name := "canTells", fn := fun _ => fun
  | [d1, d2, d3] => { results := [.lit (.bool true)], args := [d1, d2, d3] }
  | _ => none }
def canTellsRow : OpenClaim := { program := "ytjekjehgmljbgaadoor", sum := "4336a92109e9c3eac2cc7d9ba69163d0638cce762f7a140a6f937868174aa83e", func := "oilcake/oilcakelaw08.CanTells", spec := "canTells", unfollowed := true, recurses := true, named := ["oilcake/can.checks"], plainKeys := false, apart := false, laid := [("oilcake/can.checks", laid_oilcake_can_checks)] }
def CanTellsSaid : Prop := canTellsRow.holds Tryd.pinned (OpenSpec.ofChange canTellsSpec)

/-- ITS FALSE NEIGHBOUR: 'it returns false'. Refute it at one input. -/
def canTellsWrong : ChangeSpec := { name := "canTells", fn := fun _ => fun
  | [d1, d2, d3] => { results := [.lit (.bool false)], args := [d1, d2, d3] }
  | _ => none }
def CanTellsWrongFalsely : Prop := canTellsRow.holds Tryd.pinned (OpenSpec.ofChange canTellsWrong)

/-- 'oilcakelaw08.CanMore': WHATEVER THE INPUT: true; the input reads as it did. -/
def canMoreSpec : ChangeSpec := { name := "canMore", fn := fun _ => fun
  | [d1, d2, d3] => { results := [.lit (.bool true)], args := [d1, d2, d3] }
  | _ => none }
def canMoreRow : OpenClaim := { program := "ytjekjehgmljbgaadoor", sum := "4336a92109e9c3eac2cc7d9ba69163d0638cce762f7a140a6f937868174aa83e", func := "oilcake/oilcakelaw08.CanMore", spec := "canMore", unfollowed := true, recurses := true, named := ["oilcake/can.checks"], plainKeys := false, apart := false, laid := [("oilcake/can.checks", laid_oilcake_can_checks)] }
def CanMoreSaid : Prop := canMoreRow.holds Tryd.pinned (OpenSpec.ofChange canMoreSpec)

/-- ITS FALSE NEIGHBOUR: 'it returns false'. Refute it at one input. -/
def canMoreWrong : ChangeSpec := { name := "canMore", fn := fun _ => fun
  | [d1, d2, d3] => { results := [.lit (.bool false)], args := [d1, d2, d3] }
  | _ => none }
def CanMoreWrongFalsely : Prop := canMoreRow.holds Tryd.pinned (OpenSpec.ofChange canMoreWrong)

/-- 'oilcakelaw08.CanAims': WHATEVER THE INPUT: true; the input reads as it did. -/
def canAimsSpec : ChangeSpec := { name := "canAims", fn := fun _ => fun
  | [d1, d2, d3, d4] => { results := [.lit (.bool true)], args := [d1, d2, d3, d4] }
  | _ => none }
def canAimsRow : OpenClaim := { program := "ytjekjehgmljbgaadoor", sum := "4336a92109e9c3eac2cc7d9ba69163d0638cce762f7a140a6f937868174aa83e", func := "oilcake/oilcakelaw08.CanAims", spec := "canAims", unfollowed := true, recurses := true, named := ["oilcake/can.checks"], plainKeys := false, apart := false, laid := [("oilcake/can.checks", laid_oilcake_can_checks)] }
def CanAimsSaid : Prop := canAimsRow.holds Tryd.pinned (OpenSpec.ofChange canAimsSpec)

/-- ITS FALSE NEIGHBOUR: 'it returns false'. Refute it at one input. -/
def canAimsWrong : ChangeSpec := { name := "canAims", fn := fun _ => fun
  | [d1, d2, d3, d4] => { results := [.lit (.bool false)], args := [d1, d2, d3, d4] }
  | _ => none }
def CanAimsWrongFalsely : Prop := canAimsRow.holds Tryd.pinned (OpenSpec.ofChange canAimsWrong)

/-- 'oilcakelaw08.CanLogs': WHATEVER THE INPUT: true; the input reads as it did. -/
def canLogsSpec : ChangeSpec := { name := "canLogs", fn := fun _ => fun
  | [d1, d2, d3, d4] => { results := [.lit (.bool true)], args := [d1, d2, d3, d4] }
  | _ => none }
def canLogsRow : OpenClaim := { program := "ytjekjehgmljbgaadoor", sum := "4336a92109e9c3eac2cc7d9ba69163d0638cce762f7a140a6f937868174aa83e", func := "oilcake/oilcakelaw08.CanLogs", spec := "canLogs", unfollowed := true, recurses := true, named := ["oilcake/can.checks"], plainKeys := false, apart := false, laid := [("oilcake/can.checks", laid_oilcake_can_checks)] }
def CanLogsSaid : Prop := canLogsRow.holds Tryd.pinned (OpenSpec.ofChange canLogsSpec)

/-- ITS FALSE NEIGHBOUR: 'it returns false'. Refute it at one input. -/
def canLogsWrong : ChangeSpec := { name := "canLogs", fn := fun _ => fun
  | [d1, d2, d3, d4] => { results := [.lit (.bool false)], args := [d1, d2, d3, d4] }
  | _ => none }
def CanLogsWrongFalsely : Prop := canLogsRow.holds Tryd.pinned (OpenSpec.ofChange canLogsWrong)

/-- 'oilcakelaw08.CanBefore': WHATEVER THE INPUT: true; the input reads as it did. -/
def canBeforeSpec : ChangeSpec := { name := "canBefore", fn := fun _ => fun
  | [d1, d2] => { results := [.lit (.bool true)], args := [d1, d2] }
  | _ => none }
def canBeforeRow : OpenClaim := { program := "ytjekjehgmljbgaadoor", sum := "4336a92109e9c3eac2cc7d9ba69163d0638cce762f7a140a6f937868174aa83e", func := "oilcake/oilcakelaw08.CanBefore", spec := "canBefore", unfollowed := true, recurses := true, named := ["oilcake/can.checks"], plainKeys := false, apart := false, laid := [("oilcake/can.checks", laid_oilcake_can_checks)] }
def CanBeforeSaid : Prop := canBeforeRow.holds Tryd.pinned (OpenSpec.ofChange canBeforeSpec)

/-- ITS FALSE NEIGHBOUR: 'it returns false'. Refute it at one input. -/
def canBeforeWrong : ChangeSpec := { name := "canBefore", fn := fun _ => fun
  | [d1, d2] => { results := [.lit (.bool false)], args := [d1, d2] }
  | _ => none }
def CanBeforeWrongFalsely : Prop := canBeforeRow.holds Tryd.pinned (OpenSpec.ofChange canBeforeWrong)

/-- 'oilcakelaw08.CanReaches': WHATEVER THE INPUT: true; the input reads as it did. -/
def canReachesSpec : ChangeSpec := { name := "canReaches", fn := fun _ => fun
  | [d] => { results := [.lit (.bool true)], args := [d] }
  | _ => none }
def canReachesRow : OpenClaim := { program := "ytjekjehgmljbgaadoor", sum := "4336a92109e9c3eac2cc7d9ba69163d0638cce762f7a140a6f937868174aa83e", func := "oilcake/oilcakelaw08.CanReaches", spec := "canReaches", unfollowed := true, recurses := true, named := ["oilcake/can.checks"], plainKeys := false, apart := false, laid := [("oilcake/can.checks", laid_oilcake_can_checks)] }
def CanReachesSaid : Prop := canReachesRow.holds Tryd.pinned (OpenSpec.ofChange canReachesSpec)

/-- ITS FALSE NEIGHBOUR: 'it returns false'. Refute it at one input. -/
def canReachesWrong : ChangeSpec := { name := "canReaches", fn := fun _ => fun
  | [d] => { results := [.lit (.bool false)], args := [d] }
  | _ => none }
def CanReachesWrongFalsely : Prop := canReachesRow.holds Tryd.pinned (OpenSpec.ofChange canReachesWrong)

/- THE SECOND FORM. 'bulk': how many values and letters a reading holds, each counted each time it is reached (what is shared counts as often as it is met; a slice's spare places count too). A statement '..UptoSaid' is the law's where the arguments, and the package variables that the reading takes, are together of bulk at most 1048576: NARROWER than '..Said'. Prove '..Said' where nothing that the law and all that it calls make is longer than what came in: it says more and counts as full. Else prove '..UptoSaid'. A law counts once. -/
mutual
def uptoBulk {H : Type} : DataW H → Nat
  | .lit (.string bytes) => bytes.length + 1
  | .lit _ => 1
  | .nil => 1
  | .ptr d => uptoBulk d + 1
  | .slice elems spare => uptoBulkAll elems + uptoBulkAll spare + 1
  | .agg parts => uptoBulkAll parts + 1
  | .iface _ d => uptoBulk d + 1
  | .map entries => uptoBulkEntries entries + 1
  | .held _ => 1
def uptoBulkAll {H : Type} : List (DataW H) → Nat
  | [] => 0
  | d :: r => uptoBulk d + uptoBulkAll r
def uptoBulkEntries {H : Type} : List (Lit × DataW H) → Nat
  | [] => 0
  | x :: r => uptoBulkEntry x + uptoBulkEntries r
def uptoBulkEntry {H : Type} : Lit × DataW H → Nat
  | (.string bytes, d) => bytes.length + uptoBulk d + 1
  | (_, d) => uptoBulk d + 1
 end
def uptoSmall : (H : Type) → List (DataW H) → Bool := fun _ ds => decide (uptoBulkAll ds ≤ 1048576)
def OpenSpec.upto (s : _root_.Go.ChangeSpec) : _root_.Go.OpenSpec := { _root_.Go.OpenSpec.ofChange s with cond := some uptoSmall }

/-- 'oilcakelaw08.CanTells', WHERE WHAT IT READS IS OF BULK AT MOST 1048576: true; the input reads as it did. -/
def canTellsUptoRow : OpenClaim := { program := "ytjekjehgmljbgaadoor", sum := "4336a92109e9c3eac2cc7d9ba69163d0638cce762f7a140a6f937868174aa83e", func := "oilcake/oilcakelaw08.CanTells", spec := "canTells", unfollowed := true, recurses := true, named := ["oilcake/can.checks"], plainKeys := false, apart := false, laid := [("oilcake/can.checks", laid_oilcake_can_checks)], narrowed := true }
def CanTellsUptoSaid : Prop := canTellsUptoRow.holds Tryd.pinned (OpenSpec.upto canTellsSpec)

/-- 'oilcakelaw08.CanMore', WHERE WHAT IT READS IS OF BULK AT MOST 1048576: true; the input reads as it did. -/
def canMoreUptoRow : OpenClaim := { program := "ytjekjehgmljbgaadoor", sum := "4336a92109e9c3eac2cc7d9ba69163d0638cce762f7a140a6f937868174aa83e", func := "oilcake/oilcakelaw08.CanMore", spec := "canMore", unfollowed := true, recurses := true, named := ["oilcake/can.checks"], plainKeys := false, apart := false, laid := [("oilcake/can.checks", laid_oilcake_can_checks)], narrowed := true }
def CanMoreUptoSaid : Prop := canMoreUptoRow.holds Tryd.pinned (OpenSpec.upto canMoreSpec)

/-- 'oilcakelaw08.CanAims', WHERE WHAT IT READS IS OF BULK AT MOST 1048576: true; the input reads as it did. -/
def canAimsUptoRow : OpenClaim := { program := "ytjekjehgmljbgaadoor", sum := "4336a92109e9c3eac2cc7d9ba69163d0638cce762f7a140a6f937868174aa83e", func := "oilcake/oilcakelaw08.CanAims", spec := "canAims", unfollowed := true, recurses := true, named := ["oilcake/can.checks"], plainKeys := false, apart := false, laid := [("oilcake/can.checks", laid_oilcake_can_checks)], narrowed := true }
def CanAimsUptoSaid : Prop := canAimsUptoRow.holds Tryd.pinned (OpenSpec.upto canAimsSpec)

/-- 'oilcakelaw08.CanLogs', WHERE WHAT IT READS IS OF BULK AT MOST 1048576: true; the input reads as it did. -/
def canLogsUptoRow : OpenClaim := { program := "ytjekjehgmljbgaadoor", sum := "4336a92109e9c3eac2cc7d9ba69163d0638cce762f7a140a6f937868174aa83e", func := "oilcake/oilcakelaw08.CanLogs", spec := "canLogs", unfollowed := true, recurses := true, named := ["oilcake/can.checks"], plainKeys := false, apart := false, laid := [("oilcake/can.checks", laid_oilcake_can_checks)], narrowed := true }
def CanLogsUptoSaid : Prop := canLogsUptoRow.holds Tryd.pinned (OpenSpec.upto canLogsSpec)

/-- 'oilcakelaw08.CanBefore', WHERE WHAT IT READS IS OF BULK AT MOST 1048576: true; the input reads as it did. -/
def canBeforeUptoRow : OpenClaim := { program := "ytjekjehgmljbgaadoor", sum := "4336a92109e9c3eac2cc7d9ba69163d0638cce762f7a140a6f937868174aa83e", func := "oilcake/oilcakelaw08.CanBefore", spec := "canBefore", unfollowed := true, recurses := true, named := ["oilcake/can.checks"], plainKeys := false, apart := false, laid := [("oilcake/can.checks", laid_oilcake_can_checks)], narrowed := true }
def CanBeforeUptoSaid : Prop := canBeforeUptoRow.holds Tryd.pinned (OpenSpec.upto canBeforeSpec)

/-- 'oilcakelaw08.CanReaches', WHERE WHAT IT READS IS OF BULK AT MOST 1048576: true; the input reads as it did. -/
def canReachesUptoRow : OpenClaim := { program := "ytjekjehgmljbgaadoor", sum := "4336a92109e9c3eac2cc7d9ba69163d0638cce762f7a140a6f937868174aa83e", func := "oilcake/oilcakelaw08.CanReaches", spec := "canReaches", unfollowed := true, recurses := true, named := ["oilcake/can.checks"], plainKeys := false, apart := false, laid := [("oilcake/can.checks", laid_oilcake_can_checks)], narrowed := true }
def CanReachesUptoSaid : Prop := canReachesUptoRow.holds Tryd.pinned (OpenSpec.upto canReachesSpec)

end Rows
end Go.Proofs.YtjekjehgmljbgaaDoor
