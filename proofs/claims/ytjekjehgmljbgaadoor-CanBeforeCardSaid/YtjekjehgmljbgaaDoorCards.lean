/-
  DERIVED. GIVEN WITH THE SEED: THE CARDS: each row of YtjekjehgmljbgaaDoorRows.lean that lists a variable, with what it lists TIED to the program's text (the seventh form; the later family's looks); each row that meets fmt, with fmt's text TOLD by the authors' own Lean function (tested against real Go, not proved from fmt's source: count such statements apart). THE CARD IS WHAT COUNTS. Prove the row's statement (the work); the ties are given (YtjekjehgmljbgaaDoorTie.lean); close each card by the builder's one call (the guide's Derived/Test/ToyasCard.lean, 'card_holds'). Laid BY PROGRAM, IN A SANDBOX (cutbox-door.mjs). By AI agents, Wed Nov 11 2026. No macro, syntax, notation, axiom, sorry.
-/
import Derived.Test.YtjekjehgmljbgaaDoorRows
import GoSem.ClaimSeven
namespace Go.Proofs.YtjekjehgmljbgaaDoor
namespace Rows

/-- THE TIED CARD OF 'oilcakelaw08.CanTells'. -/
def canTellsCard : Claim7 := { stood := { row := canTellsRow, standIns := [], harness := (true, "4f976da4b806c04e14c28f8bda1ba53d549989da811836dbb6df42d861d3a136"), looks := false }, kinds := [], alts := [], laidByText := true, laidKinds := [.funcs], laidTests := true, laidLooks := .later }
def CanTellsCardSaid : Prop := Claim7.holds Tryd.pinned (.plain (OpenSpec.ofChange canTellsSpec)) canTellsCard

/-- THE TIED CARD OF 'oilcakelaw08.CanMore'. -/
def canMoreCard : Claim7 := { stood := { row := canMoreRow, standIns := [], harness := (true, "4f976da4b806c04e14c28f8bda1ba53d549989da811836dbb6df42d861d3a136"), looks := false }, kinds := [], alts := [], laidByText := true, laidKinds := [.funcs], laidTests := true, laidLooks := .later }
def CanMoreCardSaid : Prop := Claim7.holds Tryd.pinned (.plain (OpenSpec.ofChange canMoreSpec)) canMoreCard

/-- THE TIED CARD OF 'oilcakelaw08.CanAims'. -/
def canAimsCard : Claim7 := { stood := { row := canAimsRow, standIns := [], harness := (true, "4f976da4b806c04e14c28f8bda1ba53d549989da811836dbb6df42d861d3a136"), looks := false }, kinds := [], alts := [], laidByText := true, laidKinds := [.funcs], laidTests := true, laidLooks := .later }
def CanAimsCardSaid : Prop := Claim7.holds Tryd.pinned (.plain (OpenSpec.ofChange canAimsSpec)) canAimsCard

/-- THE TIED CARD OF 'oilcakelaw08.CanLogs'. -/
def canLogsCard : Claim7 := { stood := { row := canLogsRow, standIns := [], harness := (true, "4f976da4b806c04e14c28f8bda1ba53d549989da811836dbb6df42d861d3a136"), looks := false }, kinds := [], alts := [], laidByText := true, laidKinds := [.funcs], laidTests := true, laidLooks := .later }
def CanLogsCardSaid : Prop := Claim7.holds Tryd.pinned (.plain (OpenSpec.ofChange canLogsSpec)) canLogsCard

/-- THE TIED CARD OF 'oilcakelaw08.CanBefore'. -/
def canBeforeCard : Claim7 := { stood := { row := canBeforeRow, standIns := [], harness := (true, "4f976da4b806c04e14c28f8bda1ba53d549989da811836dbb6df42d861d3a136"), looks := false }, kinds := [], alts := [], laidByText := true, laidKinds := [.funcs], laidTests := true, laidLooks := .later }
def CanBeforeCardSaid : Prop := Claim7.holds Tryd.pinned (.plain (OpenSpec.ofChange canBeforeSpec)) canBeforeCard

/-- THE TIED CARD OF 'oilcakelaw08.CanReaches'. -/
def canReachesCard : Claim7 := { stood := { row := canReachesRow, standIns := [], harness := (true, "4f976da4b806c04e14c28f8bda1ba53d549989da811836dbb6df42d861d3a136"), looks := false }, kinds := [], alts := [], laidByText := true, laidKinds := [.funcs], laidTests := true, laidLooks := .later }
def CanReachesCardSaid : Prop := Claim7.holds Tryd.pinned (.plain (OpenSpec.ofChange canReachesSpec)) canReachesCard

/-- THE SECOND FORM's CARD OF 'oilcakelaw08.CanTells'. -/
def canTellsUptoCard : Claim7 := { stood := { row := canTellsUptoRow, standIns := [], harness := (true, "4f976da4b806c04e14c28f8bda1ba53d549989da811836dbb6df42d861d3a136"), looks := false }, kinds := [], alts := [], laidByText := true, laidKinds := [.funcs], laidTests := true, laidLooks := .later }
def CanTellsUptoCardSaid : Prop := Claim7.holds Tryd.pinned (.plain (OpenSpec.upto canTellsSpec)) canTellsUptoCard

/-- THE SECOND FORM's CARD OF 'oilcakelaw08.CanMore'. -/
def canMoreUptoCard : Claim7 := { stood := { row := canMoreUptoRow, standIns := [], harness := (true, "4f976da4b806c04e14c28f8bda1ba53d549989da811836dbb6df42d861d3a136"), looks := false }, kinds := [], alts := [], laidByText := true, laidKinds := [.funcs], laidTests := true, laidLooks := .later }
def CanMoreUptoCardSaid : Prop := Claim7.holds Tryd.pinned (.plain (OpenSpec.upto canMoreSpec)) canMoreUptoCard

/-- THE SECOND FORM's CARD OF 'oilcakelaw08.CanAims'. -/
def canAimsUptoCard : Claim7 := { stood := { row := canAimsUptoRow, standIns := [], harness := (true, "4f976da4b806c04e14c28f8bda1ba53d549989da811836dbb6df42d861d3a136"), looks := false }, kinds := [], alts := [], laidByText := true, laidKinds := [.funcs], laidTests := true, laidLooks := .later }
def CanAimsUptoCardSaid : Prop := Claim7.holds Tryd.pinned (.plain (OpenSpec.upto canAimsSpec)) canAimsUptoCard

/-- THE SECOND FORM's CARD OF 'oilcakelaw08.CanLogs'. -/
def canLogsUptoCard : Claim7 := { stood := { row := canLogsUptoRow, standIns := [], harness := (true, "4f976da4b806c04e14c28f8bda1ba53d549989da811836dbb6df42d861d3a136"), looks := false }, kinds := [], alts := [], laidByText := true, laidKinds := [.funcs], laidTests := true, laidLooks := .later }
def CanLogsUptoCardSaid : Prop := Claim7.holds Tryd.pinned (.plain (OpenSpec.upto canLogsSpec)) canLogsUptoCard

/-- THE SECOND FORM's CARD OF 'oilcakelaw08.CanBefore'. -/
def canBeforeUptoCard : Claim7 := { stood := { row := canBeforeUptoRow, standIns := [], harness := (true, "4f976da4b806c04e14c28f8bda1ba53d549989da811836dbb6df42d861d3a136"), looks := false }, kinds := [], alts := [], laidByText := true, laidKinds := [.funcs], laidTests := true, laidLooks := .later }
def CanBeforeUptoCardSaid : Prop := Claim7.holds Tryd.pinned (.plain (OpenSpec.upto canBeforeSpec)) canBeforeUptoCard

/-- THE SECOND FORM's CARD OF 'oilcakelaw08.CanReaches'. -/
def canReachesUptoCard : Claim7 := { stood := { row := canReachesUptoRow, standIns := [], harness := (true, "4f976da4b806c04e14c28f8bda1ba53d549989da811836dbb6df42d861d3a136"), looks := false }, kinds := [], alts := [], laidByText := true, laidKinds := [.funcs], laidTests := true, laidLooks := .later }
def CanReachesUptoCardSaid : Prop := Claim7.holds Tryd.pinned (.plain (OpenSpec.upto canReachesSpec)) canReachesUptoCard
end Rows
end Go.Proofs.YtjekjehgmljbgaaDoor
