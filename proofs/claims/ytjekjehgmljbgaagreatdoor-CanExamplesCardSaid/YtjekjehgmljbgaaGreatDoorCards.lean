/-
  DERIVED. GIVEN WITH THE SEED: THE CARDS: each row of YtjekjehgmljbgaaGreatDoorRows.lean that lists a variable, with what it lists TIED to the program's text (the seventh form; the later family's looks); each row that meets fmt, with fmt's text TOLD by the authors' own Lean function (tested against real Go, not proved from fmt's source: count such statements apart). THE CARD IS WHAT COUNTS. Prove the row's statement (the work); the ties are given (YtjekjehgmljbgaaGreatDoorTie.lean); close each card by the builder's one call (the guide's Derived/Test/ToyasCard.lean, 'card_holds'). Laid BY PROGRAM, IN A SANDBOX (cutbox-door.mjs). By AI agents, Wed Nov 11 2026. No macro, syntax, notation, axiom, sorry.
-/
import Derived.Test.YtjekjehgmljbgaaGreatDoorRows
import GoSem.ClaimSeven
namespace Go.Proofs.YtjekjehgmljbgaaGreatDoor
namespace Rows

/-- THE TIED CARD OF 'oilcakelaw08.CanMeasured'. -/
def canMeasuredCard : Claim7 := { stood := { row := canMeasuredRow, standIns := [], harness := (true, "114ba46d525c684db3e97d3e5daf22351e8b02d0b87f957e3b74fac149e509e6"), looks := false }, kinds := [], alts := [], laidByText := true, laidKinds := [.funcs], laidTests := true, laidLooks := .later }
def CanMeasuredCardSaid : Prop := Claim7.holds Tryz.pinned (.plain (OpenSpec.ofChange canMeasuredSpec)) canMeasuredCard

/-- THE TIED CARD OF 'oilcakelaw08.CanDivides'. -/
def canDividesCard : Claim7 := { stood := { row := canDividesRow, standIns := [], harness := (true, "114ba46d525c684db3e97d3e5daf22351e8b02d0b87f957e3b74fac149e509e6"), looks := false }, kinds := [], alts := [], laidByText := true, laidKinds := [.funcs], laidTests := true, laidLooks := .later }
def CanDividesCardSaid : Prop := Claim7.holds Tryz.pinned (.plain (OpenSpec.ofChange canDividesSpec)) canDividesCard

/-- THE TIED CARD OF 'oilcakelaw08.CanBack'. -/
def canBackCard : Claim7 := { stood := { row := canBackRow, standIns := [], harness := (true, "114ba46d525c684db3e97d3e5daf22351e8b02d0b87f957e3b74fac149e509e6"), looks := false }, kinds := [], alts := [], laidByText := true, laidKinds := [.funcs], laidTests := true, laidLooks := .later }
def CanBackCardSaid : Prop := Claim7.holds Tryz.pinned (.plain (OpenSpec.ofChange canBackSpec)) canBackCard

/-- THE TIED CARD OF 'oilcakelaw08.CanFar'. -/
def canFarCard : Claim7 := { stood := { row := canFarRow, standIns := [], harness := (true, "114ba46d525c684db3e97d3e5daf22351e8b02d0b87f957e3b74fac149e509e6"), looks := false }, kinds := [], alts := [], laidByText := true, laidKinds := [.funcs], laidTests := true, laidLooks := .later }
def CanFarCardSaid : Prop := Claim7.holds Tryz.pinned (.plain (OpenSpec.ofChange canFarSpec)) canFarCard

/-- THE TIED CARD OF 'oilcakelaw08.CanDrawn'. -/
def canDrawnCard : Claim7 := { stood := { row := canDrawnRow, standIns := [], harness := (true, "114ba46d525c684db3e97d3e5daf22351e8b02d0b87f957e3b74fac149e509e6"), looks := false }, kinds := [], alts := [], laidByText := true, laidKinds := [.funcs], laidTests := true, laidLooks := .later }
def CanDrawnCardSaid : Prop := Claim7.holds Tryz.pinned (.plain (OpenSpec.ofChange canDrawnSpec)) canDrawnCard

/-- THE TIED CARD OF 'oilcakelaw08.CanHelps'. -/
def canHelpsCard : Claim7 := { stood := { row := canHelpsRow, standIns := [], harness := (true, "114ba46d525c684db3e97d3e5daf22351e8b02d0b87f957e3b74fac149e509e6"), looks := false }, kinds := [], alts := [], laidByText := true, laidKinds := [.funcs], laidTests := true, laidLooks := .later }
def CanHelpsCardSaid : Prop := Claim7.holds Tryz.pinned (.plain (OpenSpec.ofChange canHelpsSpec)) canHelpsCard

/-- THE TIED CARD OF 'oilcakelaw08.CanKept'. -/
def canKeptCard : Claim7 := { stood := { row := canKeptRow, standIns := [], harness := (true, "114ba46d525c684db3e97d3e5daf22351e8b02d0b87f957e3b74fac149e509e6"), looks := false }, kinds := [], alts := [], laidByText := true, laidKinds := [.funcs], laidTests := true, laidLooks := .later }
def CanKeptCardSaid : Prop := Claim7.holds Tryz.pinned (.plain (OpenSpec.ofChange canKeptSpec)) canKeptCard

/-- THE TIED CARD OF 'oilcakelaw08.CanFewest'. -/
def canFewestCard : Claim7 := { stood := { row := canFewestRow, standIns := [], harness := (true, "114ba46d525c684db3e97d3e5daf22351e8b02d0b87f957e3b74fac149e509e6"), looks := false }, kinds := [], alts := [], laidByText := true, laidKinds := [.funcs], laidTests := true, laidLooks := .later }
def CanFewestCardSaid : Prop := Claim7.holds Tryz.pinned (.plain (OpenSpec.ofChange canFewestSpec)) canFewestCard

/-- THE TIED CARD OF 'oilcakelaw08.CanNothing'. -/
def canNothingCard : Claim7 := { stood := { row := canNothingRow, standIns := [], harness := (true, "114ba46d525c684db3e97d3e5daf22351e8b02d0b87f957e3b74fac149e509e6"), looks := false }, kinds := [], alts := [], laidByText := true, laidKinds := [.funcs], laidTests := true, laidLooks := .later }
def CanNothingCardSaid : Prop := Claim7.holds Tryz.pinned (.plain (OpenSpec.ofChange canNothingSpec)) canNothingCard

/-- THE TIED CARD OF 'oilcakelaw08.CanExamples'. -/
def canExamplesCard : Claim7 := { stood := { row := canExamplesRow, standIns := [], harness := (true, "114ba46d525c684db3e97d3e5daf22351e8b02d0b87f957e3b74fac149e509e6"), looks := false }, kinds := [], alts := [], laidByText := true, laidKinds := [.funcs], laidTests := true, laidLooks := .later }
def CanExamplesCardSaid : Prop := Claim7.holds Tryz.pinned (.plain (OpenSpec.ofChange canExamplesSpec)) canExamplesCard

/-- THE SECOND FORM's CARD OF 'oilcakelaw08.CanMeasured'. -/
def canMeasuredUptoCard : Claim7 := { stood := { row := canMeasuredUptoRow, standIns := [], harness := (true, "114ba46d525c684db3e97d3e5daf22351e8b02d0b87f957e3b74fac149e509e6"), looks := false }, kinds := [], alts := [], laidByText := true, laidKinds := [.funcs], laidTests := true, laidLooks := .later }
def CanMeasuredUptoCardSaid : Prop := Claim7.holds Tryz.pinned (.plain (OpenSpec.upto canMeasuredSpec)) canMeasuredUptoCard

/-- THE SECOND FORM's CARD OF 'oilcakelaw08.CanDivides'. -/
def canDividesUptoCard : Claim7 := { stood := { row := canDividesUptoRow, standIns := [], harness := (true, "114ba46d525c684db3e97d3e5daf22351e8b02d0b87f957e3b74fac149e509e6"), looks := false }, kinds := [], alts := [], laidByText := true, laidKinds := [.funcs], laidTests := true, laidLooks := .later }
def CanDividesUptoCardSaid : Prop := Claim7.holds Tryz.pinned (.plain (OpenSpec.upto canDividesSpec)) canDividesUptoCard

/-- THE SECOND FORM's CARD OF 'oilcakelaw08.CanBack'. -/
def canBackUptoCard : Claim7 := { stood := { row := canBackUptoRow, standIns := [], harness := (true, "114ba46d525c684db3e97d3e5daf22351e8b02d0b87f957e3b74fac149e509e6"), looks := false }, kinds := [], alts := [], laidByText := true, laidKinds := [.funcs], laidTests := true, laidLooks := .later }
def CanBackUptoCardSaid : Prop := Claim7.holds Tryz.pinned (.plain (OpenSpec.upto canBackSpec)) canBackUptoCard

/-- THE SECOND FORM's CARD OF 'oilcakelaw08.CanFar'. -/
def canFarUptoCard : Claim7 := { stood := { row := canFarUptoRow, standIns := [], harness := (true, "114ba46d525c684db3e97d3e5daf22351e8b02d0b87f957e3b74fac149e509e6"), looks := false }, kinds := [], alts := [], laidByText := true, laidKinds := [.funcs], laidTests := true, laidLooks := .later }
def CanFarUptoCardSaid : Prop := Claim7.holds Tryz.pinned (.plain (OpenSpec.upto canFarSpec)) canFarUptoCard

/-- THE SECOND FORM's CARD OF 'oilcakelaw08.CanDrawn'. -/
def canDrawnUptoCard : Claim7 := { stood := { row := canDrawnUptoRow, standIns := [], harness := (true, "114ba46d525c684db3e97d3e5daf22351e8b02d0b87f957e3b74fac149e509e6"), looks := false }, kinds := [], alts := [], laidByText := true, laidKinds := [.funcs], laidTests := true, laidLooks := .later }
def CanDrawnUptoCardSaid : Prop := Claim7.holds Tryz.pinned (.plain (OpenSpec.upto canDrawnSpec)) canDrawnUptoCard

/-- THE SECOND FORM's CARD OF 'oilcakelaw08.CanHelps'. -/
def canHelpsUptoCard : Claim7 := { stood := { row := canHelpsUptoRow, standIns := [], harness := (true, "114ba46d525c684db3e97d3e5daf22351e8b02d0b87f957e3b74fac149e509e6"), looks := false }, kinds := [], alts := [], laidByText := true, laidKinds := [.funcs], laidTests := true, laidLooks := .later }
def CanHelpsUptoCardSaid : Prop := Claim7.holds Tryz.pinned (.plain (OpenSpec.upto canHelpsSpec)) canHelpsUptoCard

/-- THE SECOND FORM's CARD OF 'oilcakelaw08.CanKept'. -/
def canKeptUptoCard : Claim7 := { stood := { row := canKeptUptoRow, standIns := [], harness := (true, "114ba46d525c684db3e97d3e5daf22351e8b02d0b87f957e3b74fac149e509e6"), looks := false }, kinds := [], alts := [], laidByText := true, laidKinds := [.funcs], laidTests := true, laidLooks := .later }
def CanKeptUptoCardSaid : Prop := Claim7.holds Tryz.pinned (.plain (OpenSpec.upto canKeptSpec)) canKeptUptoCard

/-- THE SECOND FORM's CARD OF 'oilcakelaw08.CanFewest'. -/
def canFewestUptoCard : Claim7 := { stood := { row := canFewestUptoRow, standIns := [], harness := (true, "114ba46d525c684db3e97d3e5daf22351e8b02d0b87f957e3b74fac149e509e6"), looks := false }, kinds := [], alts := [], laidByText := true, laidKinds := [.funcs], laidTests := true, laidLooks := .later }
def CanFewestUptoCardSaid : Prop := Claim7.holds Tryz.pinned (.plain (OpenSpec.upto canFewestSpec)) canFewestUptoCard

/-- THE SECOND FORM's CARD OF 'oilcakelaw08.CanNothing'. -/
def canNothingUptoCard : Claim7 := { stood := { row := canNothingUptoRow, standIns := [], harness := (true, "114ba46d525c684db3e97d3e5daf22351e8b02d0b87f957e3b74fac149e509e6"), looks := false }, kinds := [], alts := [], laidByText := true, laidKinds := [.funcs], laidTests := true, laidLooks := .later }
def CanNothingUptoCardSaid : Prop := Claim7.holds Tryz.pinned (.plain (OpenSpec.upto canNothingSpec)) canNothingUptoCard

/-- THE SECOND FORM's CARD OF 'oilcakelaw08.CanExamples'. -/
def canExamplesUptoCard : Claim7 := { stood := { row := canExamplesUptoRow, standIns := [], harness := (true, "114ba46d525c684db3e97d3e5daf22351e8b02d0b87f957e3b74fac149e509e6"), looks := false }, kinds := [], alts := [], laidByText := true, laidKinds := [.funcs], laidTests := true, laidLooks := .later }
def CanExamplesUptoCardSaid : Prop := Claim7.holds Tryz.pinned (.plain (OpenSpec.upto canExamplesSpec)) canExamplesUptoCard
end Rows
end Go.Proofs.YtjekjehgmljbgaaGreatDoor
