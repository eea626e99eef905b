/-
  DERIVED. GIVEN WITH THE SEED: THE CARDS: each row of YtkibapblgbdhmaaGreatDoorRows.lean that lists a variable, with what it lists TIED to the program's text (the seventh form; the later family's looks); each row that meets fmt, with fmt's text TOLD by the authors' own Lean function (tested against real Go, not proved from fmt's source: count such statements apart). THE CARD IS WHAT COUNTS. Prove the row's statement (the work); the ties are given (YtkibapblgbdhmaaGreatDoorTie.lean); close each card by the builder's one call (the guide's Derived/Test/ToyasCard.lean, 'card_holds'). Laid BY PROGRAM, IN A SANDBOX (cutbox-door.mjs). By AI agents, Wed Nov 11 2026. No macro, syntax, notation, axiom, sorry.
-/
import Derived.Test.YtkibapblgbdhmaaGreatDoorRows
import GoSem.ClaimSeven
namespace Go.Proofs.YtkibapblgbdhmaaGreatDoor
namespace Rows

/-- THE TIED CARD OF 'datakitlaw52.InferValues'. -/
def inferValuesCard : Claim7 := { stood := { row := inferValuesRow, standIns := [], harness := (true, "cb77d100c518294a1df74546566a21523a9f605000a203385696cdc077af252e"), looks := false }, kinds := [], alts := [], laidByText := true, laidKinds := [.data, .pinned], laidTests := true, laidLooks := .later }
def InferValuesCardSaid : Prop := Claim7.holds Tryz.pinned (.plain (OpenSpec.ofChange inferValuesSpec)) inferValuesCard

/-- THE TIED CARD OF 'datakitlaw52.InferJoins'. -/
def inferJoinsCard : Claim7 := { stood := { row := inferJoinsRow, standIns := [], harness := (true, "cb77d100c518294a1df74546566a21523a9f605000a203385696cdc077af252e"), looks := false }, kinds := [], alts := [], laidByText := true, laidKinds := [.data, .pinned], laidTests := true, laidLooks := .later }
def InferJoinsCardSaid : Prop := Claim7.holds Tryz.pinned (.plain (OpenSpec.ofChange inferJoinsSpec)) inferJoinsCard

/-- THE TIED CARD OF 'datakitlaw52.InferFamilies'. -/
def inferFamiliesCard : Claim7 := { stood := { row := inferFamiliesRow, standIns := [], harness := (true, "cb77d100c518294a1df74546566a21523a9f605000a203385696cdc077af252e"), looks := false }, kinds := [], alts := [], laidByText := true, laidKinds := [.data, .pinned], laidTests := true, laidLooks := .later }
def InferFamiliesCardSaid : Prop := Claim7.holds Tryz.pinned (.plain (OpenSpec.ofChange inferFamiliesSpec)) inferFamiliesCard

/-- THE TIED CARD OF 'datakitlaw52.InferOrder'. -/
def inferOrderCard : Claim7 := { stood := { row := inferOrderRow, standIns := [], harness := (true, "cb77d100c518294a1df74546566a21523a9f605000a203385696cdc077af252e"), looks := false }, kinds := [], alts := [], laidByText := true, laidKinds := [.data, .pinned], laidTests := true, laidLooks := .later }
def InferOrderCardSaid : Prop := Claim7.holds Tryz.pinned (.plain (OpenSpec.ofChange inferOrderSpec)) inferOrderCard

/-- THE SECOND FORM's CARD OF 'datakitlaw52.InferValues'. -/
def inferValuesUptoCard : Claim7 := { stood := { row := inferValuesUptoRow, standIns := [], harness := (true, "cb77d100c518294a1df74546566a21523a9f605000a203385696cdc077af252e"), looks := false }, kinds := [], alts := [], laidByText := true, laidKinds := [.data, .pinned], laidTests := true, laidLooks := .later }
def InferValuesUptoCardSaid : Prop := Claim7.holds Tryz.pinned (.plain (OpenSpec.upto inferValuesSpec)) inferValuesUptoCard

/-- THE SECOND FORM's CARD OF 'datakitlaw52.InferJoins'. -/
def inferJoinsUptoCard : Claim7 := { stood := { row := inferJoinsUptoRow, standIns := [], harness := (true, "cb77d100c518294a1df74546566a21523a9f605000a203385696cdc077af252e"), looks := false }, kinds := [], alts := [], laidByText := true, laidKinds := [.data, .pinned], laidTests := true, laidLooks := .later }
def InferJoinsUptoCardSaid : Prop := Claim7.holds Tryz.pinned (.plain (OpenSpec.upto inferJoinsSpec)) inferJoinsUptoCard

/-- THE SECOND FORM's CARD OF 'datakitlaw52.InferFamilies'. -/
def inferFamiliesUptoCard : Claim7 := { stood := { row := inferFamiliesUptoRow, standIns := [], harness := (true, "cb77d100c518294a1df74546566a21523a9f605000a203385696cdc077af252e"), looks := false }, kinds := [], alts := [], laidByText := true, laidKinds := [.data, .pinned], laidTests := true, laidLooks := .later }
def InferFamiliesUptoCardSaid : Prop := Claim7.holds Tryz.pinned (.plain (OpenSpec.upto inferFamiliesSpec)) inferFamiliesUptoCard

/-- THE SECOND FORM's CARD OF 'datakitlaw52.InferOrder'. -/
def inferOrderUptoCard : Claim7 := { stood := { row := inferOrderUptoRow, standIns := [], harness := (true, "cb77d100c518294a1df74546566a21523a9f605000a203385696cdc077af252e"), looks := false }, kinds := [], alts := [], laidByText := true, laidKinds := [.data, .pinned], laidTests := true, laidLooks := .later }
def InferOrderUptoCardSaid : Prop := Claim7.holds Tryz.pinned (.plain (OpenSpec.upto inferOrderSpec)) inferOrderUptoCard
end Rows
end Go.Proofs.YtkibapblgbdhmaaGreatDoor
