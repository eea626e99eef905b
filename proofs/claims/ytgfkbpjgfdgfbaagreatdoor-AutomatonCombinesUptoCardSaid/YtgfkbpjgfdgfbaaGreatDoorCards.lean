/-
  DERIVED. GIVEN WITH THE SEED: THE CARDS: each row of YtgfkbpjgfdgfbaaGreatDoorRows.lean that lists a variable, with what it lists TIED to the program's text (the seventh form; the later family's looks); each row that meets fmt, with fmt's text TOLD by the authors' own Lean function (tested against real Go, not proved from fmt's source: count such statements apart). THE CARD IS WHAT COUNTS. Prove the row's statement (the work); the ties are given (YtgfkbpjgfdgfbaaGreatDoorTie.lean); close each card by the builder's one call (the guide's Derived/Test/ToyasCard.lean, 'card_holds'). Laid BY PROGRAM, IN A SANDBOX (cutbox-door.mjs). By AI agents, Wed Nov 11 2026. No macro, syntax, notation, axiom, sorry.
-/
import Derived.Test.YtgfkbpjgfdgfbaaGreatDoorRows
import GoSem.ClaimSeven
namespace Go.Proofs.YtgfkbpjgfdgfbaaGreatDoor
namespace Rows

/-- THE TIED CARD OF 'datakitlaw16.AutomatonCombines'. -/
def automatonCombinesCard : Claim7 := { stood := { row := automatonCombinesRow, standIns := [], harness := (true, "c9543985656fd19f808b881a522266f136e368d97d2b4d892d4c478e2199706a"), looks := false }, kinds := [], alts := [], laidByText := true, laidKinds := [.data, .data, .data], laidTests := true, laidLooks := .later }
def AutomatonCombinesCardSaid : Prop := Claim7.holds Tryz.pinned (.plain (OpenSpec.ofChange automatonCombinesSpec)) automatonCombinesCard

/-- THE SECOND FORM's CARD OF 'datakitlaw16.AutomatonCombines'. -/
def automatonCombinesUptoCard : Claim7 := { stood := { row := automatonCombinesUptoRow, standIns := [], harness := (true, "c9543985656fd19f808b881a522266f136e368d97d2b4d892d4c478e2199706a"), looks := false }, kinds := [], alts := [], laidByText := true, laidKinds := [.data, .data, .data], laidTests := true, laidLooks := .later }
def AutomatonCombinesUptoCardSaid : Prop := Claim7.holds Tryz.pinned (.plain (OpenSpec.upto automatonCombinesSpec)) automatonCombinesUptoCard
end Rows
end Go.Proofs.YtgfkbpjgfdgfbaaGreatDoor
