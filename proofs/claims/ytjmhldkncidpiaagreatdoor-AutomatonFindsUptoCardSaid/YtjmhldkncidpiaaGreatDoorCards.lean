/-
  DERIVED. GIVEN WITH THE SEED: THE CARDS: each row of YtjmhldkncidpiaaGreatDoorRows.lean that lists a variable, with what it lists TIED to the program's text (the seventh form; the later family's looks); each row that meets fmt, with fmt's text TOLD by the authors' own Lean function (tested against real Go, not proved from fmt's source: count such statements apart). THE CARD IS WHAT COUNTS. Prove the row's statement (the work); the ties are given (YtjmhldkncidpiaaGreatDoorTie.lean); close each card by the builder's one call (the guide's Derived/Test/ToyasCard.lean, 'card_holds'). Laid BY PROGRAM, IN A SANDBOX (cutbox-door.mjs). By AI agents, Wed Nov 11 2026. No macro, syntax, notation, axiom, sorry.
-/
import Derived.Test.YtjmhldkncidpiaaGreatDoorRows
import GoSem.ClaimSeven
namespace Go.Proofs.YtjmhldkncidpiaaGreatDoor
namespace Rows

/-- THE TIED CARD OF 'datakitlaw16.AutomatonFinds'. -/
def automatonFindsCard : Claim7 := { stood := { row := automatonFindsRow, standIns := [], harness := (true, "3a2d92a97fd1c36f5b2beb260203d9c7b83fc8099f9529477a8e66c999e3a676"), looks := false }, kinds := [], alts := [], laidByText := true, laidKinds := [.data, .data, .data], laidTests := true, laidLooks := .later }
def AutomatonFindsCardSaid : Prop := Claim7.holds Tryz.pinned (.plain (OpenSpec.ofChange automatonFindsSpec)) automatonFindsCard

/-- THE SECOND FORM's CARD OF 'datakitlaw16.AutomatonFinds'. -/
def automatonFindsUptoCard : Claim7 := { stood := { row := automatonFindsUptoRow, standIns := [], harness := (true, "3a2d92a97fd1c36f5b2beb260203d9c7b83fc8099f9529477a8e66c999e3a676"), looks := false }, kinds := [], alts := [], laidByText := true, laidKinds := [.data, .data, .data], laidTests := true, laidLooks := .later }
def AutomatonFindsUptoCardSaid : Prop := Claim7.holds Tryz.pinned (.plain (OpenSpec.upto automatonFindsSpec)) automatonFindsUptoCard
end Rows
end Go.Proofs.YtjmhldkncidpiaaGreatDoor
