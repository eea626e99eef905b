/-
  DERIVED. GIVEN WITH THE SEED: THE CARDS: each row of YtglnglflcoeinaaGreatDoorRows.lean that lists a variable, with what it lists TIED to the program's text (the seventh form; the later family's looks); each row that meets fmt, with fmt's text TOLD by the authors' own Lean function (tested against real Go, not proved from fmt's source: count such statements apart). THE CARD IS WHAT COUNTS. Prove the row's statement (the work); the ties are given (YtglnglflcoeinaaGreatDoorTie.lean); close each card by the builder's one call (the guide's Derived/Test/ToyasCard.lean, 'card_holds'). Laid BY PROGRAM, IN A SANDBOX (cutbox-door.mjs). By AI agents, Wed Nov 11 2026. No macro, syntax, notation, axiom, sorry.
-/
import Derived.Test.YtglnglflcoeinaaGreatDoorRows
import GoSem.ClaimSeven
namespace Go.Proofs.YtglnglflcoeinaaGreatDoor
namespace Rows

/-- THE TIED CARD OF 'datakitlaw39.QpathModifies'. -/
def qpathModifiesCard : Claim7 := { stood := { row := qpathModifiesRow, standIns := [], harness := (true, "d8fee23d58cf991b5d7560c99f3bd44c03e6ae365f34a77569ed7de4459a7da7"), looks := false }, kinds := [], alts := [], laidByText := true, laidKinds := [.data, .pinned], laidTests := true, laidLooks := .later }
def QpathModifiesCardSaid : Prop := Claim7.holds Tryz.pinned (.plain (OpenSpec.ofChange qpathModifiesSpec)) qpathModifiesCard

/-- THE SECOND FORM's CARD OF 'datakitlaw39.QpathModifies'. -/
def qpathModifiesUptoCard : Claim7 := { stood := { row := qpathModifiesUptoRow, standIns := [], harness := (true, "d8fee23d58cf991b5d7560c99f3bd44c03e6ae365f34a77569ed7de4459a7da7"), looks := false }, kinds := [], alts := [], laidByText := true, laidKinds := [.data, .pinned], laidTests := true, laidLooks := .later }
def QpathModifiesUptoCardSaid : Prop := Claim7.holds Tryz.pinned (.plain (OpenSpec.upto qpathModifiesSpec)) qpathModifiesUptoCard
end Rows
end Go.Proofs.YtglnglflcoeinaaGreatDoor
