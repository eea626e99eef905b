/-
  DERIVED. GIVEN WITH THE SEED: THE CARDS: each row of YtbaojellfboifaaGreatDoorRows.lean that lists a variable, with what it lists TIED to the program's text (the seventh form; the later family's looks); each row that meets fmt, with fmt's text TOLD by the authors' own Lean function (tested against real Go, not proved from fmt's source: count such statements apart). THE CARD IS WHAT COUNTS. Prove the row's statement (the work); the ties are given (YtbaojellfboifaaGreatDoorTie.lean); close each card by the builder's one call (the guide's Derived/Test/ToyasCard.lean, 'card_holds'). Laid BY PROGRAM, IN A SANDBOX (cutbox-door.mjs). By AI agents, Wed Nov 11 2026. No macro, syntax, notation, axiom, sorry.
-/
import Derived.Test.YtbaojellfboifaaGreatDoorRows
import GoSem.ClaimSeven
namespace Go.Proofs.YtbaojellfboifaaGreatDoor
namespace Rows

/-- THE TIED CARD OF 'datakitlaw46.ValidateDispatches'. -/
def validateDispatchesCard : Claim7 := { stood := { row := validateDispatchesRow, standIns := [], harness := (true, "e422a0c43714dd2face8a2f28d755ddf20fe665b5052e159955675aae288b98e"), looks := true }, kinds := [], alts := [], laidByText := true, laidKinds := [.data, .data, .data, .data, .sentinel, .sentinel, .pinned], laidTests := true, laidLooks := .later }
def ValidateDispatchesCardSaid : Prop := Claim7.holds Tryz.pinned (.plain (OpenSpec.ofChange validateDispatchesSpec)) validateDispatchesCard

/-- THE SECOND FORM's CARD OF 'datakitlaw46.ValidateDispatches'. -/
def validateDispatchesUptoCard : Claim7 := { stood := { row := validateDispatchesUptoRow, standIns := [], harness := (true, "e422a0c43714dd2face8a2f28d755ddf20fe665b5052e159955675aae288b98e"), looks := true }, kinds := [], alts := [], laidByText := true, laidKinds := [.data, .data, .data, .data, .sentinel, .sentinel, .pinned], laidTests := true, laidLooks := .later }
def ValidateDispatchesUptoCardSaid : Prop := Claim7.holds Tryz.pinned (.plain (OpenSpec.upto validateDispatchesSpec)) validateDispatchesUptoCard
end Rows
end Go.Proofs.YtbaojellfboifaaGreatDoor
