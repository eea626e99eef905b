/-
  DERIVED. GIVEN WITH THE SEED: THE CARDS: each row of YtaaolmjbpebclaaGreatDoorRows.lean that lists a variable, with what it lists TIED to the program's text (the seventh form; the later family's looks); each row that meets fmt, with fmt's text TOLD by the authors' own Lean function (tested against real Go, not proved from fmt's source: count such statements apart). THE CARD IS WHAT COUNTS. Prove the row's statement (the work); the ties are given (YtaaolmjbpebclaaGreatDoorTie.lean); close each card by the builder's one call (the guide's Derived/Test/ToyasCard.lean, 'card_holds'). Laid BY PROGRAM, IN A SANDBOX (cutbox-door.mjs). By AI agents, Wed Nov 11 2026. No macro, syntax, notation, axiom, sorry.
-/
import Derived.Test.YtaaolmjbpebclaaGreatDoorRows
import GoSem.ClaimSeven
namespace Go.Proofs.YtaaolmjbpebclaaGreatDoor
namespace Rows

/-- THE TIED CARD OF 'datakitlaw45.SchemaSizes'. -/
def schemaSizesCard : Claim7 := { stood := { row := schemaSizesRow, standIns := [], harness := (true, "66e39da159fd542456febc240161c9fa6a4c24c14ae994255674640f74958215"), looks := true }, kinds := [], alts := [], laidByText := true, laidKinds := [.data, .data, .data, .data, .sentinel, .sentinel, .pinned], laidTests := true, laidLooks := .later }
def SchemaSizesCardSaid : Prop := Claim7.holds Tryz.pinned (.plain (OpenSpec.ofChange schemaSizesSpec)) schemaSizesCard

/-- THE SECOND FORM's CARD OF 'datakitlaw45.SchemaSizes'. -/
def schemaSizesUptoCard : Claim7 := { stood := { row := schemaSizesUptoRow, standIns := [], harness := (true, "66e39da159fd542456febc240161c9fa6a4c24c14ae994255674640f74958215"), looks := true }, kinds := [], alts := [], laidByText := true, laidKinds := [.data, .data, .data, .data, .sentinel, .sentinel, .pinned], laidTests := true, laidLooks := .later }
def SchemaSizesUptoCardSaid : Prop := Claim7.holds Tryz.pinned (.plain (OpenSpec.upto schemaSizesSpec)) schemaSizesUptoCard
end Rows
end Go.Proofs.YtaaolmjbpebclaaGreatDoor
