/-
  DERIVED. GIVEN WITH THE SEED: THE CARDS: each row of YtndeonfobpmddaaGreatDoorRows.lean that lists a variable, with what it lists TIED to the program's text (the seventh form; the later family's looks); each row that meets fmt, with fmt's text TOLD by the authors' own Lean function (tested against real Go, not proved from fmt's source: count such statements apart). THE CARD IS WHAT COUNTS. Prove the row's statement (the work); the ties are given (YtndeonfobpmddaaGreatDoorTie.lean); close each card by the builder's one call (the guide's Derived/Test/ToyasCard.lean, 'card_holds'). Laid BY PROGRAM, IN A SANDBOX (cutbox-door.mjs). By AI agents, Wed Nov 11 2026. No macro, syntax, notation, axiom, sorry.
-/
import Derived.Test.YtndeonfobpmddaaGreatDoorRows
import GoSem.ClaimSeven
namespace Go.Proofs.YtndeonfobpmddaaGreatDoor
namespace Rows

/-- THE TIED CARD OF 'datakitlaw16.AutomatonLeasts'. -/
def automatonLeastsCard : Claim7 := { stood := { row := automatonLeastsRow, standIns := [], harness := (true, "4ed28182ad061297b67b2dac6308d67da38dd3fc39b20589df4bf1c550eb804f"), looks := false }, kinds := [], alts := [], laidByText := true, laidKinds := [.data, .data, .data], laidTests := true, laidLooks := .later }
def AutomatonLeastsCardSaid : Prop := Claim7.holds Tryz.pinned (.plain (OpenSpec.ofChange automatonLeastsSpec)) automatonLeastsCard

/-- THE TIED CARD OF 'datakitlaw16.AutomatonEquals'. -/
def automatonEqualsCard : Claim7 := { stood := { row := automatonEqualsRow, standIns := [], harness := (true, "4ed28182ad061297b67b2dac6308d67da38dd3fc39b20589df4bf1c550eb804f"), looks := false }, kinds := [], alts := [], laidByText := true, laidKinds := [.data, .data, .data], laidTests := true, laidLooks := .later }
def AutomatonEqualsCardSaid : Prop := Claim7.holds Tryz.pinned (.plain (OpenSpec.ofChange automatonEqualsSpec)) automatonEqualsCard

/-- THE SECOND FORM's CARD OF 'datakitlaw16.AutomatonLeasts'. -/
def automatonLeastsUptoCard : Claim7 := { stood := { row := automatonLeastsUptoRow, standIns := [], harness := (true, "4ed28182ad061297b67b2dac6308d67da38dd3fc39b20589df4bf1c550eb804f"), looks := false }, kinds := [], alts := [], laidByText := true, laidKinds := [.data, .data, .data], laidTests := true, laidLooks := .later }
def AutomatonLeastsUptoCardSaid : Prop := Claim7.holds Tryz.pinned (.plain (OpenSpec.upto automatonLeastsSpec)) automatonLeastsUptoCard

/-- THE SECOND FORM's CARD OF 'datakitlaw16.AutomatonEquals'. -/
def automatonEqualsUptoCard : Claim7 := { stood := { row := automatonEqualsUptoRow, standIns := [], harness := (true, "4ed28182ad061297b67b2dac6308d67da38dd3fc39b20589df4bf1c550eb804f"), looks := false }, kinds := [], alts := [], laidByText := true, laidKinds := [.data, .data, .data], laidTests := true, laidLooks := .later }
def AutomatonEqualsUptoCardSaid : Prop := Claim7.holds Tryz.pinned (.plain (OpenSpec.upto automatonEqualsSpec)) automatonEqualsUptoCard
end Rows
end Go.Proofs.YtndeonfobpmddaaGreatDoor
