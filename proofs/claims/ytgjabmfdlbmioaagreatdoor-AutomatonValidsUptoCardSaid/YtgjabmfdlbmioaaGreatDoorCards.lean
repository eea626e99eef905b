/-
  DERIVED. GIVEN WITH THE SEED: THE CARDS: each row of YtgjabmfdlbmioaaGreatDoorRows.lean that lists a variable, with what it lists TIED to the program's text (the seventh form; the later family's looks); each row that meets fmt, with fmt's text TOLD by the authors' own Lean function (tested against real Go, not proved from fmt's source: count such statements apart). THE CARD IS WHAT COUNTS. Prove the row's statement (the work); the ties are given (YtgjabmfdlbmioaaGreatDoorTie.lean); close each card by the builder's one call (the guide's Derived/Test/ToyasCard.lean, 'card_holds'). Laid BY PROGRAM, IN A SANDBOX (cutbox-door.mjs). By AI agents, Wed Nov 11 2026. No macro, syntax, notation, axiom, sorry.
-/
import Derived.Test.YtgjabmfdlbmioaaGreatDoorRows
import GoSem.ClaimSeven
namespace Go.Proofs.YtgjabmfdlbmioaaGreatDoor
namespace Rows

/-- THE TIED CARD OF 'datakitlaw16.AutomatonCombines'. -/
def automatonCombinesCard : Claim7 := { stood := { row := automatonCombinesRow, standIns := [], harness := (true, "434f35d65f65ce7dbb1d65fa61de0960a1a41cfd16e449a1dfc151adc324eb5b"), looks := false }, kinds := [], alts := [], laidByText := true, laidKinds := [.data, .data, .data], laidTests := true, laidLooks := .later }
def AutomatonCombinesCardSaid : Prop := Claim7.holds Tryz.pinned (.plain (OpenSpec.ofChange automatonCombinesSpec)) automatonCombinesCard

/-- THE TIED CARD OF 'datakitlaw16.AutomatonValids'. -/
def automatonValidsCard : Claim7 := { stood := { row := automatonValidsRow, standIns := [], harness := (true, "434f35d65f65ce7dbb1d65fa61de0960a1a41cfd16e449a1dfc151adc324eb5b"), looks := false }, kinds := [], alts := [], laidByText := true, laidKinds := [.data, .data, .data], laidTests := true, laidLooks := .later }
def AutomatonValidsCardSaid : Prop := Claim7.holds Tryz.pinned (.plain (OpenSpec.ofChange automatonValidsSpec)) automatonValidsCard

/-- THE TIED CARD OF 'datakitlaw16.AutomatonFinds'. -/
def automatonFindsCard : Claim7 := { stood := { row := automatonFindsRow, standIns := [], harness := (true, "434f35d65f65ce7dbb1d65fa61de0960a1a41cfd16e449a1dfc151adc324eb5b"), looks := false }, kinds := [], alts := [], laidByText := true, laidKinds := [.data, .data, .data], laidTests := true, laidLooks := .later }
def AutomatonFindsCardSaid : Prop := Claim7.holds Tryz.pinned (.plain (OpenSpec.ofChange automatonFindsSpec)) automatonFindsCard

/-- THE TIED CARD OF 'datakitlaw16.AutomatonLeasts'. -/
def automatonLeastsCard : Claim7 := { stood := { row := automatonLeastsRow, standIns := [], harness := (true, "434f35d65f65ce7dbb1d65fa61de0960a1a41cfd16e449a1dfc151adc324eb5b"), looks := false }, kinds := [], alts := [], laidByText := true, laidKinds := [.data, .data, .data], laidTests := true, laidLooks := .later }
def AutomatonLeastsCardSaid : Prop := Claim7.holds Tryz.pinned (.plain (OpenSpec.ofChange automatonLeastsSpec)) automatonLeastsCard

/-- THE TIED CARD OF 'datakitlaw16.AutomatonExact'. -/
def automatonExactCard : Claim7 := { stood := { row := automatonExactRow, standIns := [], harness := (true, "434f35d65f65ce7dbb1d65fa61de0960a1a41cfd16e449a1dfc151adc324eb5b"), looks := false }, kinds := [], alts := [], laidByText := true, laidKinds := [.data, .data, .data], laidTests := true, laidLooks := .later }
def AutomatonExactCardSaid : Prop := Claim7.holds Tryz.pinned (.plain (OpenSpec.ofChange automatonExactSpec)) automatonExactCard

/-- THE TIED CARD OF 'datakitlaw16.AutomatonEquals'. -/
def automatonEqualsCard : Claim7 := { stood := { row := automatonEqualsRow, standIns := [], harness := (true, "434f35d65f65ce7dbb1d65fa61de0960a1a41cfd16e449a1dfc151adc324eb5b"), looks := false }, kinds := [], alts := [], laidByText := true, laidKinds := [.data, .data, .data], laidTests := true, laidLooks := .later }
def AutomatonEqualsCardSaid : Prop := Claim7.holds Tryz.pinned (.plain (OpenSpec.ofChange automatonEqualsSpec)) automatonEqualsCard

/-- THE SECOND FORM's CARD OF 'datakitlaw16.AutomatonCombines'. -/
def automatonCombinesUptoCard : Claim7 := { stood := { row := automatonCombinesUptoRow, standIns := [], harness := (true, "434f35d65f65ce7dbb1d65fa61de0960a1a41cfd16e449a1dfc151adc324eb5b"), looks := false }, kinds := [], alts := [], laidByText := true, laidKinds := [.data, .data, .data], laidTests := true, laidLooks := .later }
def AutomatonCombinesUptoCardSaid : Prop := Claim7.holds Tryz.pinned (.plain (OpenSpec.upto automatonCombinesSpec)) automatonCombinesUptoCard

/-- THE SECOND FORM's CARD OF 'datakitlaw16.AutomatonValids'. -/
def automatonValidsUptoCard : Claim7 := { stood := { row := automatonValidsUptoRow, standIns := [], harness := (true, "434f35d65f65ce7dbb1d65fa61de0960a1a41cfd16e449a1dfc151adc324eb5b"), looks := false }, kinds := [], alts := [], laidByText := true, laidKinds := [.data, .data, .data], laidTests := true, laidLooks := .later }
def AutomatonValidsUptoCardSaid : Prop := Claim7.holds Tryz.pinned (.plain (OpenSpec.upto automatonValidsSpec)) automatonValidsUptoCard

/-- THE SECOND FORM's CARD OF 'datakitlaw16.AutomatonFinds'. -/
def automatonFindsUptoCard : Claim7 := { stood := { row := automatonFindsUptoRow, standIns := [], harness := (true, "434f35d65f65ce7dbb1d65fa61de0960a1a41cfd16e449a1dfc151adc324eb5b"), looks := false }, kinds := [], alts := [], laidByText := true, laidKinds := [.data, .data, .data], laidTests := true, laidLooks := .later }
def AutomatonFindsUptoCardSaid : Prop := Claim7.holds Tryz.pinned (.plain (OpenSpec.upto automatonFindsSpec)) automatonFindsUptoCard

/-- THE SECOND FORM's CARD OF 'datakitlaw16.AutomatonLeasts'. -/
def automatonLeastsUptoCard : Claim7 := { stood := { row := automatonLeastsUptoRow, standIns := [], harness := (true, "434f35d65f65ce7dbb1d65fa61de0960a1a41cfd16e449a1dfc151adc324eb5b"), looks := false }, kinds := [], alts := [], laidByText := true, laidKinds := [.data, .data, .data], laidTests := true, laidLooks := .later }
def AutomatonLeastsUptoCardSaid : Prop := Claim7.holds Tryz.pinned (.plain (OpenSpec.upto automatonLeastsSpec)) automatonLeastsUptoCard

/-- THE SECOND FORM's CARD OF 'datakitlaw16.AutomatonExact'. -/
def automatonExactUptoCard : Claim7 := { stood := { row := automatonExactUptoRow, standIns := [], harness := (true, "434f35d65f65ce7dbb1d65fa61de0960a1a41cfd16e449a1dfc151adc324eb5b"), looks := false }, kinds := [], alts := [], laidByText := true, laidKinds := [.data, .data, .data], laidTests := true, laidLooks := .later }
def AutomatonExactUptoCardSaid : Prop := Claim7.holds Tryz.pinned (.plain (OpenSpec.upto automatonExactSpec)) automatonExactUptoCard

/-- THE SECOND FORM's CARD OF 'datakitlaw16.AutomatonEquals'. -/
def automatonEqualsUptoCard : Claim7 := { stood := { row := automatonEqualsUptoRow, standIns := [], harness := (true, "434f35d65f65ce7dbb1d65fa61de0960a1a41cfd16e449a1dfc151adc324eb5b"), looks := false }, kinds := [], alts := [], laidByText := true, laidKinds := [.data, .data, .data], laidTests := true, laidLooks := .later }
def AutomatonEqualsUptoCardSaid : Prop := Claim7.holds Tryz.pinned (.plain (OpenSpec.upto automatonEqualsSpec)) automatonEqualsUptoCard
end Rows
end Go.Proofs.YtgjabmfdlbmioaaGreatDoor
