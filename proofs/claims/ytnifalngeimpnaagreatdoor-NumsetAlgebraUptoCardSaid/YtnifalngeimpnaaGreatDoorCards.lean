/-
  DERIVED. GIVEN WITH THE SEED: THE CARDS: each row of YtnifalngeimpnaaGreatDoorRows.lean that lists a variable, with what it lists TIED to the program's text (the seventh form; the later family's looks); each row that meets fmt, with fmt's text TOLD by the authors' own Lean function (tested against real Go, not proved from fmt's source: count such statements apart). THE CARD IS WHAT COUNTS. Prove the row's statement (the work); the ties are given (YtnifalngeimpnaaGreatDoorTie.lean); close each card by the builder's one call (the guide's Derived/Test/ToyasCard.lean, 'card_holds'). Laid BY PROGRAM, IN A SANDBOX (cutbox-door.mjs). By AI agents, Wed Nov 11 2026. No macro, syntax, notation, axiom, sorry.
-/
import Derived.Test.YtnifalngeimpnaaGreatDoorRows
import GoSem.ClaimSeven
namespace Go.Proofs.YtnifalngeimpnaaGreatDoor
namespace Rows

/-- THE TIED CARD OF 'datakitlaw18.NumsetNots'. -/
def numsetNotsCard : Claim7 := { stood := { row := numsetNotsRow, standIns := [], harness := (true, "591ac60a99574fa82afb24047849156a6549a035f153fe1540e7c5dee91fd8e2"), looks := false }, kinds := [], alts := [], laidByText := true, laidKinds := [.data, .pinned], laidTests := true, laidLooks := .later }
def NumsetNotsCardSaid : Prop := Claim7.holds Tryz.pinned (.plain (OpenSpec.ofChange numsetNotsSpec)) numsetNotsCard

/-- THE TIED CARD OF 'datakitlaw18.NumsetEmpties'. -/
def numsetEmptiesCard : Claim7 := { stood := { row := numsetEmptiesRow, standIns := [], harness := (true, "591ac60a99574fa82afb24047849156a6549a035f153fe1540e7c5dee91fd8e2"), looks := false }, kinds := [], alts := [], laidByText := true, laidKinds := [.data, .pinned], laidTests := true, laidLooks := .later }
def NumsetEmptiesCardSaid : Prop := Claim7.holds Tryz.pinned (.plain (OpenSpec.ofChange numsetEmptiesSpec)) numsetEmptiesCard

/-- THE TIED CARD OF 'datakitlaw18.NumsetCombines'. -/
def numsetCombinesCard : Claim7 := { stood := { row := numsetCombinesRow, standIns := [], harness := (true, "591ac60a99574fa82afb24047849156a6549a035f153fe1540e7c5dee91fd8e2"), looks := false }, kinds := [], alts := [], laidByText := true, laidKinds := [.data, .pinned], laidTests := true, laidLooks := .later }
def NumsetCombinesCardSaid : Prop := Claim7.holds Tryz.pinned (.plain (OpenSpec.ofChange numsetCombinesSpec)) numsetCombinesCard

/-- THE TIED CARD OF 'datakitlaw18.NumsetEquals'. -/
def numsetEqualsCard : Claim7 := { stood := { row := numsetEqualsRow, standIns := [], harness := (true, "591ac60a99574fa82afb24047849156a6549a035f153fe1540e7c5dee91fd8e2"), looks := false }, kinds := [], alts := [], laidByText := true, laidKinds := [.data, .pinned], laidTests := true, laidLooks := .later }
def NumsetEqualsCardSaid : Prop := Claim7.holds Tryz.pinned (.plain (OpenSpec.ofChange numsetEqualsSpec)) numsetEqualsCard

/-- THE TIED CARD OF 'datakitlaw18.NumsetAlgebra'. -/
def numsetAlgebraCard : Claim7 := { stood := { row := numsetAlgebraRow, standIns := [], harness := (true, "591ac60a99574fa82afb24047849156a6549a035f153fe1540e7c5dee91fd8e2"), looks := false }, kinds := [], alts := [], laidByText := true, laidKinds := [.data, .pinned], laidTests := true, laidLooks := .later }
def NumsetAlgebraCardSaid : Prop := Claim7.holds Tryz.pinned (.plain (OpenSpec.ofChange numsetAlgebraSpec)) numsetAlgebraCard

/-- THE SECOND FORM's CARD OF 'datakitlaw18.NumsetNots'. -/
def numsetNotsUptoCard : Claim7 := { stood := { row := numsetNotsUptoRow, standIns := [], harness := (true, "591ac60a99574fa82afb24047849156a6549a035f153fe1540e7c5dee91fd8e2"), looks := false }, kinds := [], alts := [], laidByText := true, laidKinds := [.data, .pinned], laidTests := true, laidLooks := .later }
def NumsetNotsUptoCardSaid : Prop := Claim7.holds Tryz.pinned (.plain (OpenSpec.upto numsetNotsSpec)) numsetNotsUptoCard

/-- THE SECOND FORM's CARD OF 'datakitlaw18.NumsetEmpties'. -/
def numsetEmptiesUptoCard : Claim7 := { stood := { row := numsetEmptiesUptoRow, standIns := [], harness := (true, "591ac60a99574fa82afb24047849156a6549a035f153fe1540e7c5dee91fd8e2"), looks := false }, kinds := [], alts := [], laidByText := true, laidKinds := [.data, .pinned], laidTests := true, laidLooks := .later }
def NumsetEmptiesUptoCardSaid : Prop := Claim7.holds Tryz.pinned (.plain (OpenSpec.upto numsetEmptiesSpec)) numsetEmptiesUptoCard

/-- THE SECOND FORM's CARD OF 'datakitlaw18.NumsetCombines'. -/
def numsetCombinesUptoCard : Claim7 := { stood := { row := numsetCombinesUptoRow, standIns := [], harness := (true, "591ac60a99574fa82afb24047849156a6549a035f153fe1540e7c5dee91fd8e2"), looks := false }, kinds := [], alts := [], laidByText := true, laidKinds := [.data, .pinned], laidTests := true, laidLooks := .later }
def NumsetCombinesUptoCardSaid : Prop := Claim7.holds Tryz.pinned (.plain (OpenSpec.upto numsetCombinesSpec)) numsetCombinesUptoCard

/-- THE SECOND FORM's CARD OF 'datakitlaw18.NumsetEquals'. -/
def numsetEqualsUptoCard : Claim7 := { stood := { row := numsetEqualsUptoRow, standIns := [], harness := (true, "591ac60a99574fa82afb24047849156a6549a035f153fe1540e7c5dee91fd8e2"), looks := false }, kinds := [], alts := [], laidByText := true, laidKinds := [.data, .pinned], laidTests := true, laidLooks := .later }
def NumsetEqualsUptoCardSaid : Prop := Claim7.holds Tryz.pinned (.plain (OpenSpec.upto numsetEqualsSpec)) numsetEqualsUptoCard

/-- THE SECOND FORM's CARD OF 'datakitlaw18.NumsetAlgebra'. -/
def numsetAlgebraUptoCard : Claim7 := { stood := { row := numsetAlgebraUptoRow, standIns := [], harness := (true, "591ac60a99574fa82afb24047849156a6549a035f153fe1540e7c5dee91fd8e2"), looks := false }, kinds := [], alts := [], laidByText := true, laidKinds := [.data, .pinned], laidTests := true, laidLooks := .later }
def NumsetAlgebraUptoCardSaid : Prop := Claim7.holds Tryz.pinned (.plain (OpenSpec.upto numsetAlgebraSpec)) numsetAlgebraUptoCard
end Rows
end Go.Proofs.YtnifalngeimpnaaGreatDoor
