/-
  DERIVED. GIVEN WITH THE SEED: THE CARDS: each row of YtfnplmbkabdgoaaGreatDoorRows.lean that lists a variable, with what it lists TIED to the program's text (the seventh form; the later family's looks); each row that meets fmt, with fmt's text TOLD by the authors' own Lean function (tested against real Go, not proved from fmt's source: count such statements apart). THE CARD IS WHAT COUNTS. Prove the row's statement (the work); the ties are given (YtfnplmbkabdgoaaGreatDoorTie.lean); close each card by the builder's one call (the guide's Derived/Test/ToyasCard.lean, 'card_holds'). Laid BY PROGRAM, IN A SANDBOX (cutbox-door.mjs). By AI agents, Wed Nov 11 2026. No macro, syntax, notation, axiom, sorry.
-/
import Derived.Test.YtfnplmbkabdgoaaGreatDoorRows
import GoSem.ClaimSeven
namespace Go.Proofs.YtfnplmbkabdgoaaGreatDoor
namespace Rows

/-- THE TIED CARD OF 'datakitlaw18.NumsetHas'. -/
def numsetHasCard : Claim7 := { stood := { row := numsetHasRow, standIns := [], harness := (true, "4acf1a0e69aec2bdd59b7d193812fc456c2fb178eb0e5effea2bd3c416ee462b"), looks := false }, kinds := [], alts := [], laidByText := true, laidKinds := [.data, .pinned], laidTests := true, laidLooks := .later }
def NumsetHasCardSaid : Prop := Claim7.holds Tryz.pinned (.plain (OpenSpec.ofChange numsetHasSpec)) numsetHasCard

/-- THE TIED CARD OF 'datakitlaw18.NumsetNots'. -/
def numsetNotsCard : Claim7 := { stood := { row := numsetNotsRow, standIns := [], harness := (true, "4acf1a0e69aec2bdd59b7d193812fc456c2fb178eb0e5effea2bd3c416ee462b"), looks := false }, kinds := [], alts := [], laidByText := true, laidKinds := [.data, .pinned], laidTests := true, laidLooks := .later }
def NumsetNotsCardSaid : Prop := Claim7.holds Tryz.pinned (.plain (OpenSpec.ofChange numsetNotsSpec)) numsetNotsCard

/-- THE TIED CARD OF 'datakitlaw18.NumsetCombines'. -/
def numsetCombinesCard : Claim7 := { stood := { row := numsetCombinesRow, standIns := [], harness := (true, "4acf1a0e69aec2bdd59b7d193812fc456c2fb178eb0e5effea2bd3c416ee462b"), looks := false }, kinds := [], alts := [], laidByText := true, laidKinds := [.data, .pinned], laidTests := true, laidLooks := .later }
def NumsetCombinesCardSaid : Prop := Claim7.holds Tryz.pinned (.plain (OpenSpec.ofChange numsetCombinesSpec)) numsetCombinesCard

/-- THE TIED CARD OF 'datakitlaw18.NumsetMakes'. -/
def numsetMakesCard : Claim7 := { stood := { row := numsetMakesRow, standIns := [], harness := (true, "4acf1a0e69aec2bdd59b7d193812fc456c2fb178eb0e5effea2bd3c416ee462b"), looks := false }, kinds := [], alts := [], laidByText := true, laidKinds := [.data, .pinned], laidTests := true, laidLooks := .later }
def NumsetMakesCardSaid : Prop := Claim7.holds Tryz.pinned (.plain (OpenSpec.ofChange numsetMakesSpec)) numsetMakesCard

/-- THE SECOND FORM's CARD OF 'datakitlaw18.NumsetHas'. -/
def numsetHasUptoCard : Claim7 := { stood := { row := numsetHasUptoRow, standIns := [], harness := (true, "4acf1a0e69aec2bdd59b7d193812fc456c2fb178eb0e5effea2bd3c416ee462b"), looks := false }, kinds := [], alts := [], laidByText := true, laidKinds := [.data, .pinned], laidTests := true, laidLooks := .later }
def NumsetHasUptoCardSaid : Prop := Claim7.holds Tryz.pinned (.plain (OpenSpec.upto numsetHasSpec)) numsetHasUptoCard

/-- THE SECOND FORM's CARD OF 'datakitlaw18.NumsetNots'. -/
def numsetNotsUptoCard : Claim7 := { stood := { row := numsetNotsUptoRow, standIns := [], harness := (true, "4acf1a0e69aec2bdd59b7d193812fc456c2fb178eb0e5effea2bd3c416ee462b"), looks := false }, kinds := [], alts := [], laidByText := true, laidKinds := [.data, .pinned], laidTests := true, laidLooks := .later }
def NumsetNotsUptoCardSaid : Prop := Claim7.holds Tryz.pinned (.plain (OpenSpec.upto numsetNotsSpec)) numsetNotsUptoCard

/-- THE SECOND FORM's CARD OF 'datakitlaw18.NumsetCombines'. -/
def numsetCombinesUptoCard : Claim7 := { stood := { row := numsetCombinesUptoRow, standIns := [], harness := (true, "4acf1a0e69aec2bdd59b7d193812fc456c2fb178eb0e5effea2bd3c416ee462b"), looks := false }, kinds := [], alts := [], laidByText := true, laidKinds := [.data, .pinned], laidTests := true, laidLooks := .later }
def NumsetCombinesUptoCardSaid : Prop := Claim7.holds Tryz.pinned (.plain (OpenSpec.upto numsetCombinesSpec)) numsetCombinesUptoCard

/-- THE SECOND FORM's CARD OF 'datakitlaw18.NumsetMakes'. -/
def numsetMakesUptoCard : Claim7 := { stood := { row := numsetMakesUptoRow, standIns := [], harness := (true, "4acf1a0e69aec2bdd59b7d193812fc456c2fb178eb0e5effea2bd3c416ee462b"), looks := false }, kinds := [], alts := [], laidByText := true, laidKinds := [.data, .pinned], laidTests := true, laidLooks := .later }
def NumsetMakesUptoCardSaid : Prop := Claim7.holds Tryz.pinned (.plain (OpenSpec.upto numsetMakesSpec)) numsetMakesUptoCard
end Rows
end Go.Proofs.YtfnplmbkabdgoaaGreatDoor
