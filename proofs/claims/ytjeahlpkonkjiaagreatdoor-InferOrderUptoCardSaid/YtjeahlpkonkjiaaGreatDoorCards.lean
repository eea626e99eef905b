/-
  DERIVED. GIVEN WITH THE SEED: THE CARDS: each row of YtjeahlpkonkjiaaGreatDoorRows.lean that lists a variable, with what it lists TIED to the program's text (the seventh form; the later family's looks); each row that meets fmt, with fmt's text TOLD by the authors' own Lean function (tested against real Go, not proved from fmt's source: count such statements apart). THE CARD IS WHAT COUNTS. Prove the row's statement (the work); the ties are given (YtjeahlpkonkjiaaGreatDoorTie.lean); close each card by the builder's one call (the guide's Derived/Test/ToyasCard.lean, 'card_holds'). Laid BY PROGRAM, IN A SANDBOX (cutbox-door.mjs). By AI agents, Wed Nov 11 2026. No macro, syntax, notation, axiom, sorry.
-/
import Derived.Test.YtjeahlpkonkjiaaGreatDoorRows
import GoSem.ClaimSeven
namespace Go.Proofs.YtjeahlpkonkjiaaGreatDoor
namespace Rows

/-- THE TIED CARD OF 'datakitlaw52.InferJoins'. -/
def inferJoinsCard : Claim7 := { stood := { row := inferJoinsRow, standIns := [], harness := (true, "bcecda6764c26b012ebd5601cff28cd948f180112f4a30567884ae59051a128a"), looks := false }, kinds := [], alts := [], laidByText := true, laidKinds := [.data, .pinned], laidTests := true, laidLooks := .later }
def InferJoinsCardSaid : Prop := Claim7.holds Tryz.pinned (.plain (OpenSpec.ofChange inferJoinsSpec)) inferJoinsCard

/-- THE TIED CARD OF 'datakitlaw52.InferFamilies'. -/
def inferFamiliesCard : Claim7 := { stood := { row := inferFamiliesRow, standIns := [], harness := (true, "bcecda6764c26b012ebd5601cff28cd948f180112f4a30567884ae59051a128a"), looks := false }, kinds := [], alts := [], laidByText := true, laidKinds := [.data, .pinned], laidTests := true, laidLooks := .later }
def InferFamiliesCardSaid : Prop := Claim7.holds Tryz.pinned (.plain (OpenSpec.ofChange inferFamiliesSpec)) inferFamiliesCard

/-- THE TIED CARD OF 'datakitlaw52.InferOrder'. -/
def inferOrderCard : Claim7 := { stood := { row := inferOrderRow, standIns := [], harness := (true, "bcecda6764c26b012ebd5601cff28cd948f180112f4a30567884ae59051a128a"), looks := false }, kinds := [], alts := [], laidByText := true, laidKinds := [.data, .pinned], laidTests := true, laidLooks := .later }
def InferOrderCardSaid : Prop := Claim7.holds Tryz.pinned (.plain (OpenSpec.ofChange inferOrderSpec)) inferOrderCard

/-- THE SECOND FORM's CARD OF 'datakitlaw52.InferJoins'. -/
def inferJoinsUptoCard : Claim7 := { stood := { row := inferJoinsUptoRow, standIns := [], harness := (true, "bcecda6764c26b012ebd5601cff28cd948f180112f4a30567884ae59051a128a"), looks := false }, kinds := [], alts := [], laidByText := true, laidKinds := [.data, .pinned], laidTests := true, laidLooks := .later }
def InferJoinsUptoCardSaid : Prop := Claim7.holds Tryz.pinned (.plain (OpenSpec.upto inferJoinsSpec)) inferJoinsUptoCard

/-- THE SECOND FORM's CARD OF 'datakitlaw52.InferFamilies'. -/
def inferFamiliesUptoCard : Claim7 := { stood := { row := inferFamiliesUptoRow, standIns := [], harness := (true, "bcecda6764c26b012ebd5601cff28cd948f180112f4a30567884ae59051a128a"), looks := false }, kinds := [], alts := [], laidByText := true, laidKinds := [.data, .pinned], laidTests := true, laidLooks := .later }
def InferFamiliesUptoCardSaid : Prop := Claim7.holds Tryz.pinned (.plain (OpenSpec.upto inferFamiliesSpec)) inferFamiliesUptoCard

/-- THE SECOND FORM's CARD OF 'datakitlaw52.InferOrder'. -/
def inferOrderUptoCard : Claim7 := { stood := { row := inferOrderUptoRow, standIns := [], harness := (true, "bcecda6764c26b012ebd5601cff28cd948f180112f4a30567884ae59051a128a"), looks := false }, kinds := [], alts := [], laidByText := true, laidKinds := [.data, .pinned], laidTests := true, laidLooks := .later }
def InferOrderUptoCardSaid : Prop := Claim7.holds Tryz.pinned (.plain (OpenSpec.upto inferOrderSpec)) inferOrderUptoCard
end Rows
end Go.Proofs.YtjeahlpkonkjiaaGreatDoor
