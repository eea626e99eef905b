/-
  DERIVED. GIVEN WITH THE SEED: THE CARDS: each row of YtglenpfcanlbgaaGreatDoorRows.lean that lists a variable, with what it lists TIED to the program's text (the seventh form; the later family's looks); each row that meets fmt, with fmt's text TOLD by the authors' own Lean function (tested against real Go, not proved from fmt's source: count such statements apart). THE CARD IS WHAT COUNTS. Prove the row's statement (the work); the ties are given (YtglenpfcanlbgaaGreatDoorTie.lean); close each card by the builder's one call (the guide's Derived/Test/ToyasCard.lean, 'card_holds'). Laid BY PROGRAM, IN A SANDBOX (cutbox-door.mjs). By AI agents, Wed Nov 11 2026. No macro, syntax, notation, axiom, sorry.
-/
import Derived.Test.YtglenpfcanlbgaaGreatDoorRows
import GoSem.ClaimSeven
namespace Go.Proofs.YtglenpfcanlbgaaGreatDoor
namespace Rows

/-- THE TIED CARD OF 'datakitlaw50.NormPushes'. -/
def normPushesCard : Claim7 := { stood := { row := normPushesRow, standIns := [], harness := (true, "f686eb8895437db13bf3222a27a1362386999ee02b6f010448817488457d30c9"), looks := false }, kinds := [], alts := [], laidByText := true, laidKinds := [.data, .pinned], laidTests := true, laidLooks := .later }
def NormPushesCardSaid : Prop := Claim7.holds Tryz.pinned (.plain (OpenSpec.ofChange normPushesSpec)) normPushesCard

/-- THE TIED CARD OF 'datakitlaw50.NormUnfolds'. -/
def normUnfoldsCard : Claim7 := { stood := { row := normUnfoldsRow, standIns := [], harness := (true, "f686eb8895437db13bf3222a27a1362386999ee02b6f010448817488457d30c9"), looks := false }, kinds := [], alts := [], laidByText := true, laidKinds := [.data, .pinned], laidTests := true, laidLooks := .later }
def NormUnfoldsCardSaid : Prop := Claim7.holds Tryz.pinned (.plain (OpenSpec.ofChange normUnfoldsSpec)) normUnfoldsCard

/-- THE SECOND FORM's CARD OF 'datakitlaw50.NormPushes'. -/
def normPushesUptoCard : Claim7 := { stood := { row := normPushesUptoRow, standIns := [], harness := (true, "f686eb8895437db13bf3222a27a1362386999ee02b6f010448817488457d30c9"), looks := false }, kinds := [], alts := [], laidByText := true, laidKinds := [.data, .pinned], laidTests := true, laidLooks := .later }
def NormPushesUptoCardSaid : Prop := Claim7.holds Tryz.pinned (.plain (OpenSpec.upto normPushesSpec)) normPushesUptoCard

/-- THE SECOND FORM's CARD OF 'datakitlaw50.NormUnfolds'. -/
def normUnfoldsUptoCard : Claim7 := { stood := { row := normUnfoldsUptoRow, standIns := [], harness := (true, "f686eb8895437db13bf3222a27a1362386999ee02b6f010448817488457d30c9"), looks := false }, kinds := [], alts := [], laidByText := true, laidKinds := [.data, .pinned], laidTests := true, laidLooks := .later }
def NormUnfoldsUptoCardSaid : Prop := Claim7.holds Tryz.pinned (.plain (OpenSpec.upto normUnfoldsSpec)) normUnfoldsUptoCard
end Rows
end Go.Proofs.YtglenpfcanlbgaaGreatDoor
