/-
  DERIVED. GIVEN WITH THE SEED: THE CARDS: each row of YtajfhbpnjcdpeaaDoorRows.lean that lists a variable, with what it lists TIED to the program's text (the seventh form; the later family's looks); each row that meets fmt, with fmt's text TOLD by the authors' own Lean function (tested against real Go, not proved from fmt's source: count such statements apart). THE CARD IS WHAT COUNTS. Prove the row's statement (the work); the ties are given (YtajfhbpnjcdpeaaDoorTie.lean); close each card by the builder's one call (the guide's Derived/Test/ToyasCard.lean, 'card_holds'). Laid BY PROGRAM, IN A SANDBOX (cutbox-door.mjs). By AI agents, Wed Nov 11 2026. No macro, syntax, notation, axiom, sorry.
-/
import Derived.Test.YtajfhbpnjcdpeaaDoorRows
import GoSem.ClaimSeven
namespace Go.Proofs.YtajfhbpnjcdpeaaDoor
namespace Rows

/-- THE TIED CARD OF 'datakitlaw39.QpathBack'. -/
def qpathBackCard : Claim7 := { stood := { row := qpathBackRow, standIns := [], harness := (true, "b34f5b2d2427bc83f59d611452948bd281d201e9dd60e34d6ccf80844a74be55"), looks := false }, kinds := [], alts := [], laidByText := true, laidKinds := [.data, .pinned], laidTests := true, laidLooks := .later }
def QpathBackCardSaid : Prop := Claim7.holds Tryd.pinned (.plain (OpenSpec.ofChange qpathBackSpec)) qpathBackCard

/-- THE TIED CARD OF 'datakitlaw39.QpathPuts'. -/
def qpathPutsCard : Claim7 := { stood := { row := qpathPutsRow, standIns := [], harness := (true, "b34f5b2d2427bc83f59d611452948bd281d201e9dd60e34d6ccf80844a74be55"), looks := false }, kinds := [], alts := [], laidByText := true, laidKinds := [.data, .pinned], laidTests := true, laidLooks := .later }
def QpathPutsCardSaid : Prop := Claim7.holds Tryd.pinned (.plain (OpenSpec.ofChange qpathPutsSpec)) qpathPutsCard

/-- THE TIED CARD OF 'datakitlaw39.QpathFar'. -/
def qpathFarCard : Claim7 := { stood := { row := qpathFarRow, standIns := [], harness := (true, "b34f5b2d2427bc83f59d611452948bd281d201e9dd60e34d6ccf80844a74be55"), looks := false }, kinds := [], alts := [], laidByText := true, laidKinds := [.data, .pinned], laidTests := true, laidLooks := .later }
def QpathFarCardSaid : Prop := Claim7.holds Tryd.pinned (.plain (OpenSpec.ofChange qpathFarSpec)) qpathFarCard

/-- THE TIED CARD OF 'datakitlaw39.QpathPutGet'. -/
def qpathPutGetCard : Claim7 := { stood := { row := qpathPutGetRow, standIns := [], harness := (true, "b34f5b2d2427bc83f59d611452948bd281d201e9dd60e34d6ccf80844a74be55"), looks := false }, kinds := [], alts := [], laidByText := true, laidKinds := [.data, .pinned], laidTests := true, laidLooks := .later }
def QpathPutGetCardSaid : Prop := Claim7.holds Tryd.pinned (.plain (OpenSpec.ofChange qpathPutGetSpec)) qpathPutGetCard

/-- THE SECOND FORM's CARD OF 'datakitlaw39.QpathBack'. -/
def qpathBackUptoCard : Claim7 := { stood := { row := qpathBackUptoRow, standIns := [], harness := (true, "b34f5b2d2427bc83f59d611452948bd281d201e9dd60e34d6ccf80844a74be55"), looks := false }, kinds := [], alts := [], laidByText := true, laidKinds := [.data, .pinned], laidTests := true, laidLooks := .later }
def QpathBackUptoCardSaid : Prop := Claim7.holds Tryd.pinned (.plain (OpenSpec.upto qpathBackSpec)) qpathBackUptoCard

/-- THE SECOND FORM's CARD OF 'datakitlaw39.QpathPuts'. -/
def qpathPutsUptoCard : Claim7 := { stood := { row := qpathPutsUptoRow, standIns := [], harness := (true, "b34f5b2d2427bc83f59d611452948bd281d201e9dd60e34d6ccf80844a74be55"), looks := false }, kinds := [], alts := [], laidByText := true, laidKinds := [.data, .pinned], laidTests := true, laidLooks := .later }
def QpathPutsUptoCardSaid : Prop := Claim7.holds Tryd.pinned (.plain (OpenSpec.upto qpathPutsSpec)) qpathPutsUptoCard

/-- THE SECOND FORM's CARD OF 'datakitlaw39.QpathFar'. -/
def qpathFarUptoCard : Claim7 := { stood := { row := qpathFarUptoRow, standIns := [], harness := (true, "b34f5b2d2427bc83f59d611452948bd281d201e9dd60e34d6ccf80844a74be55"), looks := false }, kinds := [], alts := [], laidByText := true, laidKinds := [.data, .pinned], laidTests := true, laidLooks := .later }
def QpathFarUptoCardSaid : Prop := Claim7.holds Tryd.pinned (.plain (OpenSpec.upto qpathFarSpec)) qpathFarUptoCard

/-- THE SECOND FORM's CARD OF 'datakitlaw39.QpathPutGet'. -/
def qpathPutGetUptoCard : Claim7 := { stood := { row := qpathPutGetUptoRow, standIns := [], harness := (true, "b34f5b2d2427bc83f59d611452948bd281d201e9dd60e34d6ccf80844a74be55"), looks := false }, kinds := [], alts := [], laidByText := true, laidKinds := [.data, .pinned], laidTests := true, laidLooks := .later }
def QpathPutGetUptoCardSaid : Prop := Claim7.holds Tryd.pinned (.plain (OpenSpec.upto qpathPutGetSpec)) qpathPutGetUptoCard
end Rows
end Go.Proofs.YtajfhbpnjcdpeaaDoor
