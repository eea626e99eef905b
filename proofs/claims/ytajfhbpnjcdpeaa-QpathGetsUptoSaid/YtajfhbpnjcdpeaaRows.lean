/-
  NARROWER THAN 'FOR EVERY INPUT', by the rows' own cells (each row's printed sentence says how): QpathSteps: loops · QpathGets: loops · QpathDeletes: loops.
  DERIVED. THE GIVEN ROWS OF THIS SEAT. 3 by the template 'for every input the law returns true; each argument reads behind the call as it read before'; 0 by the template 'total and deterministic' (their statements: YtajfhbpnjcdpeaaTotals.lean).
  GIVEN WITH THE SEED: the statements are not yours to turn. If you find one false, say at which input.
  Laid BY PROGRAM, IN A SANDBOX (cutbox-rows.mjs): the forced cells as the released guide's own fill.sh prints them over the translation f46e213696fe445e… (all of the seat's roots in one cut). By AI agents, Wed Nov 11 2026. No macro, syntax, notation, axiom, sorry.
-/
import Derived.Test.YtajfhbpnjcdpeaaChecked
import GoSem.Claim
import GoSem.ClaimJoined
import GoSem.ClaimMapViews
import Derived.JoinedTies
import Derived.KernelRfl
namespace Go.Proofs.Ytajfhbpnjcdpeaa
/- THE CELL 'sum', in the pinned program and in every row, IS THE sha256 OF THE DUMP (.gsa) THAT YtajfhbpnjcdpeaaProg.lean LOADS. Nothing in Lean hashes anything: it is a label: what it is worth is what the hold of that sum in a sandbox is worth. -/
noncomputable def Try.pinned : Pinned := { name := "ytajfhbpnjcdpeaa", sum := "f46e213696fe445ef30db7b829be78a744e8e8e18f9fc94849384d6951606b6e", checked := Try.checked }
namespace Rows
def none {H : Type} : Left H := { results := [], args := [] }

/-- 'datakitlaw39.QpathSteps': WHATEVER THE INPUT: true; the input reads as it did. -/
def qpathStepsSpec : ChangeSpec := { name := "qpathSteps", fn := fun _ => fun
  | [d] => { results := [.lit (.bool true)], args := [d] }
  | _ => none }
def qpathStepsRow : OpenClaim := { program := "ytajfhbpnjcdpeaa", sum := "f46e213696fe445ef30db7b829be78a744e8e8e18f9fc94849384d6951606b6e", func := "datakit/datakitlaw39.QpathSteps", spec := "qpathSteps", recurses := true, loops := true, apart := false }
def QpathStepsSaid : Prop := qpathStepsRow.holds Try.pinned (OpenSpec.ofChange qpathStepsSpec)

/-- ITS FALSE NEIGHBOUR: 'it returns false'. Refute it at one input. -/
def qpathStepsWrong : ChangeSpec := { name := "qpathSteps", fn := fun _ => fun
  | [d] => { results := [.lit (.bool false)], args := [d] }
  | _ => none }
def QpathStepsWrongFalsely : Prop := qpathStepsRow.holds Try.pinned (OpenSpec.ofChange qpathStepsWrong)

/-- 'datakitlaw39.QpathGets': WHATEVER THE INPUT: true; the input reads as it did. -/
def qpathGetsSpec : ChangeSpec := { name := "qpathGets", fn := fun _ => fun
  | [d1, d2] => { results := [.lit (.bool true)], args := [d1, d2] }
  | _ => none }
def qpathGetsRow : OpenClaim := { program := "ytajfhbpnjcdpeaa", sum := "f46e213696fe445ef30db7b829be78a744e8e8e18f9fc94849384d6951606b6e", func := "datakit/datakitlaw39.QpathGets", spec := "qpathGets", recurses := true, loops := true, apart := false }
def QpathGetsSaid : Prop := qpathGetsRow.holds Try.pinned (OpenSpec.ofChange qpathGetsSpec)

/-- ITS FALSE NEIGHBOUR: 'it returns false'. Refute it at one input. -/
def qpathGetsWrong : ChangeSpec := { name := "qpathGets", fn := fun _ => fun
  | [d1, d2] => { results := [.lit (.bool false)], args := [d1, d2] }
  | _ => none }
def QpathGetsWrongFalsely : Prop := qpathGetsRow.holds Try.pinned (OpenSpec.ofChange qpathGetsWrong)

/-- 'datakitlaw39.QpathDeletes': WHATEVER THE INPUT: true; the input reads as it did. -/
def qpathDeletesSpec : ChangeSpec := { name := "qpathDeletes", fn := fun _ => fun
  | [d1, d2] => { results := [.lit (.bool true)], args := [d1, d2] }
  | _ => none }
def qpathDeletesRow : OpenClaim := { program := "ytajfhbpnjcdpeaa", sum := "f46e213696fe445ef30db7b829be78a744e8e8e18f9fc94849384d6951606b6e", func := "datakit/datakitlaw39.QpathDeletes", spec := "qpathDeletes", unfollowed := true, recurses := true, loops := true, apart := false }
def QpathDeletesSaid : Prop := qpathDeletesRow.holds Try.pinned (OpenSpec.ofChange qpathDeletesSpec)

/-- ITS FALSE NEIGHBOUR: 'it returns false'. Refute it at one input. -/
def qpathDeletesWrong : ChangeSpec := { name := "qpathDeletes", fn := fun _ => fun
  | [d1, d2] => { results := [.lit (.bool false)], args := [d1, d2] }
  | _ => none }
def QpathDeletesWrongFalsely : Prop := qpathDeletesRow.holds Try.pinned (OpenSpec.ofChange qpathDeletesWrong)

/- THE SECOND FORM. 'bulk': how many values and letters a reading holds, each counted each time it is reached (what is shared counts as often as it is met; a slice's spare places count too). A statement '..UptoSaid' is the law's where the arguments, and the package variables that the reading takes, are together of bulk at most 1048576: NARROWER than '..Said'. Prove '..Said' where nothing that the law and all that it calls make is longer than what came in: it says more and counts as full. Else prove '..UptoSaid'. A law counts once. -/
mutual
def uptoBulk {H : Type} : DataW H → Nat
  | .lit (.string bytes) => bytes.length + 1
  | .lit _ => 1
  | .nil => 1
  | .ptr d => uptoBulk d + 1
  | .slice elems spare => uptoBulkAll elems + uptoBulkAll spare + 1
  | .agg parts => uptoBulkAll parts + 1
  | .iface _ d => uptoBulk d + 1
  | .map entries => uptoBulkEntries entries + 1
  | .held _ => 1
def uptoBulkAll {H : Type} : List (DataW H) → Nat
  | [] => 0
  | d :: r => uptoBulk d + uptoBulkAll r
def uptoBulkEntries {H : Type} : List (Lit × DataW H) → Nat
  | [] => 0
  | x :: r => uptoBulkEntry x + uptoBulkEntries r
def uptoBulkEntry {H : Type} : Lit × DataW H → Nat
  | (.string bytes, d) => bytes.length + uptoBulk d + 1
  | (_, d) => uptoBulk d + 1
 end
def uptoSmall : (H : Type) → List (DataW H) → Bool := fun _ ds => decide (uptoBulkAll ds ≤ 1048576)
def OpenSpec.upto (s : _root_.Go.ChangeSpec) : _root_.Go.OpenSpec := { _root_.Go.OpenSpec.ofChange s with cond := some uptoSmall }

/-- 'datakitlaw39.QpathSteps', WHERE WHAT IT READS IS OF BULK AT MOST 1048576: true; the input reads as it did. -/
def qpathStepsUptoRow : OpenClaim := { program := "ytajfhbpnjcdpeaa", sum := "f46e213696fe445ef30db7b829be78a744e8e8e18f9fc94849384d6951606b6e", func := "datakit/datakitlaw39.QpathSteps", spec := "qpathSteps", recurses := true, loops := true, apart := false, narrowed := true }
def QpathStepsUptoSaid : Prop := qpathStepsUptoRow.holds Try.pinned (OpenSpec.upto qpathStepsSpec)

/-- 'datakitlaw39.QpathGets', WHERE WHAT IT READS IS OF BULK AT MOST 1048576: true; the input reads as it did. -/
def qpathGetsUptoRow : OpenClaim := { program := "ytajfhbpnjcdpeaa", sum := "f46e213696fe445ef30db7b829be78a744e8e8e18f9fc94849384d6951606b6e", func := "datakit/datakitlaw39.QpathGets", spec := "qpathGets", recurses := true, loops := true, apart := false, narrowed := true }
def QpathGetsUptoSaid : Prop := qpathGetsUptoRow.holds Try.pinned (OpenSpec.upto qpathGetsSpec)

/-- 'datakitlaw39.QpathDeletes', WHERE WHAT IT READS IS OF BULK AT MOST 1048576: true; the input reads as it did. -/
def qpathDeletesUptoRow : OpenClaim := { program := "ytajfhbpnjcdpeaa", sum := "f46e213696fe445ef30db7b829be78a744e8e8e18f9fc94849384d6951606b6e", func := "datakit/datakitlaw39.QpathDeletes", spec := "qpathDeletes", unfollowed := true, recurses := true, loops := true, apart := false, narrowed := true }
def QpathDeletesUptoSaid : Prop := qpathDeletesUptoRow.holds Try.pinned (OpenSpec.upto qpathDeletesSpec)

end Rows
end Go.Proofs.Ytajfhbpnjcdpeaa
