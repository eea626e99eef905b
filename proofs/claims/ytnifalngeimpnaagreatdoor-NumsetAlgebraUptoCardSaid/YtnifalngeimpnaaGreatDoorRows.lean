/-
  NARROWER THAN 'FOR EVERY INPUT', by the rows' own cells (each row's printed sentence says how): NumsetNots: laid · NumsetEmpties: laid · NumsetCombines: laid · NumsetEquals: laid · NumsetAlgebra: laid.
  DERIVED. THE GIVEN ROWS OF THIS SEAT. 5 by the template 'for every input the law returns true; each argument reads behind the call as it read before'; 0 by the template 'total and deterministic' (their statements: YtnifalngeimpnaaGreatDoorTotals.lean).
  GIVEN WITH THE SEED: the statements are not yours to turn. If you find one false, say at which input.
  Laid BY PROGRAM, IN A SANDBOX (cutbox-rows.mjs): the forced cells as the released guide's own fill.sh prints them over the translation 51289a1a7efcc5cf… (all of the seat's roots in one cut). By AI agents, Wed Nov 11 2026. No macro, syntax, notation, axiom, sorry.
-/
import Derived.Test.YtnifalngeimpnaaGreatDoorChecked
import GoSem.PinnedTables
import GoSem.Claim
import GoSem.ClaimJoined
import GoSem.ClaimMapViews
import Derived.JoinedTies
import Derived.KernelRfl
namespace Go.Proofs.YtnifalngeimpnaaGreatDoor
/- THE CELL 'sum', in the pinned program and in every row, IS THE sha256 OF THE DUMP (.gsa) THAT YtnifalngeimpnaaGreatDoorProg.lean LOADS. Nothing in Lean hashes anything: it is a label: what it is worth is what the hold of that sum in a sandbox is worth. -/
noncomputable def Tryz.pinned : Pinned := { name := "ytnifalngeimpnaagreatdoor", sum := "51289a1a7efcc5cf864770933902c6f7c2ef09444dd3db7b76d42c55062722b4", checked := Tryz.checked }
namespace Rows
def none {H : Type} : Left H := { results := [], args := [] }

/- WHAT THE LISTED PACKAGE-LEVEL VARIABLES READ AS WHEN THE CALL BEGINS. Each datum BY PROGRAM (the guide's laid-datum.mjs) off the statement by which the dump's own 'gosem.cut.vars' lays the variable. In a bare row this is a premise. The card (YtnifalngeimpnaaGreatDoorCards.lean) ties it to the program's text. -/
def laid_unicode_utf8_acceptRanges {H : Type} : DataW H := .agg [.agg [.lit (.int .u8 128), .lit (.int .u8 191)], .agg [.lit (.int .u8 160), .lit (.int .u8 191)], .agg [.lit (.int .u8 128), .lit (.int .u8 159)], .agg [.lit (.int .u8 144), .lit (.int .u8 191)], .agg [.lit (.int .u8 128), .lit (.int .u8 143)], .agg [.lit (.int .u8 0), .lit (.int .u8 0)], .agg [.lit (.int .u8 0), .lit (.int .u8 0)], .agg [.lit (.int .u8 0), .lit (.int .u8 0)], .agg [.lit (.int .u8 0), .lit (.int .u8 0)], .agg [.lit (.int .u8 0), .lit (.int .u8 0)], .agg [.lit (.int .u8 0), .lit (.int .u8 0)], .agg [.lit (.int .u8 0), .lit (.int .u8 0)], .agg [.lit (.int .u8 0), .lit (.int .u8 0)], .agg [.lit (.int .u8 0), .lit (.int .u8 0)], .agg [.lit (.int .u8 0), .lit (.int .u8 0)], .agg [.lit (.int .u8 0), .lit (.int .u8 0)]]
/-- One of Go's own tables, pinned by name: the form's constant. -/
def laid_unicode_utf8_first : DataW Unit := Go.Pinned.utf8First

/-- 'datakitlaw18.NumsetNots': WHATEVER THE INPUT: true; the input reads as it did. -/
def numsetNotsSpec : ChangeSpec := { name := "numsetNots", fn := fun _ => fun
  | [d1, d2] => { results := [.lit (.bool true)], args := [d1, d2] }
  | _ => none }
def numsetNotsRow : OpenClaim := { program := "ytnifalngeimpnaagreatdoor", sum := "51289a1a7efcc5cf864770933902c6f7c2ef09444dd3db7b76d42c55062722b4", func := "datakit/datakitlaw18.NumsetNots", spec := "numsetNots", inPlace := ["internal/bytealg.IndexByteString", "internal/bytealg.IndexString", "internal/abi.NoEscape", "internal/bytealg.MakeNoZero", "internal/bytealg.abigen_runtime_cmpstring"], unfollowed := true, recurses := true, named := ["unicode/utf8.first", "unicode/utf8.acceptRanges", "internal/bytealg.MaxLen"], apart := false, laid := [("unicode/utf8.acceptRanges", laid_unicode_utf8_acceptRanges), ("unicode/utf8.first", laid_unicode_utf8_first)] }
def NumsetNotsSaid : Prop := numsetNotsRow.holds Tryz.pinned (OpenSpec.ofChange numsetNotsSpec)

/-- ITS FALSE NEIGHBOUR: 'it returns false'. Refute it at one input. -/
def numsetNotsWrong : ChangeSpec := { name := "numsetNots", fn := fun _ => fun
  | [d1, d2] => { results := [.lit (.bool false)], args := [d1, d2] }
  | _ => none }
def NumsetNotsWrongFalsely : Prop := numsetNotsRow.holds Tryz.pinned (OpenSpec.ofChange numsetNotsWrong)

/-- 'datakitlaw18.NumsetEmpties': WHATEVER THE INPUT: true; the input reads as it did. -/
def numsetEmptiesSpec : ChangeSpec := { name := "numsetEmpties", fn := fun _ => fun
  | [d1, d2] => { results := [.lit (.bool true)], args := [d1, d2] }
  | _ => none }
def numsetEmptiesRow : OpenClaim := { program := "ytnifalngeimpnaagreatdoor", sum := "51289a1a7efcc5cf864770933902c6f7c2ef09444dd3db7b76d42c55062722b4", func := "datakit/datakitlaw18.NumsetEmpties", spec := "numsetEmpties", inPlace := ["internal/bytealg.IndexByteString", "internal/bytealg.IndexString", "internal/abi.NoEscape", "internal/bytealg.MakeNoZero", "internal/bytealg.abigen_runtime_cmpstring"], unfollowed := true, recurses := true, named := ["unicode/utf8.first", "unicode/utf8.acceptRanges", "internal/bytealg.MaxLen"], apart := false, laid := [("unicode/utf8.acceptRanges", laid_unicode_utf8_acceptRanges), ("unicode/utf8.first", laid_unicode_utf8_first)] }
def NumsetEmptiesSaid : Prop := numsetEmptiesRow.holds Tryz.pinned (OpenSpec.ofChange numsetEmptiesSpec)

/-- ITS FALSE NEIGHBOUR: 'it returns false'. Refute it at one input. -/
def numsetEmptiesWrong : ChangeSpec := { name := "numsetEmpties", fn := fun _ => fun
  | [d1, d2] => { results := [.lit (.bool false)], args := [d1, d2] }
  | _ => none }
def NumsetEmptiesWrongFalsely : Prop := numsetEmptiesRow.holds Tryz.pinned (OpenSpec.ofChange numsetEmptiesWrong)

/-- 'datakitlaw18.NumsetCombines': WHATEVER THE INPUT: true; the input reads as it did. -/
def numsetCombinesSpec : ChangeSpec := { name := "numsetCombines", fn := fun _ => fun
  | [d1, d2, d3] => { results := [.lit (.bool true)], args := [d1, d2, d3] }
  | _ => none }
def numsetCombinesRow : OpenClaim := { program := "ytnifalngeimpnaagreatdoor", sum := "51289a1a7efcc5cf864770933902c6f7c2ef09444dd3db7b76d42c55062722b4", func := "datakit/datakitlaw18.NumsetCombines", spec := "numsetCombines", inPlace := ["internal/bytealg.IndexByteString", "internal/bytealg.IndexString", "internal/abi.NoEscape", "internal/bytealg.MakeNoZero", "internal/bytealg.abigen_runtime_cmpstring"], unfollowed := true, recurses := true, named := ["unicode/utf8.first", "unicode/utf8.acceptRanges", "internal/bytealg.MaxLen"], apart := false, laid := [("unicode/utf8.acceptRanges", laid_unicode_utf8_acceptRanges), ("unicode/utf8.first", laid_unicode_utf8_first)] }
def NumsetCombinesSaid : Prop := numsetCombinesRow.holds Tryz.pinned (OpenSpec.ofChange numsetCombinesSpec)

/-- ITS FALSE NEIGHBOUR: 'it returns false'. Refute it at one input. -/
def numsetCombinesWrong : ChangeSpec := { name := "numsetCombines", fn := fun _ => fun
  | [d1, d2, d3] => { results := [.lit (.bool false)], args := [d1, d2, d3] }
  | _ => none }
def NumsetCombinesWrongFalsely : Prop := numsetCombinesRow.holds Tryz.pinned (OpenSpec.ofChange numsetCombinesWrong)

/-- 'datakitlaw18.NumsetEquals': WHATEVER THE INPUT: true; the input reads as it did. -/
def numsetEqualsSpec : ChangeSpec := { name := "numsetEquals", fn := fun _ => fun
  | [d1, d2, d3] => { results := [.lit (.bool true)], args := [d1, d2, d3] }
  | _ => none }
def numsetEqualsRow : OpenClaim := { program := "ytnifalngeimpnaagreatdoor", sum := "51289a1a7efcc5cf864770933902c6f7c2ef09444dd3db7b76d42c55062722b4", func := "datakit/datakitlaw18.NumsetEquals", spec := "numsetEquals", inPlace := ["internal/bytealg.IndexByteString", "internal/bytealg.IndexString", "internal/abi.NoEscape", "internal/bytealg.MakeNoZero", "internal/bytealg.abigen_runtime_cmpstring"], unfollowed := true, recurses := true, named := ["unicode/utf8.first", "unicode/utf8.acceptRanges", "internal/bytealg.MaxLen"], apart := false, laid := [("unicode/utf8.acceptRanges", laid_unicode_utf8_acceptRanges), ("unicode/utf8.first", laid_unicode_utf8_first)] }
def NumsetEqualsSaid : Prop := numsetEqualsRow.holds Tryz.pinned (OpenSpec.ofChange numsetEqualsSpec)

/-- ITS FALSE NEIGHBOUR: 'it returns false'. Refute it at one input. -/
def numsetEqualsWrong : ChangeSpec := { name := "numsetEquals", fn := fun _ => fun
  | [d1, d2, d3] => { results := [.lit (.bool false)], args := [d1, d2, d3] }
  | _ => none }
def NumsetEqualsWrongFalsely : Prop := numsetEqualsRow.holds Tryz.pinned (OpenSpec.ofChange numsetEqualsWrong)

/-- 'datakitlaw18.NumsetAlgebra': WHATEVER THE INPUT: true; the input reads as it did. -/
def numsetAlgebraSpec : ChangeSpec := { name := "numsetAlgebra", fn := fun _ => fun
  | [d1, d2] => { results := [.lit (.bool true)], args := [d1, d2] }
  | _ => none }
def numsetAlgebraRow : OpenClaim := { program := "ytnifalngeimpnaagreatdoor", sum := "51289a1a7efcc5cf864770933902c6f7c2ef09444dd3db7b76d42c55062722b4", func := "datakit/datakitlaw18.NumsetAlgebra", spec := "numsetAlgebra", inPlace := ["internal/bytealg.IndexByteString", "internal/bytealg.IndexString", "internal/abi.NoEscape", "internal/bytealg.MakeNoZero", "internal/bytealg.abigen_runtime_cmpstring"], unfollowed := true, recurses := true, named := ["unicode/utf8.first", "unicode/utf8.acceptRanges", "internal/bytealg.MaxLen"], apart := false, laid := [("unicode/utf8.acceptRanges", laid_unicode_utf8_acceptRanges), ("unicode/utf8.first", laid_unicode_utf8_first)] }
def NumsetAlgebraSaid : Prop := numsetAlgebraRow.holds Tryz.pinned (OpenSpec.ofChange numsetAlgebraSpec)

/-- ITS FALSE NEIGHBOUR: 'it returns false'. Refute it at one input. -/
def numsetAlgebraWrong : ChangeSpec := { name := "numsetAlgebra", fn := fun _ => fun
  | [d1, d2] => { results := [.lit (.bool false)], args := [d1, d2] }
  | _ => none }
def NumsetAlgebraWrongFalsely : Prop := numsetAlgebraRow.holds Tryz.pinned (OpenSpec.ofChange numsetAlgebraWrong)

/- THE SECOND FORM. 'bulk': how many values and letters a reading holds, each counted each time it is reached (what is shared counts as often as it is met; a slice's spare places count too). A statement '..UptoSaid' is the law's where the arguments, and the package variables that the reading takes, are together of bulk at most 1048576: NARROWER than '..Said'. Prove '..Said' where nothing that the law and all that it calls make is longer than what came in: it says more and counts as full. Else prove '..UptoSaid'. A law counts once. -/
mutual
def uptoBulk {H : Type} : DataW H → Nat
  | .lit (.string bytes) => bytes.length + 1
  | .lit _ => 1
  | .nil => 1
  | .ptr d => uptoBulk d + 1
  | .slice elems spare => uptoBulkAll elems + uptoBulkAll spare + 1
  | .agg parts => uptoBulkAll parts + 1
  | .iface _ d => uptoBulk d + 1
  | .map entries => uptoBulkEntries entries + 1
  | .held _ => 1
def uptoBulkAll {H : Type} : List (DataW H) → Nat
  | [] => 0
  | d :: r => uptoBulk d + uptoBulkAll r
def uptoBulkEntries {H : Type} : List (Lit × DataW H) → Nat
  | [] => 0
  | x :: r => uptoBulkEntry x + uptoBulkEntries r
def uptoBulkEntry {H : Type} : Lit × DataW H → Nat
  | (.string bytes, d) => bytes.length + uptoBulk d + 1
  | (_, d) => uptoBulk d + 1
 end
def uptoSmall : (H : Type) → List (DataW H) → Bool := fun _ ds => decide (uptoBulkAll ds ≤ 1048576)
def OpenSpec.upto (s : _root_.Go.ChangeSpec) : _root_.Go.OpenSpec := { _root_.Go.OpenSpec.ofChange s with cond := some uptoSmall }

/-- 'datakitlaw18.NumsetNots', WHERE WHAT IT READS IS OF BULK AT MOST 1048576: true; the input reads as it did. -/
def numsetNotsUptoRow : OpenClaim := { program := "ytnifalngeimpnaagreatdoor", sum := "51289a1a7efcc5cf864770933902c6f7c2ef09444dd3db7b76d42c55062722b4", func := "datakit/datakitlaw18.NumsetNots", spec := "numsetNots", inPlace := ["internal/bytealg.IndexByteString", "internal/bytealg.IndexString", "internal/abi.NoEscape", "internal/bytealg.MakeNoZero", "internal/bytealg.abigen_runtime_cmpstring"], unfollowed := true, recurses := true, named := ["unicode/utf8.first", "unicode/utf8.acceptRanges", "internal/bytealg.MaxLen"], apart := false, laid := [("unicode/utf8.acceptRanges", laid_unicode_utf8_acceptRanges), ("unicode/utf8.first", laid_unicode_utf8_first)], narrowed := true }
def NumsetNotsUptoSaid : Prop := numsetNotsUptoRow.holds Tryz.pinned (OpenSpec.upto numsetNotsSpec)

/-- 'datakitlaw18.NumsetEmpties', WHERE WHAT IT READS IS OF BULK AT MOST 1048576: true; the input reads as it did. -/
def numsetEmptiesUptoRow : OpenClaim := { program := "ytnifalngeimpnaagreatdoor", sum := "51289a1a7efcc5cf864770933902c6f7c2ef09444dd3db7b76d42c55062722b4", func := "datakit/datakitlaw18.NumsetEmpties", spec := "numsetEmpties", inPlace := ["internal/bytealg.IndexByteString", "internal/bytealg.IndexString", "internal/abi.NoEscape", "internal/bytealg.MakeNoZero", "internal/bytealg.abigen_runtime_cmpstring"], unfollowed := true, recurses := true, named := ["unicode/utf8.first", "unicode/utf8.acceptRanges", "internal/bytealg.MaxLen"], apart := false, laid := [("unicode/utf8.acceptRanges", laid_unicode_utf8_acceptRanges), ("unicode/utf8.first", laid_unicode_utf8_first)], narrowed := true }
def NumsetEmptiesUptoSaid : Prop := numsetEmptiesUptoRow.holds Tryz.pinned (OpenSpec.upto numsetEmptiesSpec)

/-- 'datakitlaw18.NumsetCombines', WHERE WHAT IT READS IS OF BULK AT MOST 1048576: true; the input reads as it did. -/
def numsetCombinesUptoRow : OpenClaim := { program := "ytnifalngeimpnaagreatdoor", sum := "51289a1a7efcc5cf864770933902c6f7c2ef09444dd3db7b76d42c55062722b4", func := "datakit/datakitlaw18.NumsetCombines", spec := "numsetCombines", inPlace := ["internal/bytealg.IndexByteString", "internal/bytealg.IndexString", "internal/abi.NoEscape", "internal/bytealg.MakeNoZero", "internal/bytealg.abigen_runtime_cmpstring"], unfollowed := true, recurses := true, named := ["unicode/utf8.first", "unicode/utf8.acceptRanges", "internal/bytealg.MaxLen"], apart := false, laid := [("unicode/utf8.acceptRanges", laid_unicode_utf8_acceptRanges), ("unicode/utf8.first", laid_unicode_utf8_first)], narrowed := true }
def NumsetCombinesUptoSaid : Prop := numsetCombinesUptoRow.holds Tryz.pinned (OpenSpec.upto numsetCombinesSpec)

/-- 'datakitlaw18.NumsetEquals', WHERE WHAT IT READS IS OF BULK AT MOST 1048576: true; the input reads as it did. -/
def numsetEqualsUptoRow : OpenClaim := { program := "ytnifalngeimpnaagreatdoor", sum := "51289a1a7efcc5cf864770933902c6f7c2ef09444dd3db7b76d42c55062722b4", func := "datakit/datakitlaw18.NumsetEquals", spec := "numsetEquals", inPlace := ["internal/bytealg.IndexByteString", "internal/bytealg.IndexString", "internal/abi.NoEscape", "internal/bytealg.MakeNoZero", "internal/bytealg.abigen_runtime_cmpstring"], unfollowed := true, recurses := true, named := ["unicode/utf8.first", "unicode/utf8.acceptRanges", "internal/bytealg.MaxLen"], apart := false, laid := [("unicode/utf8.acceptRanges", laid_unicode_utf8_acceptRanges), ("unicode/utf8.first", laid_unicode_utf8_first)], narrowed := true }
def NumsetEqualsUptoSaid : Prop := numsetEqualsUptoRow.holds Tryz.pinned (OpenSpec.upto numsetEqualsSpec)

/-- 'datakitlaw18.NumsetAlgebra', WHERE WHAT IT READS IS OF BULK AT MOST 1048576: true; the input reads as it did. -/
def numsetAlgebraUptoRow : OpenClaim := { program := "ytnifalngeimpnaagreatdoor", sum := "51289a1a7efcc5cf864770933902c6f7c2ef09444dd3db7b76d42c55062722b4", func := "datakit/datakitlaw18.NumsetAlgebra", spec := "numsetAlgebra", inPlace := ["internal/bytealg.IndexByteString", "internal/bytealg.IndexString", "internal/abi.NoEscape", "internal/bytealg.MakeNoZero", "internal/bytealg.abigen_runtime_cmpstring"], unfollowed := true, recurses := true, named := ["unicode/utf8.first", "unicode/utf8.acceptRanges", "internal/bytealg.MaxLen"], apart := false, laid := [("unicode/utf8.acceptRanges", laid_unicode_utf8_acceptRanges), ("unicode/utf8.first", laid_unicode_utf8_first)], narrowed := true }
def NumsetAlgebraUptoSaid : Prop := numsetAlgebraUptoRow.holds Tryz.pinned (OpenSpec.upto numsetAlgebraSpec)

end Rows
end Go.Proofs.YtnifalngeimpnaaGreatDoor
