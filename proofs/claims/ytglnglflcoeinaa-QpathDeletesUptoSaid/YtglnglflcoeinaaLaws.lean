/- The law QpathDeletes: its row, proved, for arguments of bounded bulk. -/
import Derived.Test.YtglnglflcoeinaaHeld
import Derived.Test.YtglnglflcoeinaaTypes
import Derived.Test.YtglnglflcoeinaaRunL
set_option linter.unusedSimpArgs false
set_option linter.unusedVariables false
set_option maxRecDepth 100000
namespace Go.Proofs.Ytglnglflcoeinaa
open Ago Go.ChangeShapes Go.WideShapes Go.ChangeAt Go.RowKit

theorem run (xs : List AV) (h : ArgsTy Try.prog Try.f3.params.toList xs) (hb : AV.bulks xs ≤ 1048576) : BS C1 (.prun 5 xs (.bool true)) := by
  rw [Try.params3] at h
  match xs, h with
  | [x, y], h =>
    obtain ⟨v, rfl⟩ := argV h.1
    obtain ⟨l, rfl⟩ := argPaths h.2.1
    simp only [AV.bulks] at hb
    obtain ⟨h1, h2⟩ := encPs_bulk (l := l) (N := 1048576) (by omega)
    exact qpathDeletes_run v l (by unfold V.bulk; omega) (fun q hq => ⟨by have := (encP_bulk (h2 q hq)).1; omega, fun s hs => by have := (encP_bulk (h2 q hq)).2 s hs; omega⟩)

theorem lifted (os : Os) (started : os.Started) (H : Type) (enc : TypeId × Value → H) (F : Stop.Interp) :
    ReturnsInHanded {} Try.checked os 3 .any ((Rows.OpenSpec.upto Rows.qpathDeletesSpec).pre6 enc Try.prog Try.f3 Rows.qpathDeletesUptoRow.domain false) (((Rows.OpenSpec.upto Rows.qpathDeletesSpec).at F).post enc Try.prog Try.f3 false true false false) := by
  refine returnsInHanded_of_cond (C := Try.checked) (s := Rows.OpenSpec.upto Rows.qpathDeletesSpec) (k := Rows.uptoSmall) rfl own started (by kernel_rfl) Try.func3
    (OpenSpec.witness (enc := enc) (C := Try.checked) (s := Rows.OpenSpec.upto Rows.qpathDeletesSpec) (k := Rows.uptoSmall) rfl false
      ⟨#[], #[.agg #[.int .i64 0, .bool false, .bool false, .string ⟨#[]⟩, .int .i64 0, .int .i64 0, .int .i64 0, .int .i64 0, .int .i64 0, .string ⟨#[]⟩, .slice none 0 0, .slice none 0 0, .slice none 0 0], .slice none 0 0], []⟩ 8 (by kernel_rfl) (by kernel_rfl) (by kernel_rfl)
      (x := ([.agg [.lit (.int .i64 0), .lit (.bool false), .agg [.lit (.bool false), .lit (.string []), .lit (.int .i64 0)], .agg [.lit (.int .i64 0), .lit (.int .i64 0), .lit (.int .i64 0), .lit (.int .i64 0)], .lit (.string []), .nil, .nil, .nil], .nil], [], [])) (by kernel_rfl) rfl (by kernel_rfl)) ?_
  intro W base args ds gs before hval hW _ hk _
  have hk' : Rows.uptoBulkAll (ds ++ gs) ≤ 1048576 := of_decide_eq_true hk
  refine law_contract (s := Rows.qpathDeletesSpec) (fn := Try.f3) (g := 3) (f := 5) (tb := 4) (N := 1048576) ctxOk1 laid (bulkFn H) tysOk rfl (fun ds hd => ?_) (by kernel_rfl) (fun t ht => ?_) (by kernel_rfl) (by kernel_rfl) uBOOL run hval hW hk'
  · match ds, hd with
    | [d0, d1], _ => rfl
  · rw [Try.params3] at ht
    simp only [Array.toList, List.mem_cons, List.not_mem_nil, or_false] at ht
    first | (rcases ht with rfl | rfl) | subst ht
    all_goals simp [tys]

theorem over : Rows.qpathDeletesUptoRow.holds Try.pinned (Rows.OpenSpec.upto Rows.qpathDeletesSpec) :=
  OpenClaim.holds_of_cond 3 Try.f3 rfl rfl rfl rfl rfl rfl rfl ⟨rfl, rfl, rfl, rfl, rfl⟩ rfl rfl rfl rfl rfl (by kernel_rfl) Try.func3 (by kernel_rfl)
    (of_decide_eq_true (by kernel_rfl)) (by unfold Func.isWrapper; first | (rw [if_pos (by decide +kernel)]; kernel_rfl) | (rw [if_neg (by decide +kernel)]; exact ⟨rfl, rfl⟩))
    (fun os started H enc _ F => lifted os started H enc F)

theorem proved : Rows.QpathDeletesUptoSaid := over
end Go.Proofs.Ytglnglflcoeinaa
