/- The law AutomatonEquals: its card, proved, for arguments of bounded bulk. -/
import Derived.Test.YtndeonfobpmddaaGreatDoorHeld
import Derived.Test.YtndeonfobpmddaaGreatDoorTypes
import Derived.Test.YtndeonfobpmddaaGreatDoorRunL
import Derived.Test.YtndeonfobpmddaaGreatDoorAwaF
import Derived.Test.YtndeonfobpmddaaGreatDoorCards
import Derived.Test.YtndeonfobpmddaaGreatDoorTie
import Derived.Deep.DeepHandedRow
set_option linter.unusedSimpArgs false
set_option linter.unusedVariables false
set_option maxRecDepth 100000
namespace Go.Proofs.YtndeonfobpmddaaGreatDoor
open Ago Go.ChangeShapes Go.WideShapes Go.ChangeAt Go.RowKit

theorem run (xs:List AV) (h:ArgsTy Tryz.prog Tryz.f4.params.toList xs) (hb:AV.bulks xs≤1048576):BS CB (.prun 316 xs (.bool true)):=by
  rw[Tryz.params4] at h
  match xs, h with
  | [x, y], h=>
    obtain ⟨a, rfl⟩:=argM h.1
    obtain ⟨b, rfl⟩:=argM h.2.1
    simp only[AV.bulks, AV.bulk] at hb
    exact equals_run (upB aua_39) a b (smallM_of (by omega)) (smallM_of (by omega))

/-- A world for the witness: the listed variables hold what their initialisers lay. -/
noncomputable def laidWorld (os:Os):World:=
  let h0:=(World.holding Tryz.prog os ⟨#[], #[], []⟩).heap
  let h1:=h0.modify 0 fun
    | .cells _ t frozen=>.cells #[.int .u64 1, .int .u64 10, .int .u64 100, .int .u64 1000, .int .u64 10000, .int .u64 100000, .int .u64 1000000, .int .u64 10000000, .int .u64 100000000, .int .u64 1000000000, .int .u64 10000000000, .int .u64 100000000000, .int .u64 1000000000000, .int .u64 10000000000000, .int .u64 100000000000000, .int .u64 1000000000000000, .int .u64 10000000000000000, .int .u64 100000000000000000, .int .u64 1000000000000000000, .int .u64 10000000000000000000] t frozen
    | o=>o
  let h2:=h1.modify 1 fun
    | .cells _ t frozen=>.cells #[.int .u8 0, .int .u8 1, .int .u8 28, .int .u8 2, .int .u8 29, .int .u8 14, .int .u8 24, .int .u8 3, .int .u8 30, .int .u8 22, .int .u8 20, .int .u8 15, .int .u8 25, .int .u8 17, .int .u8 4, .int .u8 8, .int .u8 31, .int .u8 27, .int .u8 13, .int .u8 23, .int .u8 21, .int .u8 19, .int .u8 16, .int .u8 7, .int .u8 26, .int .u8 12, .int .u8 18, .int .u8 6, .int .u8 11, .int .u8 5, .int .u8 10, .int .u8 9] t frozen
    | o=>o
  let h3:=h2.modify 2 fun
    | .cells _ t frozen=>.cells #[.int .u8 0, .int .u8 1, .int .u8 56, .int .u8 2, .int .u8 57, .int .u8 49, .int .u8 28, .int .u8 3, .int .u8 61, .int .u8 58, .int .u8 42, .int .u8 50, .int .u8 38, .int .u8 29, .int .u8 17, .int .u8 4, .int .u8 62, .int .u8 47, .int .u8 59, .int .u8 36, .int .u8 45, .int .u8 43, .int .u8 51, .int .u8 22, .int .u8 53, .int .u8 39, .int .u8 33, .int .u8 30, .int .u8 24, .int .u8 18, .int .u8 12, .int .u8 5, .int .u8 63, .int .u8 55, .int .u8 48, .int .u8 27, .int .u8 60, .int .u8 41, .int .u8 37, .int .u8 16, .int .u8 46, .int .u8 35, .int .u8 44, .int .u8 21, .int .u8 52, .int .u8 32, .int .u8 23, .int .u8 11, .int .u8 54, .int .u8 26, .int .u8 40, .int .u8 15, .int .u8 34, .int .u8 20, .int .u8 31, .int .u8 10, .int .u8 25, .int .u8 14, .int .u8 19, .int .u8 9, .int .u8 13, .int .u8 8, .int .u8 7, .int .u8 6] t frozen
    | o=>o
  { World.holding Tryz.prog os ⟨#[], #[], []⟩ with heap:=h3 }
theorem laid_met (os:Os):laidMet Tryz.prog Rows.automatonEqualsRow.laid ((laidWorld os).forCall (fun _ _=>0) ⟨#[], #[.agg #[.slice none 0 0], .agg #[.slice none 0 0]], []⟩).memory:=
  laidMet_of_run' 8 (by kernel_rfl) (by kernel_rfl)
theorem reads (os:Os) {H:Type} (enc:TypeId × Value→H) : ∃ places, DataW.whole enc Tryz.prog ((laidWorld os).forCall (fun _ _=>0) ⟨#[], #[.agg #[.slice none 0 0], .agg #[.slice none 0 0]], []⟩).memory Tryz.f4.params.toList Rows.automatonEqualsSpec.vars false (#[.agg #[.slice none 0 0], .agg #[.slice none 0 0]]:Array Value).toList 8=some ([.agg [.nil], .agg [.nil]], [], places):=
  ⟨[], by kernel_rfl⟩

theorem lifted (os:Os) (started:os.Started) (H:Type) (enc:TypeId × Value→H) (F:Stop.Interp) :
    ReturnsInHanded {} Tryz.checked os 4 .any ((Rows.OpenSpec.upto Rows.automatonEqualsSpec).preRow enc Tryz.prog Tryz.f4 Rows.automatonEqualsUptoRow.domain false Rows.automatonEqualsUptoRow.laid) (((Rows.OpenSpec.upto Rows.automatonEqualsSpec).at F).post enc Tryz.prog Tryz.f4 false true false false):=by
  obtain ⟨places, hx⟩:=reads os enc
  refine returnsInHanded_of_row (C:=Tryz.checked) (s:=Rows.OpenSpec.upto Rows.automatonEqualsSpec) own started (by kernel_rfl) Tryz.func4
    (witness_row_at (enc:=enc) (C:=Tryz.checked) false (laidWorld os) #[.agg #[.slice none 0 0], .agg #[.slice none 0 0]] rfl (by kernel_rfl) (by kernel_rfl) (by kernel_rfl)
      (OpenSpec.preRow_of_cond 8 hx (by kernel_rfl) (fun k hk=>by cases hk; kernel_rfl) (by kernel_rfl) (laid_met os))) ?_
  intro W base args ds gs before hval hW _ hcond _ _ _ _
  have hk':Rows.uptoBulkAll (ds++gs)≤1048576:=of_decide_eq_true (hcond _ rfl)
  refine law_contract (s:=Rows.automatonEqualsSpec) (fn:=Tryz.f4) (g:=4) (f:=316) (tb:=4) (N:=1048576) ctxOk laid (bulkFn H) tysOk rfl (fun ds hd=>?_) (by kernel_rfl) (fun t ht=>?_) (by kernel_rfl) (by kernel_rfl) uBOOL run hval hW hk'
  · match ds, hd with
    | [d0, d1], _=>rfl
  · rw[Tryz.params4] at ht
    simp only[Array.toList, List.mem_cons, List.not_mem_nil, or_false] at ht
    first | (rcases ht with rfl | rfl) | subst ht
    all_goals simp [tys]

theorem over:Rows.AutomatonEqualsUptoSaid:=
  OpenClaim.holds_of_cond 4 Tryz.f4 rfl rfl rfl rfl rfl rfl rfl ⟨rfl, rfl, rfl, rfl, rfl⟩ rfl rfl rfl rfl rfl (by kernel_rfl) Tryz.func4 (by kernel_rfl)
    (of_decide_eq_true (by kernel_rfl)) (by unfold Func.isWrapper; first | (rw[if_pos (by decide +kernel)]; kernel_rfl) | (rw[if_neg (by decide +kernel)]; exact ⟨rfl, rfl⟩))
    (fun os started H enc _ F=>by rw[OpenClaim.pre_eq_preRow]; exact lifted os started H enc F)

theorem plain (f : FuncId) (fn : Func) (hf : Tryz.pinned.checked.prog.funcNamed "datakit/datakitlaw16.AutomatonEquals" = some f) (hfn : Tryz.pinned.checked.prog.funcs[f]? = some fn) :
    false=Tryz.pinned.checked.prog.looks []∧∀ (j:Nat) t, fn.params[j]?=some t→Tryz.pinned.checked.prog.wantsStandIn t=false:=by
  obtain rfl : f = 4 := Option.some.inj ((show Tryz.prog.funcNamed "datakit/datakitlaw16.AutomatonEquals" = some 4 by kernel_rfl).symm.trans hf) |>.symm
  obtain rfl:fn=Tryz.f4:=(Option.some.inj (Tryz.func4.symm.trans hfn)).symm
  refine ⟨by kernel_rfl, fun j t ht=>?_⟩
  rw[Tryz.params4] at ht
  have ht':=Array.mem_of_getElem? ht
  simp only[List.mem_toArray, List.mem_cons, List.not_mem_nil, or_false] at ht'
  first | (rcases ht' with rfl | rfl) | subst ht'
  all_goals (show Tryz.prog.wantsStandIn _=false; kernel_rfl)

theorem proved:Rows.AutomatonEqualsUptoCardSaid:=
  Claim7.holds_tied_plain_at .later [] _ _ _ _ over (fun _ h=>by cases h) (by kernel_rfl) (fun _ h=>by cases h) automatonEqualsUpto_row_tie rfl ⟨rfl, rfl⟩ (by kernel_rfl) rfl plain (by kernel_rfl)
end Go.Proofs.YtndeonfobpmddaaGreatDoor
