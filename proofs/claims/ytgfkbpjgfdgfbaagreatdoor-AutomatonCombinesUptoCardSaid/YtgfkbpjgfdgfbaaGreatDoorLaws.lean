/- The law AutomatonCombines: its card, proved, for arguments of bounded bulk. -/
import Derived.Test.YtgfkbpjgfdgfbaaGreatDoorHeld
import Derived.Test.YtgfkbpjgfdgfbaaGreatDoorTypes
import Derived.Test.YtgfkbpjgfdgfbaaGreatDoorRunS
import Derived.Test.YtgfkbpjgfdgfbaaGreatDoorAwaF
import Derived.Test.YtgfkbpjgfdgfbaaGreatDoorCards
import Derived.Test.YtgfkbpjgfdgfbaaGreatDoorTie
import Derived.Deep.DeepHandedRow
import Derived.Lib.LaidTab
import Derived.Stop.LaidErr
import Derived.MakeChecks
set_option linter.unusedSimpArgs false
set_option linter.unusedVariables false
set_option maxRecDepth 100000
namespace Go.Proofs.YtgfkbpjgfdgfbaaGreatDoor
open Ago Go.ChangeShapes Go.WideShapes Go.ChangeAt Go.RowKit

theorem run (xs:List AV) (h:ArgsTy Tryz.prog Tryz.f3.params.toList xs) (hb:AV.bulks xs≤1048576):BS CB (.prun 311 xs (.bool true)):=by
  rw[Tryz.params3] at h
  match xs, h with
  | [x, y], h=>
    obtain ⟨m, rfl⟩:=argM h.1
    obtain ⟨n, rfl⟩:=argM h.2.1
    simp only[AV.bulks, AV.bulk] at hb
    exact combines_run (upB aua_39) m n (smallM_of (by omega)) (smallM_of (by omega))

/-- A world for the witness: the listed variables hold what their initialisers lay. -/
noncomputable def laidWorld (os:Os):World:=
  let h0:=(World.holding Tryz.prog os ⟨#[], #[], []⟩).heap
  let h1:=h0.modify 0 fun
    | .cells _ t frozen=>.cells #[.int .u64 1, .int .u64 10, .int .u64 100, .int .u64 1000, .int .u64 10000, .int .u64 100000, .int .u64 1000000, .int .u64 10000000, .int .u64 100000000, .int .u64 1000000000, .int .u64 10000000000, .int .u64 100000000000, .int .u64 1000000000000, .int .u64 10000000000000, .int .u64 100000000000000, .int .u64 1000000000000000, .int .u64 10000000000000000, .int .u64 100000000000000000, .int .u64 1000000000000000000, .int .u64 10000000000000000000] t frozen
    | o=>o
  let h2:=h1.modify 1 fun
    | .cells _ t frozen=>.cells #[.int .u8 0, .int .u8 1, .int .u8 28, .int .u8 2, .int .u8 29, .int .u8 14, .int .u8 24, .int .u8 3, .int .u8 30, .int .u8 22, .int .u8 20, .int .u8 15, .int .u8 25, .int .u8 17, .int .u8 4, .int .u8 8, .int .u8 31, .int .u8 27, .int .u8 13, .int .u8 23, .int .u8 21, .int .u8 19, .int .u8 16, .int .u8 7, .int .u8 26, .int .u8 12, .int .u8 18, .int .u8 6, .int .u8 11, .int .u8 5, .int .u8 10, .int .u8 9] t frozen
    | o=>o
  let h3:=h2.modify 2 fun
    | .cells _ t frozen=>.cells #[.int .u8 0, .int .u8 1, .int .u8 56, .int .u8 2, .int .u8 57, .int .u8 49, .int .u8 28, .int .u8 3, .int .u8 61, .int .u8 58, .int .u8 42, .int .u8 50, .int .u8 38, .int .u8 29, .int .u8 17, .int .u8 4, .int .u8 62, .int .u8 47, .int .u8 59, .int .u8 36, .int .u8 45, .int .u8 43, .int .u8 51, .int .u8 22, .int .u8 53, .int .u8 39, .int .u8 33, .int .u8 30, .int .u8 24, .int .u8 18, .int .u8 12, .int .u8 5, .int .u8 63, .int .u8 55, .int .u8 48, .int .u8 27, .int .u8 60, .int .u8 41, .int .u8 37, .int .u8 16, .int .u8 46, .int .u8 35, .int .u8 44, .int .u8 21, .int .u8 52, .int .u8 32, .int .u8 23, .int .u8 11, .int .u8 54, .int .u8 26, .int .u8 40, .int .u8 15, .int .u8 34, .int .u8 20, .int .u8 31, .int .u8 10, .int .u8 25, .int .u8 14, .int .u8 19, .int .u8 9, .int .u8 13, .int .u8 8, .int .u8 7, .int .u8 6] t frozen
    | o=>o
  { World.holding Tryz.prog os ⟨#[], #[], []⟩ with heap:=h3 }
theorem laid_met (os:Os):laidMet Tryz.prog Rows.automatonCombinesRow.laid ((laidWorld os).forCall (fun _ _=>0) ⟨#[], #[.agg #[.slice none 0 0], .agg #[.slice none 0 0]], []⟩).memory:=
  laidMet_of_run' 8 (by kernel_rfl) (by kernel_rfl)
theorem reads (os:Os) {H:Type} (enc:TypeId × Value→H) : ∃ places, DataW.whole enc Tryz.prog ((laidWorld os).forCall (fun _ _=>0) ⟨#[], #[.agg #[.slice none 0 0], .agg #[.slice none 0 0]], []⟩).memory Tryz.f3.params.toList Rows.automatonCombinesSpec.vars false (#[.agg #[.slice none 0 0], .agg #[.slice none 0 0]]:Array Value).toList 8=some ([.agg [.nil], .agg [.nil]], [], places):=
  ⟨[], by kernel_rfl⟩

theorem tab_ok {W:World} (h:laidMetH Tryz.prog Rows.automatonCombinesUptoRow.laid W):TabC.ok W.heap.size W:=by
  have h2:laidMet Tryz.prog Rows.automatonCombinesUptoRow.laid W:=(MakeChecks.laidMetH_plain Tryz.prog Rows.automatonCombinesUptoRow.laid W (by kernel_rfl))▸h
  have h3 : laidMet Tryz.prog (("internal/strconv.uint64pow10", Lib.tabData .u64 Lib.pow10Tab) :: []) W := laidMet.tail (laidMet.tail h2)
  have h4:=Lib.tabIs_of_head (g:=0) (t:=131) (e:=120) (n:=20) (by kernel_rfl) (by kernel_rfl) (by kernel_rfl) (by kernel_rfl) (by kernel_rfl) (by kernel_rfl) h3
  refine ⟨h4, fun g hg=>?_⟩
  have h5:=h4
  unfold Lib.TabIs World.var? at h5
  rw[hg, Option.bind_some] at h5
  rcases Nat.lt_or_ge g W.heap.size with hl | hl
  · exact hl
  · rw[Array.getElem?_eq_none hl] at h5
    cases h5

theorem lifted (os:Os) (started:os.Started) (H:Type) (enc:TypeId × Value→H) (F:Stop.Interp) :
    ReturnsInHanded {} Tryz.checked os 3 .any ((Rows.OpenSpec.upto Rows.automatonCombinesSpec).preRow enc Tryz.prog Tryz.f3 Rows.automatonCombinesUptoRow.domain false Rows.automatonCombinesUptoRow.laid) (((Rows.OpenSpec.upto Rows.automatonCombinesSpec).at F).post enc Tryz.prog Tryz.f3 false true false false):=by
  obtain ⟨places, hx⟩:=reads os enc
  refine returnsInHanded_of_row (C:=Tryz.checked) (s:=Rows.OpenSpec.upto Rows.automatonCombinesSpec) own started (by kernel_rfl) Tryz.func3
    (witness_row_at (enc:=enc) (C:=Tryz.checked) false (laidWorld os) #[.agg #[.slice none 0 0], .agg #[.slice none 0 0]] rfl (by kernel_rfl) (by kernel_rfl) (by kernel_rfl)
      (OpenSpec.preRow_of_cond 8 hx (by kernel_rfl) (fun k hk=>by cases hk; kernel_rfl) (by kernel_rfl) (laid_met os))) ?_
  intro W base args ds gs before hval hW _ hcond _ hlaid _ _
  have hk':Rows.uptoBulkAll (ds++gs)≤1048576:=of_decide_eq_true (hcond _ rfl)
  refine law_contract (s:=Rows.automatonCombinesSpec) (fn:=Tryz.f3) (g:=3) (f:=311) (tb:=4) (N:=1048576) ctxOk laid (bulkFn H) tysOk rfl (fun ds hd=>?_) (by kernel_rfl) (fun t ht=>?_) (by kernel_rfl) (by kernel_rfl) uBOOL run hval hW hk' (tab_ok hlaid)
  · match ds, hd with
    | [d0, d1], _=>rfl
  · rw[Tryz.params3] at ht
    simp only[Array.toList, List.mem_cons, List.not_mem_nil, or_false] at ht
    first | (rcases ht with rfl | rfl) | subst ht
    all_goals simp [tys]

theorem over:Rows.AutomatonCombinesUptoSaid:=
  OpenClaim.holds_of_cond 3 Tryz.f3 rfl rfl rfl rfl rfl rfl rfl ⟨rfl, rfl, rfl, rfl, rfl⟩ rfl rfl rfl rfl rfl (by kernel_rfl) Tryz.func3 (by kernel_rfl)
    (of_decide_eq_true (by kernel_rfl)) (by unfold Func.isWrapper; first | (rw[if_pos (by decide +kernel)]; kernel_rfl) | (rw[if_neg (by decide +kernel)]; exact ⟨rfl, rfl⟩))
    (fun os started H enc _ F=>by rw[OpenClaim.pre_eq_preRow]; exact lifted os started H enc F)

theorem plain (f : FuncId) (fn : Func) (hf : Tryz.pinned.checked.prog.funcNamed "datakit/datakitlaw16.AutomatonCombines" = some f) (hfn : Tryz.pinned.checked.prog.funcs[f]? = some fn) :
    false=Tryz.pinned.checked.prog.looks []∧∀ (j:Nat) t, fn.params[j]?=some t→Tryz.pinned.checked.prog.wantsStandIn t=false:=by
  obtain rfl : f = 3 := Option.some.inj ((show Tryz.prog.funcNamed "datakit/datakitlaw16.AutomatonCombines" = some 3 by kernel_rfl).symm.trans hf) |>.symm
  obtain rfl:fn=Tryz.f3:=(Option.some.inj (Tryz.func3.symm.trans hfn)).symm
  refine ⟨by kernel_rfl, fun j t ht=>?_⟩
  rw[Tryz.params3] at ht
  have ht':=Array.mem_of_getElem? ht
  simp only[List.mem_toArray, List.mem_cons, List.not_mem_nil, or_false] at ht'
  first | (rcases ht' with rfl | rfl) | subst ht'
  all_goals (show Tryz.prog.wantsStandIn _=false; kernel_rfl)

theorem proved:Rows.AutomatonCombinesUptoCardSaid:=
  Claim7.holds_tied_plain_at .later [] _ _ _ _ over (fun _ h=>by cases h) (by kernel_rfl) (fun _ h=>by cases h) automatonCombinesUpto_row_tie rfl ⟨rfl, rfl⟩ (by kernel_rfl) rfl plain (by kernel_rfl)
end Go.Proofs.YtgfkbpjgfdgfbaaGreatDoor
