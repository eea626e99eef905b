/- The law NumsetMakes: its card, proved, for arguments of bounded bulk. -/
import Derived.Test.YtfnplmbkabdgoaaGreatDoorHeld
import Derived.Test.YtfnplmbkabdgoaaGreatDoorTypes
import Derived.Test.YtfnplmbkabdgoaaGreatDoorRunC
import Derived.Test.YtfnplmbkabdgoaaGreatDoorAwaB
import Derived.Test.YtfnplmbkabdgoaaGreatDoorCards
import Derived.Test.YtfnplmbkabdgoaaGreatDoorTie
import Derived.Deep.DeepHandedRow
set_option linter.unusedSimpArgs false
set_option linter.unusedVariables false
set_option maxRecDepth 100000
namespace Go.Proofs.YtfnplmbkabdgoaaGreatDoor
open Ago Go.ChangeShapes Go.WideShapes Go.ChangeAt Go.RowKit

theorem run (xs : List AV) (h : ArgsTy Tryz.prog Tryz.f6.params.toList xs) (hb : AV.bulks xs ≤ 1048576) : BS CN (.prun 669 xs (.bool true)) := by
  rw [Tryz.params6] at h
  match xs, h with
  | [x, y], h =>
    obtain ⟨p, rfl⟩ := argPrt h.1
    obtain ⟨l, rfl⟩ := argDecs h.2.1
    have hb1 : (encPrt p).bulk + (AV.tsl 3 (l.map encDec)).bulk ≤ 1048576 := by
      simp only [AV.bulks] at hb
      omega
    have e1 : (AV.tsl 3 (l.map encDec)).bulk = AV.bulks (l.map encDec) + 1 := by
      simp [AV.bulk]
    have e2 := encPrt_bulk p
    have e3 := bulks_len (l.map encDec)
    rw [List.length_map] at e3
    refine numsetMakes_run awake18 p l ⟨by omega, by omega⟩ (by omega) fun d hd => ?_
    have e4 := bulks_mem (List.mem_map_of_mem (f := encDec) hd)
    rw [encDec_bulk] at e4
    omega

/-- A world for the witness: the listed variables hold what their initialisers lay. -/
noncomputable def laidWorld (os : Os) : World :=
  let h0 := (World.holding Tryz.prog os ⟨#[], #[], []⟩).heap
  let h1 := h0.modify 2 fun
    | .cells _ t frozen => .cells #[.int .u8 128, .int .u8 191, .int .u8 160, .int .u8 191, .int .u8 128, .int .u8 159, .int .u8 144, .int .u8 191, .int .u8 128, .int .u8 143, .int .u8 0, .int .u8 0, .int .u8 0, .int .u8 0, .int .u8 0, .int .u8 0, .int .u8 0, .int .u8 0, .int .u8 0, .int .u8 0, .int .u8 0, .int .u8 0, .int .u8 0, .int .u8 0, .int .u8 0, .int .u8 0, .int .u8 0, .int .u8 0, .int .u8 0, .int .u8 0, .int .u8 0, .int .u8 0] t frozen
    | o => o
  let h2 := h1.modify 1 fun
    | .cells _ t frozen => .cells (Go.Pinned.utf8FirstZ.map fun (n : Nat) => Value.int .u8 (Int.ofNat n)).toArray t frozen
    | o => o
  { World.holding Tryz.prog os ⟨#[], #[], []⟩ with heap := h2 }
theorem laid_met (os : Os) : laidMet Tryz.prog Rows.numsetMakesRow.laid ((laidWorld os).forCall (fun _ _ => 0) ⟨#[], #[.agg #[.bool false, .bool false, .string ⟨#[]⟩, .int .i64 0, .bool false, .bool false, .bool false, .string ⟨#[]⟩, .int .i64 0, .bool false, .int .i64 0], .slice none 0 0], []⟩).memory :=
  laidMet_of_run' 8 (by kernel_rfl) (by kernel_rfl)
theorem reads (os : Os) {H : Type} (enc : TypeId × Value → H) : ∃ places, DataW.whole enc Tryz.prog ((laidWorld os).forCall (fun _ _ => 0) ⟨#[], #[.agg #[.bool false, .bool false, .string ⟨#[]⟩, .int .i64 0, .bool false, .bool false, .bool false, .string ⟨#[]⟩, .int .i64 0, .bool false, .int .i64 0], .slice none 0 0], []⟩).memory Tryz.f6.params.toList Rows.numsetMakesSpec.vars false (#[.agg #[.bool false, .bool false, .string ⟨#[]⟩, .int .i64 0, .bool false, .bool false, .bool false, .string ⟨#[]⟩, .int .i64 0, .bool false, .int .i64 0], .slice none 0 0] : Array Value).toList 8 = some ([.agg [.agg [.lit (.bool false), .agg [.lit (.bool false), .lit (.string []), .lit (.int .i64 0)], .lit (.bool false)], .agg [.lit (.bool false), .agg [.lit (.bool false), .lit (.string []), .lit (.int .i64 0)], .lit (.bool false)], .lit (.int .i64 0)], .nil], [], places) :=
  ⟨[], by kernel_rfl⟩

theorem lifted (os : Os) (started : os.Started) (H : Type) (enc : TypeId × Value → H) (F : Stop.Interp) :
    ReturnsInHanded {} Tryz.checked os 6 .any ((Rows.OpenSpec.upto Rows.numsetMakesSpec).preRow enc Tryz.prog Tryz.f6 Rows.numsetMakesUptoRow.domain false Rows.numsetMakesUptoRow.laid) (((Rows.OpenSpec.upto Rows.numsetMakesSpec).at F).post enc Tryz.prog Tryz.f6 false true false false) := by
  obtain ⟨places, hx⟩ := reads os enc
  refine returnsInHanded_of_row (C := Tryz.checked) (s := Rows.OpenSpec.upto Rows.numsetMakesSpec) own started (by kernel_rfl) Tryz.func6
    (witness_row_at (enc := enc) (C := Tryz.checked) false (laidWorld os) #[.agg #[.bool false, .bool false, .string ⟨#[]⟩, .int .i64 0, .bool false, .bool false, .bool false, .string ⟨#[]⟩, .int .i64 0, .bool false, .int .i64 0], .slice none 0 0] rfl (by kernel_rfl) (by kernel_rfl) (by kernel_rfl)
      (OpenSpec.preRow_of_cond 8 hx (by kernel_rfl) (fun k hk => by cases hk; kernel_rfl) (by kernel_rfl) (laid_met os))) ?_
  intro W base args ds gs before hval hW _ hcond _ _ _ _
  have hk' : Rows.uptoBulkAll (ds ++ gs) ≤ 1048576 := of_decide_eq_true (hcond _ rfl)
  refine law_contract (s := Rows.numsetMakesSpec) (fn := Tryz.f6) (g := 6) (f := 669) (tb := 4) (N := 1048576) ctxOk laid (bulkFn H) tysOk rfl (fun ds hd => ?_) (by kernel_rfl) (fun t ht => ?_) (by kernel_rfl) (by kernel_rfl) uBOOL run hval hW hk'
  · match ds, hd with
    | [d0, d1], _ => rfl
  · rw [Tryz.params6] at ht
    simp only [Array.toList, List.mem_cons, List.not_mem_nil, or_false] at ht
    first | (rcases ht with rfl | rfl) | subst ht
    all_goals simp [tys]

theorem over : Rows.NumsetMakesUptoSaid :=
  OpenClaim.holds_of_cond 6 Tryz.f6 rfl rfl rfl rfl rfl rfl rfl ⟨rfl, rfl, rfl, rfl, rfl⟩ rfl rfl rfl rfl rfl (by kernel_rfl) Tryz.func6 (by kernel_rfl)
    (of_decide_eq_true (by kernel_rfl)) (by unfold Func.isWrapper; first | (rw [if_pos (by decide +kernel)]; kernel_rfl) | (rw [if_neg (by decide +kernel)]; exact ⟨rfl, rfl⟩))
    (fun os started H enc _ F => by rw [OpenClaim.pre_eq_preRow]; exact lifted os started H enc F)

theorem plain (f : FuncId) (fn : Func) (hf : Tryz.pinned.checked.prog.funcNamed "datakit/datakitlaw18.NumsetMakes" = some f) (hfn : Tryz.pinned.checked.prog.funcs[f]? = some fn) :
    false = Tryz.pinned.checked.prog.looks [] ∧ ∀ (j : Nat) t, fn.params[j]? = some t → Tryz.pinned.checked.prog.wantsStandIn t = false := by
  obtain rfl : f = 6 := Option.some.inj ((show Tryz.prog.funcNamed "datakit/datakitlaw18.NumsetMakes" = some 6 by kernel_rfl).symm.trans hf) |>.symm
  obtain rfl : fn = Tryz.f6 := (Option.some.inj (Tryz.func6.symm.trans hfn)).symm
  refine ⟨by kernel_rfl, fun j t ht => ?_⟩
  rw [Tryz.params6] at ht
  have ht' := Array.mem_of_getElem? ht
  simp only [List.mem_toArray, List.mem_cons, List.not_mem_nil, or_false] at ht'
  first | (rcases ht' with rfl | rfl) | subst ht'
  all_goals (show Tryz.prog.wantsStandIn _ = false; kernel_rfl)

theorem proved : Rows.NumsetMakesUptoCardSaid :=
  Claim7.holds_tied_plain_at .later [] _ _ _ _ over (fun _ h => by cases h) (by kernel_rfl) (fun _ h => by cases h) numsetMakesUpto_row_tie rfl ⟨rfl, rfl⟩ (by kernel_rfl) rfl plain (by kernel_rfl)
end Go.Proofs.YtfnplmbkabdgoaaGreatDoor
