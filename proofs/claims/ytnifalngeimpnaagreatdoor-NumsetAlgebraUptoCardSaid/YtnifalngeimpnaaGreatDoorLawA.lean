/- The law NumsetAlgebra: its card, proved, for arguments of bounded bulk. -/
import Derived.Test.YtnifalngeimpnaaGreatDoorHeld
import Derived.Test.YtnifalngeimpnaaGreatDoorTypes
import Derived.Test.YtnifalngeimpnaaGreatDoorRunM
import Derived.Test.YtnifalngeimpnaaGreatDoorCards
import Derived.Test.YtnifalngeimpnaaGreatDoorTie
import Derived.Deep.DeepHandedRow
set_option linter.unusedSimpArgs false
set_option linter.unusedVariables false
set_option maxRecDepth 100000
namespace Go.Proofs.YtnifalngeimpnaaGreatDoor
open Ago Go.ChangeShapes Go.WideShapes Go.ChangeAt Go.RowKit

theorem run (xs : List AV) (h : ArgsTy Tryz.prog Tryz.f7.params.toList xs) (hb : AV.bulks xs ≤ 1048576) : BS CKN (.prun 670 xs (.bool true)) := by
  rw [Tryz.params7] at h
  match xs, h with
  | [x, y], h =>
    obtain ⟨a, b, c, rfl⟩ := argA3 h.1
    obtain ⟨d, rfl⟩ := argDec h.2.1
    have hb1 : AV.bulks (a.map encPrt) + AV.bulks (b.map encPrt) + AV.bulks (c.map encPrt) + (encDec d).bulk ≤ 1048576 := by
      simp only [AV.bulks, AV.bulk] at hb
      omega
    have e2 := encDec_bulk d
    have key : ∀ l : List Prt, AV.bulks (l.map encPrt) ≤ 1048576 → slimP l := fun l hl => by
      have e3 := bulks_len (l.map encPrt)
      rw [List.length_map] at e3
      refine ⟨by omega, fun p hp => ?_⟩
      have e4 := bulks_mem (List.mem_map_of_mem (f := encPrt) hp)
      rw [encPrt_bulk] at e4
      omega
    exact numsetAlgebra_run a b c d (key a (by omega)) (key b (by omega)) (key c (by omega)) (by omega)

/-- A world for the witness: the listed variables hold what their initialisers lay. -/
noncomputable def laidWorld (os : Os) : World :=
  let h0 := (World.holding Tryz.prog os ⟨#[], #[], []⟩).heap
  let h1 := h0.modify 2 fun
    | .cells _ t frozen => .cells #[.int .u8 128, .int .u8 191, .int .u8 160, .int .u8 191, .int .u8 128, .int .u8 159, .int .u8 144, .int .u8 191, .int .u8 128, .int .u8 143, .int .u8 0, .int .u8 0, .int .u8 0, .int .u8 0, .int .u8 0, .int .u8 0, .int .u8 0, .int .u8 0, .int .u8 0, .int .u8 0, .int .u8 0, .int .u8 0, .int .u8 0, .int .u8 0, .int .u8 0, .int .u8 0, .int .u8 0, .int .u8 0, .int .u8 0, .int .u8 0, .int .u8 0, .int .u8 0] t frozen
    | o => o
  let h2 := h1.modify 1 fun
    | .cells _ t frozen => .cells (Go.Pinned.utf8FirstZ.map fun (n : Nat) => Value.int .u8 (Int.ofNat n)).toArray t frozen
    | o => o
  { World.holding Tryz.prog os ⟨#[], #[], []⟩ with heap := h2 }
theorem laid_met (os : Os) : laidMet Tryz.prog Rows.numsetAlgebraRow.laid ((laidWorld os).forCall (fun _ _ => 0) ⟨#[], #[.agg #[.slice none 0 0, .slice none 0 0, .slice none 0 0], .agg #[.bool false, .string ⟨#[]⟩, .int .i64 0]], []⟩).memory :=
  laidMet_of_run' 8 (by kernel_rfl) (by kernel_rfl)
theorem reads (os : Os) {H : Type} (enc : TypeId × Value → H) : ∃ places, DataW.whole enc Tryz.prog ((laidWorld os).forCall (fun _ _ => 0) ⟨#[], #[.agg #[.slice none 0 0, .slice none 0 0, .slice none 0 0], .agg #[.bool false, .string ⟨#[]⟩, .int .i64 0]], []⟩).memory Tryz.f7.params.toList Rows.numsetAlgebraSpec.vars false (#[.agg #[.slice none 0 0, .slice none 0 0, .slice none 0 0], .agg #[.bool false, .string ⟨#[]⟩, .int .i64 0]] : Array Value).toList 8 = some ([.agg [.agg [.nil], .agg [.nil], .agg [.nil]], .agg [.lit (.bool false), .lit (.string []), .lit (.int .i64 0)]], [], places) :=
  ⟨[], by kernel_rfl⟩

theorem lifted (os : Os) (started : os.Started) (H : Type) (enc : TypeId × Value → H) (F : Stop.Interp) :
    ReturnsInHanded {} Tryz.checked os 7 .any ((Rows.OpenSpec.upto Rows.numsetAlgebraSpec).preRow enc Tryz.prog Tryz.f7 Rows.numsetAlgebraUptoRow.domain false Rows.numsetAlgebraUptoRow.laid) (((Rows.OpenSpec.upto Rows.numsetAlgebraSpec).at F).post enc Tryz.prog Tryz.f7 false true false false) := by
  obtain ⟨places, hx⟩ := reads os enc
  refine returnsInHanded_of_row (C := Tryz.checked) (s := Rows.OpenSpec.upto Rows.numsetAlgebraSpec) own started (by kernel_rfl) Tryz.func7
    (witness_row_at (enc := enc) (C := Tryz.checked) false (laidWorld os) #[.agg #[.slice none 0 0, .slice none 0 0, .slice none 0 0], .agg #[.bool false, .string ⟨#[]⟩, .int .i64 0]] rfl (by kernel_rfl) (by kernel_rfl) (by kernel_rfl)
      (OpenSpec.preRow_of_cond 8 hx (by kernel_rfl) (fun k hk => by cases hk; kernel_rfl) (by kernel_rfl) (laid_met os))) ?_
  intro W base args ds gs before hval hW _ hcond _ _ _ _
  have hk' : Rows.uptoBulkAll (ds ++ gs) ≤ 1048576 := of_decide_eq_true (hcond _ rfl)
  refine law_contract (s := Rows.numsetAlgebraSpec) (fn := Tryz.f7) (g := 7) (f := 670) (tb := 4) (N := 1048576) ctxOk laid (bulkFn H) tysOk rfl (fun ds hd => ?_) (by kernel_rfl) (fun t ht => ?_) (by kernel_rfl) (by kernel_rfl) uBOOL run hval hW hk'
  · match ds, hd with
    | [d0, d1], _ => rfl
  · rw [Tryz.params7] at ht
    simp only [Array.toList, List.mem_cons, List.not_mem_nil, or_false] at ht
    first | (rcases ht with rfl | rfl) | subst ht
    all_goals simp [tys]

theorem over : Rows.NumsetAlgebraUptoSaid :=
  OpenClaim.holds_of_cond 7 Tryz.f7 rfl rfl rfl rfl rfl rfl rfl ⟨rfl, rfl, rfl, rfl, rfl⟩ rfl rfl rfl rfl rfl (by kernel_rfl) Tryz.func7 (by kernel_rfl)
    (of_decide_eq_true (by kernel_rfl)) (by unfold Func.isWrapper; first | (rw [if_pos (by decide +kernel)]; kernel_rfl) | (rw [if_neg (by decide +kernel)]; exact ⟨rfl, rfl⟩))
    (fun os started H enc _ F => by rw [OpenClaim.pre_eq_preRow]; exact lifted os started H enc F)

theorem plain (f : FuncId) (fn : Func) (hf : Tryz.pinned.checked.prog.funcNamed "datakit/datakitlaw18.NumsetAlgebra" = some f) (hfn : Tryz.pinned.checked.prog.funcs[f]? = some fn) :
    false = Tryz.pinned.checked.prog.looks [] ∧ ∀ (j : Nat) t, fn.params[j]? = some t → Tryz.pinned.checked.prog.wantsStandIn t = false := by
  obtain rfl : f = 7 := Option.some.inj ((show Tryz.prog.funcNamed "datakit/datakitlaw18.NumsetAlgebra" = some 7 by kernel_rfl).symm.trans hf) |>.symm
  obtain rfl : fn = Tryz.f7 := (Option.some.inj (Tryz.func7.symm.trans hfn)).symm
  refine ⟨by kernel_rfl, fun j t ht => ?_⟩
  rw [Tryz.params7] at ht
  have ht' := Array.mem_of_getElem? ht
  simp only [List.mem_toArray, List.mem_cons, List.not_mem_nil, or_false] at ht'
  first | (rcases ht' with rfl | rfl) | subst ht'
  all_goals (show Tryz.prog.wantsStandIn _ = false; kernel_rfl)

theorem proved : Rows.NumsetAlgebraUptoCardSaid :=
  Claim7.holds_tied_plain_at .later [] _ _ _ _ over (fun _ h => by cases h) (by kernel_rfl) (fun _ h => by cases h) numsetAlgebraUpto_row_tie rfl ⟨rfl, rfl⟩ (by kernel_rfl) rfl plain (by kernel_rfl)
end Go.Proofs.YtnifalngeimpnaaGreatDoor
