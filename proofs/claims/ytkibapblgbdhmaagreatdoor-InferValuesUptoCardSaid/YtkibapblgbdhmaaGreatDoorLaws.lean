/- The law InferValues: its card,proved,for arguments of bounded bulk. -/
import Derived.Test.YtkibapblgbdhmaaGreatDoorHeld
import Derived.Test.YtkibapblgbdhmaaGreatDoorTypes
import Derived.Test.YtkibapblgbdhmaaGreatDoorRunO
import Derived.Test.YtkibapblgbdhmaaGreatDoorCards
import Derived.Test.YtkibapblgbdhmaaGreatDoorTie
import Derived.Deep.DeepHandedRow
set_option linter.unusedSimpArgs false
set_option linter.unusedVariables false
set_option maxRecDepth 100000
namespace Go.Proofs.YtkibapblgbdhmaaGreatDoor
open Ago Go.ChangeShapes Go.WideShapes Go.ChangeAt Go.RowKit

theorem run (xs:List AV) (h:qeF Tryz.prog Tryz.f3.params.toList xs) (hb:AV.bulks xs≤1048576):BS CI (.prun 957 xs (.bool true)):=by
  rw[Tryz.params3] at h
  match xs,h with
  | [x],h=>
    obtain ⟨l,rfl⟩:=qrd h.1
    simp only[AV.bulks,AV.bulk] at hb
    exact qmt l (by omega)

/-- A world for the witness: the listed variables hold what their initialisers lay. -/
noncomputable def q8m (os:Os):World:=
  let h0:=(World.holding Tryz.prog os ⟨#[],#[],[]⟩).heap
  let h1:=h0.modify 2 fun
    | .cells _ t frozen=>.cells #[.int .u8 128,.int .u8 191,.int .u8 160,.int .u8 191,.int .u8 128,.int .u8 159,.int .u8 144,.int .u8 191,.int .u8 128,.int .u8 143,.int .u8 0,.int .u8 0,.int .u8 0,.int .u8 0,.int .u8 0,.int .u8 0,.int .u8 0,.int .u8 0,.int .u8 0,.int .u8 0,.int .u8 0,.int .u8 0,.int .u8 0,.int .u8 0,.int .u8 0,.int .u8 0,.int .u8 0,.int .u8 0,.int .u8 0,.int .u8 0,.int .u8 0,.int .u8 0] t frozen
    | o=>o
  let h2:=h1.modify 1 fun
    | .cells _ t frozen=>.cells (Go.Pinned.utf8FirstZ.map fun (n:Nat)=>Value.int .u8 (Int.ofNat n)).toArray t frozen
    | o=>o
  { World.holding Tryz.prog os ⟨#[],#[],[]⟩ with heap:=h2 }
theorem qjs (os:Os):laidMet Tryz.prog Rows.inferValuesRow.laid ((q8m os).forCall (fun _ _=>0) ⟨#[],#[.slice none 0 0],[]⟩).memory:=
  laidMet_of_run' 8 (by kernel_rfl) (by kernel_rfl)
theorem reads (os:Os) {H:Type} (enc:TypeId × Value→H) : ∃ places,DataW.whole enc Tryz.prog ((q8m os).forCall (fun _ _=>0) ⟨#[],#[.slice none 0 0],[]⟩).memory Tryz.f3.params.toList Rows.inferValuesSpec.vars false (#[.slice none 0 0]:Array Value).toList 8=some ([.nil],[],places):=
  ⟨[],by kernel_rfl⟩

theorem qoK (os:Os) (started:os.Started) (H:Type) (enc:TypeId × Value→H) (F:Stop.Interp) :
    ReturnsInHanded {} Tryz.checked os 3 .any ((Rows.OpenSpec.upto Rows.inferValuesSpec).preRow enc Tryz.prog Tryz.f3 Rows.inferValuesUptoRow.domain false Rows.inferValuesUptoRow.laid) (((Rows.OpenSpec.upto Rows.inferValuesSpec).at F).post enc Tryz.prog Tryz.f3 false true false false):=by
  obtain ⟨places,hx⟩:=reads os enc
  refine returnsInHanded_of_row (C:=Tryz.checked) (s:=Rows.OpenSpec.upto Rows.inferValuesSpec) own started (by kernel_rfl) Tryz.func3
    (witness_row_at (enc:=enc) (C:=Tryz.checked) false (q8m os) #[.slice none 0 0] rfl (by kernel_rfl) (by kernel_rfl) (by kernel_rfl)
      (OpenSpec.preRow_of_cond 8 hx (by kernel_rfl) (fun k hk=>by cases hk; kernel_rfl) (by kernel_rfl) (qjs os))) ?_
  intro W base args ds gs before hval hW _ hcond _ _ _ _
  have hk':Rows.uptoBulkAll (ds++gs)≤1048576:=of_decide_eq_true (hcond _ rfl)
  refine qbG (s:=Rows.inferValuesSpec) (fn:=Tryz.f3) (g:=3) (f:=957) (tb:=4) (N:=1048576) qr0 laid (qoR H) qqO rfl (fun ds hd=>?_) (by kernel_rfl) (fun t ht=>?_) (by kernel_rfl) (by kernel_rfl) qoA run hval hW hk'
  · match ds,hd with
    | [d0],_=>rfl
  · rw[Tryz.params3] at ht
    simp only[Array.toList,List.mem_cons,List.not_mem_nil,or_false] at ht
    first | (rcases ht with rfl) | subst ht
    all_goals simp [tys]

theorem over:Rows.InferValuesUptoSaid:=
  OpenClaim.holds_of_cond 3 Tryz.f3 rfl rfl rfl rfl rfl rfl rfl ⟨rfl,rfl,rfl,rfl,rfl⟩ rfl rfl rfl rfl rfl (by kernel_rfl) Tryz.func3 (by kernel_rfl)
    (of_decide_eq_true (by kernel_rfl)) (by unfold Func.isWrapper; first | (rw[if_pos (by decide +kernel)]; kernel_rfl) | (rw[if_neg (by decide +kernel)]; exact ⟨rfl,rfl⟩))
    (fun os started H enc _ F=>by rw[OpenClaim.pre_eq_preRow]; exact qoK os started H enc F)

theorem plain (f : FuncId) (fn : Func) (hf : Tryz.pinned.checked.prog.funcNamed "datakit/datakitlaw52.InferValues" = some f) (hfn : Tryz.pinned.checked.prog.funcs[f]? = some fn) :
    false=Tryz.pinned.checked.prog.looks []∧∀ (j:Nat) t,fn.params[j]?=some t→Tryz.pinned.checked.prog.wantsStandIn t=false:=by
  obtain rfl : f = 3 := Option.some.inj ((show Tryz.prog.funcNamed "datakit/datakitlaw52.InferValues" = some 3 by kernel_rfl).symm.trans hf) |>.symm
  obtain rfl:fn=Tryz.f3:=(Option.some.inj (Tryz.func3.symm.trans hfn)).symm
  refine ⟨by kernel_rfl,fun j t ht=>?_⟩
  rw[Tryz.params3] at ht
  have ht':=Array.mem_of_getElem? ht
  simp only[List.mem_toArray,List.mem_cons,List.not_mem_nil,or_false] at ht'
  first | (rcases ht' with rfl) | subst ht'
  all_goals (show Tryz.prog.wantsStandIn _=false; kernel_rfl)

theorem proved:Rows.InferValuesUptoCardSaid:=
  Claim7.holds_tied_plain_at .later [] _ _ _ _ over (fun _ h=>by cases h) (by kernel_rfl) (fun _ h=>by cases h) inferValuesUpto_row_tie rfl ⟨rfl,rfl⟩ (by kernel_rfl) rfl plain (by kernel_rfl)
end Go.Proofs.YtkibapblgbdhmaaGreatDoor
