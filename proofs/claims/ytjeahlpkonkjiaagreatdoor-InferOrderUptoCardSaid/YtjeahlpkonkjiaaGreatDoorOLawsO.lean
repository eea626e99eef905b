/- The law InferOrder: its card,proved,for arguments of bounded bulk. -/
import Derived.Test.YtjeahlpkonkjiaaGreatDoorOHeld
import Derived.Test.YtjeahlpkonkjiaaGreatDoorOTypes
import Derived.Test.YtjeahlpkonkjiaaGreatDoorORunT
import Derived.Test.YtjeahlpkonkjiaaGreatDoorORunO
import Derived.Test.YtjeahlpkonkjiaaGreatDoorCards
import Derived.Test.YtjeahlpkonkjiaaGreatDoorTie
import Derived.Deep.DeepHandedRow
set_option linter.unusedSimpArgs false
set_option linter.unusedVariables false
set_option maxRecDepth 100000
namespace Go.Proofs.YtjeahlpkonkjiaaGreatDoor
open Ago Go.ChangeShapes Go.WideShapes Go.ChangeAt Go.RowKit

theorem ag28:q0v Tryz.prog 28=false:=by kernel_rfl
theorem argVs {x:AV} (h:qpr Tryz.prog 28 x) : ∃ l:List V,x=.tsl 13 (l.map q0u):=by
  obtain ⟨k,h1,h2⟩:=h
  obtain ⟨l,hl⟩:=(tyV k).2.2.1 _ h2
  rw[hl,ag28] at h1
  exact ⟨l,(Option.some.inj h1).symm⟩
theorem run (xs:List AV) (h:qfi Tryz.prog Tryz.f5.params.toList xs) (hb:AV.bulks xs≤1048576):BS CI (.prun 961 xs (.bool true)):=by
  rw[Tryz.params5] at h
  match xs,h with
  | [x,y],h=>
    obtain ⟨l,rfl⟩:=argVs h.1
    obtain ⟨v,rfl⟩:=qye h.2.1
    simp only[AV.bulks,AV.bulk] at hb
    exact quE qpG l v (by have e2:(q0u v).bulk=v.bulk:=rfl; omega)

/-- A world for the witness: the listed variables hold what their initialisers lay. -/
noncomputable def q9y (os:Os):World:=
  let h0:=(World.holding Tryz.prog os ⟨#[],#[],[]⟩).heap
  let h1:=h0.modify 2 fun
    | .cells _ t frozen=>.cells #[.int .u8 128,.int .u8 191,.int .u8 160,.int .u8 191,.int .u8 128,.int .u8 159,.int .u8 144,.int .u8 191,.int .u8 128,.int .u8 143,.int .u8 0,.int .u8 0,.int .u8 0,.int .u8 0,.int .u8 0,.int .u8 0,.int .u8 0,.int .u8 0,.int .u8 0,.int .u8 0,.int .u8 0,.int .u8 0,.int .u8 0,.int .u8 0,.int .u8 0,.int .u8 0,.int .u8 0,.int .u8 0,.int .u8 0,.int .u8 0,.int .u8 0,.int .u8 0] t frozen
    | o=>o
  let h2:=h1.modify 1 fun
    | .cells _ t frozen=>.cells (Go.Pinned.utf8FirstZ.map fun (n:Nat)=>Value.int .u8 (Int.ofNat n)).toArray t frozen
    | o=>o
  { World.holding Tryz.prog os ⟨#[],#[],[]⟩ with heap:=h2 }
theorem qnl (os:Os):laidMet Tryz.prog Rows.inferOrderRow.laid ((q9y os).forCall (fun _ _=>0) ⟨#[],#[.slice none 0 0,.agg #[.int .i64 0,.bool false,.bool false,.string ⟨#[]⟩,.int .i64 0,.int .i64 0,.int .i64 0,.int .i64 0,.int .i64 0,.string ⟨#[]⟩,.slice none 0 0,.slice none 0 0,.slice none 0 0]],[]⟩).memory:=
  laidMet_of_run' 8 (by kernel_rfl) (by kernel_rfl)
theorem qt6 (os:Os) {H:Type} (enc:TypeId × Value→H) : ∃ places,DataW.whole enc Tryz.prog ((q9y os).forCall (fun _ _=>0) ⟨#[],#[.slice none 0 0,.agg #[.int .i64 0,.bool false,.bool false,.string ⟨#[]⟩,.int .i64 0,.int .i64 0,.int .i64 0,.int .i64 0,.int .i64 0,.string ⟨#[]⟩,.slice none 0 0,.slice none 0 0,.slice none 0 0]],[]⟩).memory Tryz.f5.params.toList Rows.inferOrderSpec.vars false (#[.slice none 0 0,.agg #[.int .i64 0,.bool false,.bool false,.string ⟨#[]⟩,.int .i64 0,.int .i64 0,.int .i64 0,.int .i64 0,.int .i64 0,.string ⟨#[]⟩,.slice none 0 0,.slice none 0 0,.slice none 0 0]]:Array Value).toList 8=some ([.nil,.agg [.lit (.int .i64 0),.lit (.bool false),.agg [.lit (.bool false),.lit (.string []),.lit (.int .i64 0)],.agg [.lit (.int .i64 0),.lit (.int .i64 0),.lit (.int .i64 0),.lit (.int .i64 0)],.lit (.string []),.nil,.nil,.nil]],[],places):=
  ⟨[],by kernel_rfl⟩

theorem qsn (os:Os) (started:os.Started) (H:Type) (enc:TypeId × Value→H) (F:Stop.Interp) :
    ReturnsInHanded {} Tryz.checked os 5 .any ((Rows.OpenSpec.upto Rows.inferOrderSpec).preRow enc Tryz.prog Tryz.f5 Rows.inferOrderUptoRow.domain false Rows.inferOrderUptoRow.laid) (((Rows.OpenSpec.upto Rows.inferOrderSpec).at F).post enc Tryz.prog Tryz.f5 false true false false):=by
  obtain ⟨places,hx⟩:=qt6 os enc
  refine returnsInHanded_of_row (C:=Tryz.checked) (s:=Rows.OpenSpec.upto Rows.inferOrderSpec) own started (by kernel_rfl) Tryz.func5
    (witness_row_at (enc:=enc) (C:=Tryz.checked) false (q9y os) #[.slice none 0 0,.agg #[.int .i64 0,.bool false,.bool false,.string ⟨#[]⟩,.int .i64 0,.int .i64 0,.int .i64 0,.int .i64 0,.int .i64 0,.string ⟨#[]⟩,.slice none 0 0,.slice none 0 0,.slice none 0 0]] rfl (by kernel_rfl) (by kernel_rfl) (by kernel_rfl)
      (OpenSpec.preRow_of_cond 8 hx (by kernel_rfl) (fun k hk=>by cases hk; kernel_rfl) (by kernel_rfl) (qnl os))) ?_
  intro W base args ds gs before hval hW _ hcond _ _ _ _
  have hk':Rows.uptoBulkAll (ds++gs)≤1048576:=of_decide_eq_true (hcond _ rfl)
  refine qda (s:=Rows.inferOrderSpec) (fn:=Tryz.f5) (g:=5) (f:=961) (tb:=4) (N:=1048576) qwx laid (qvd H) qwQ rfl (fun ds hd=>?_) (by kernel_rfl) (fun t ht=>?_) (by kernel_rfl) (by kernel_rfl) qsM run hval hW hk'
  · match ds,hd with
    | [d0,d1],_=>rfl
  · rw[Tryz.params5] at ht
    simp only[Array.toList,Ks,V2,or_false] at ht
    first | (rcases ht with rfl | rfl) | subst ht
    all_goals simp [tys]

theorem qyc:Rows.InferOrderUptoSaid:=
  OpenClaim.holds_of_cond 5 Tryz.f5 rfl rfl rfl rfl rfl rfl rfl ⟨rfl,rfl,rfl,rfl,rfl⟩ rfl rfl rfl rfl rfl (by kernel_rfl) Tryz.func5 (by kernel_rfl)
    (of_decide_eq_true (by kernel_rfl)) (by unfold Func.isWrapper; first | (rw[if_pos (by decide +kernel)]; kernel_rfl) | (rw[if_neg (by decide +kernel)]; exact ⟨rfl,rfl⟩))
    (fun os started H enc _ F=>by rw[OpenClaim.pre_eq_preRow]; exact qsn os started H enc F)

theorem plain (f : FuncId) (fn : Func) (hf : Tryz.pinned.checked.prog.funcNamed "datakit/datakitlaw52.InferOrder" = some f) (hfn : Tryz.pinned.checked.prog.funcs[f]? = some fn) :
    false=Tryz.pinned.checked.prog.looks []∧∀ (j:Nat) t,fn.params[j]?=some t→Tryz.pinned.checked.prog.wantsStandIn t=false:=by
  obtain rfl : f = 5 := K8 ((show Tryz.prog.funcNamed "datakit/datakitlaw52.InferOrder" = some 5 by kernel_rfl).symm.trans hf) |>.symm
  obtain rfl:fn=Tryz.f5:=(K8 (Tryz.func5.symm.trans hfn)).symm
  refine ⟨by kernel_rfl,fun j t ht=>?_⟩
  rw[Tryz.params5] at ht
  have ht':=Array.mem_of_getElem? ht
  simp only[List.mem_toArray,Ks,V2,or_false] at ht'
  first | (rcases ht' with rfl | rfl) | subst ht'
  all_goals (show Tryz.prog.wantsStandIn _=false; kernel_rfl)

theorem proved:Rows.InferOrderUptoCardSaid:=
  Claim7.holds_tied_plain_at .later [] _ _ _ _ qyc (fun _ h=>by cases h) (by kernel_rfl) (fun _ h=>by cases h) inferOrderUpto_row_tie rfl ⟨rfl,rfl⟩ (by kernel_rfl) rfl plain (by kernel_rfl)
end Go.Proofs.YtjeahlpkonkjiaaGreatDoor
