/- The law in the context of all functions. -/
import Derived.Test.YtgcpgfallgebhaaGreatDoorAwa
import Derived.Test.YtgcpgfallgebhaaGreatDoorRunH
import Derived.Test.YtgcpgfallgebhaaGreatDoorHeld
import Derived.Test.YtgcpgfallgebhaaGreatDoorTypes
import Derived.Test.YtgcpgfallgebhaaGreatDoorCards
import Derived.Test.YtgcpgfallgebhaaGreatDoorTie
import Derived.Deep.DeepHandedRow
set_option linter.unusedSimpArgs false
set_option linter.unusedVariables false
set_option maxRecDepth 100000
set_option maxHeartbeats 16000000
namespace Go.Proofs.YtgcpgfallgebhaaGreatDoor
open Ago
theorem law_run (s : Schs) (name : List UInt8) (hs : s.bulk ≤ 2 ^ 22) : PRun CF 443 [encSchs s,.str name] (.bool true) := by
  obtain ⟨b,hb,h70⟩ := SmallAll_ex s (by omega)
  have hb := upF hb
  have haw := awf_4
  unfold awfT4 awfV4 at haw
  refine prun_of (C := CF) ac443 rfl ?_
  cases b with
  | false =>
    rw [encSchs_eq] at hb ⊢
    (repeat' first | simp (disch := omega) only [go_sem,ac443,enter] | refine pure_of _ (hb) ?_ | refine pure_of _ (haw) ?_ | (refine spl (fun h => ?_) (fun h => ?_) <;> try simp (disch := omega) only [go_sem,ac443,enter ,h]) | fail)
  | true =>
    have h70 := h70 rfl
    have e1 := upF (Lookup_run s name (by omega))
    have e2 := upF (refLookup_run s name (by omega))
    have e3 := upF (Guarded_run s (by omega) (by omega))
    have e4 := upF (refGuarded_run s (by omega))
    have e5 := upF (refCheck_run s (by omega) _ _ (refGuarded_run s (by omega)))
    rw [encSchs_eq] at hb e1 e2 e3 e4 e5 ⊢
    cases hf : (lkM s name).2 with
    | false =>
      rw [hf] at e1 e2
      rw [if_neg (by simp),zeroX_eq] at e1
      rw [encSch_eq] at e2
      (repeat' first | simp (disch := omega) only [go_sem,ac443,enter,bne_self_eq_false,List.length_map] | refine pure_of _ (hb) ?_ | refine pure_of _ (e1) ?_ | refine pure_of _ (e2) ?_ | refine pure_of _ (e3) ?_ | refine pure_of _ (e4) ?_ | refine pure_of _ (e5) ?_ | refine pure_of _ (haw) ?_ | (refine spl (fun h => ?_) (fun h => ?_) <;> try simp (disch := omega) only [go_sem,ac443,enter,bne_self_eq_false,List.length_map ,h]) | fail)
    | true =>
      rw [hf] at e1 e2
      rw [if_pos rfl] at e1
      by_cases hz : schkM s (guardM s).2 = 0
      · obtain ⟨hc,e6⟩ := foundSame_run hs hz hf
        have e6 := upF e6
        rw [hc] at e1
        rw [hz] at e5
        rw [encSch_eq] at e1 e2 e6
        (repeat' first | simp (disch := omega) only [go_sem,ac443,enter,bne_self_eq_false,List.length_map] | refine pure_of _ (hb) ?_ | refine pure_of _ (e1) ?_ | refine pure_of _ (e2) ?_ | refine pure_of _ (e3) ?_ | refine pure_of _ (e4) ?_ | refine pure_of _ (e5) ?_ | refine pure_of _ (e6) ?_ | refine pure_of _ (haw) ?_ | (refine spl (fun h => ?_) (fun h => ?_) <;> try simp (disch := omega) only [go_sem,ac443,enter,bne_self_eq_false,List.length_map ,h]) | fail)
      · rw [encSch_eq] at e1 e2
        (repeat' first | simp (disch := omega) only [go_sem,ac443,enter,bne_self_eq_false,List.length_map,hz] | refine pure_of _ (hb) ?_ | refine pure_of _ (e1) ?_ | refine pure_of _ (e2) ?_ | refine pure_of _ (e3) ?_ | refine pure_of _ (e4) ?_ | refine pure_of _ (e5) ?_ | refine pure_of _ (haw) ?_ | (refine spl (fun h => ?_) (fun h => ?_) <;> try simp (disch := omega) only [go_sem,ac443,enter,bne_self_eq_false,List.length_map,hz ,h]) | fail)
end Go.Proofs.YtgcpgfallgebhaaGreatDoor
/- The law SchemaFinds: its card,proved,for arguments of bounded bulk. -/
set_option maxRecDepth 100000
namespace Go.Proofs.YtgcpgfallgebhaaGreatDoor
open Ago Go.ChangeShapes Go.WideShapes Go.ChangeAt Go.RowKit

theorem run (xs : List AV) (h : ArgsTy Tryz.prog Tryz.f4.params.toList xs) (hb : AV.bulks xs ≤ 1048576) : BS CF (.prun 443 xs (.bool true)) := by
  rw [Tryz.params4] at h
  match xs,h with
  | [x,y],h =>
    obtain ⟨s,rfl⟩ := argSchs h.1
    obtain ⟨n,rfl⟩ := argStr h.2.1
    simp only [AV.bulks] at hb
    exact law_run s n (by show (encSchs s).bulk ≤ _; omega)

/-- A world for the witness: the listed variables hold what their initialisers lay. -/
noncomputable def laidWorld (os : Os) : World :=
  let h0 := (World.holding Tryz.prog os ⟨#[],#[],[]⟩).heap
  let h1 := h0.modify 6 fun
    | .cells _ t frozen => .cells #[.int .u8 0,.int .u8 1,.int .u8 28,.int .u8 2,.int .u8 29,.int .u8 14,.int .u8 24,.int .u8 3,.int .u8 30,.int .u8 22,.int .u8 20,.int .u8 15,.int .u8 25,.int .u8 17,.int .u8 4,.int .u8 8,.int .u8 31,.int .u8 27,.int .u8 13,.int .u8 23,.int .u8 21,.int .u8 19,.int .u8 16,.int .u8 7,.int .u8 26,.int .u8 12,.int .u8 18,.int .u8 6,.int .u8 11,.int .u8 5,.int .u8 10,.int .u8 9] t frozen
    | o => o
  let h2 := h1.modify 7 fun
    | .cells _ t frozen => .cells #[.int .u8 0,.int .u8 1,.int .u8 56,.int .u8 2,.int .u8 57,.int .u8 49,.int .u8 28,.int .u8 3,.int .u8 61,.int .u8 58,.int .u8 42,.int .u8 50,.int .u8 38,.int .u8 29,.int .u8 17,.int .u8 4,.int .u8 62,.int .u8 47,.int .u8 59,.int .u8 36,.int .u8 45,.int .u8 43,.int .u8 51,.int .u8 22,.int .u8 53,.int .u8 39,.int .u8 33,.int .u8 30,.int .u8 24,.int .u8 18,.int .u8 12,.int .u8 5,.int .u8 63,.int .u8 55,.int .u8 48,.int .u8 27,.int .u8 60,.int .u8 41,.int .u8 37,.int .u8 16,.int .u8 46,.int .u8 35,.int .u8 44,.int .u8 21,.int .u8 52,.int .u8 32,.int .u8 23,.int .u8 11,.int .u8 54,.int .u8 26,.int .u8 40,.int .u8 15,.int .u8 34,.int .u8 20,.int .u8 31,.int .u8 10,.int .u8 25,.int .u8 14,.int .u8 19,.int .u8 9,.int .u8 13,.int .u8 8,.int .u8 7,.int .u8 6] t frozen
    | o => o
  let h3 := h2.modify 3 fun
    | .cells _ t frozen => .cells #[.int .u64 1,.int .u64 10,.int .u64 100,.int .u64 1000,.int .u64 10000,.int .u64 100000,.int .u64 1000000,.int .u64 10000000,.int .u64 100000000,.int .u64 1000000000,.int .u64 10000000000,.int .u64 100000000000,.int .u64 1000000000000,.int .u64 10000000000000,.int .u64 100000000000000,.int .u64 1000000000000000,.int .u64 10000000000000000,.int .u64 100000000000000000,.int .u64 1000000000000000000,.int .u64 10000000000000000000] t frozen
    | o => o
  let h4 := h3.modify 2 fun
    | .cells _ t frozen => .cells #[.int .u8 128,.int .u8 191,.int .u8 160,.int .u8 191,.int .u8 128,.int .u8 159,.int .u8 144,.int .u8 191,.int .u8 128,.int .u8 143,.int .u8 0,.int .u8 0,.int .u8 0,.int .u8 0,.int .u8 0,.int .u8 0,.int .u8 0,.int .u8 0,.int .u8 0,.int .u8 0,.int .u8 0,.int .u8 0,.int .u8 0,.int .u8 0,.int .u8 0,.int .u8 0,.int .u8 0,.int .u8 0,.int .u8 0,.int .u8 0,.int .u8 0,.int .u8 0] t frozen
    | o => o
  let h5 := h4.modify 5 fun
    | .cells _ t frozen => .cells #[.iface 255 (.pointer (some ⟨13,0,none⟩))] t frozen
    | o => o
  let h6 := h5.modify 4 fun
    | .cells _ t frozen => .cells #[.iface 255 (.pointer (some ⟨14,0,none⟩))] t frozen
    | o => o
  let h7 := h6.modify 1 fun
    | .cells _ t frozen => .cells (Go.Pinned.utf8FirstZ.map fun (n : Nat) => Value.int .u8 (Int.ofNat n)).toArray t frozen
    | o => o
  let h8 := h7.push (.cells #[.string ⟨#[118,97,108,117,101,32,111,117,116,32,111,102,32,114,97,110,103,101]⟩] 257 (0,0))
  let h9 := h8.push (.cells #[.string ⟨#[105,110,118,97,108,105,100,32,115,121,110,116,97,120]⟩] 257 (0,0))
  { World.holding Tryz.prog os ⟨#[],#[],[]⟩ with heap := h9 }
theorem laid_met (os : Os) : laidMet Tryz.prog Rows.schemaFindsRow.laid ((laidWorld os).forCall (fun _ _ => 0) ⟨#[],#[.agg #[.slice none 0 0,.int .i64 0,.int .i64 0,.int .i64 0,.int .i64 0,.string ⟨#[]⟩,.slice none 0 0,.int .i64 0,.int .i64 0,.int .i64 0,.int .i64 0,.int .i64 0,.slice none 0 0,.slice none 0 0,.slice none 0 0,.slice none 0 0],.string ⟨#[]⟩],[]⟩).memory :=
  laidMet_of_run' 8 (by kernel_rfl) (by kernel_rfl)
theorem reads (os : Os) {H : Type} (enc : TypeId × Value → H) : ∃ places,DataW.whole enc Tryz.prog ((laidWorld os).forCall (fun _ _ => 0) ⟨#[],#[.agg #[.slice none 0 0,.int .i64 0,.int .i64 0,.int .i64 0,.int .i64 0,.string ⟨#[]⟩,.slice none 0 0,.int .i64 0,.int .i64 0,.int .i64 0,.int .i64 0,.int .i64 0,.slice none 0 0,.slice none 0 0,.slice none 0 0,.slice none 0 0],.string ⟨#[]⟩],[]⟩).memory Tryz.f4.params.toList Rows.schemaFindsSpec.vars false (#[.agg #[.slice none 0 0,.int .i64 0,.int .i64 0,.int .i64 0,.int .i64 0,.string ⟨#[]⟩,.slice none 0 0,.int .i64 0,.int .i64 0,.int .i64 0,.int .i64 0,.int .i64 0,.slice none 0 0,.slice none 0 0,.slice none 0 0,.slice none 0 0],.string ⟨#[]⟩] : Array Value).toList 8 = some ([.agg [.nil,.agg [.lit (.int .i64 0),.lit (.int .i64 0),.lit (.int .i64 0),.lit (.int .i64 0),.lit (.string []),.agg [.nil],.agg [.lit (.int .i64 0),.lit (.int .i64 0),.lit (.int .i64 0),.lit (.int .i64 0),.lit (.int .i64 0),.nil],.nil,.nil,.nil]],.lit (.string [])],[],places) :=
  ⟨[],by kernel_rfl⟩

theorem lifted (os : Os) (started : os.Started) (H : Type) (enc : TypeId × Value → H) (F : Stop.Interp) :
    ReturnsInHanded {} Tryz.checked os 4 .any ((Rows.OpenSpec.upto Rows.schemaFindsSpec).preRow enc Tryz.prog Tryz.f4 Rows.schemaFindsUptoRow.domain false Rows.schemaFindsUptoRow.laid) (((Rows.OpenSpec.upto Rows.schemaFindsSpec).at F).post enc Tryz.prog Tryz.f4 false true false false) := by
  obtain ⟨places,hx⟩ := reads os enc
  refine returnsInHanded_of_row (C := Tryz.checked) (s := Rows.OpenSpec.upto Rows.schemaFindsSpec) own started (by kernel_rfl) Tryz.func4
    (witness_row_at (enc := enc) (C := Tryz.checked) false (laidWorld os) #[.agg #[.slice none 0 0,.int .i64 0,.int .i64 0,.int .i64 0,.int .i64 0,.string ⟨#[]⟩,.slice none 0 0,.int .i64 0,.int .i64 0,.int .i64 0,.int .i64 0,.int .i64 0,.slice none 0 0,.slice none 0 0,.slice none 0 0,.slice none 0 0],.string ⟨#[]⟩] rfl (by kernel_rfl) (by kernel_rfl) (by kernel_rfl)
      (OpenSpec.preRow_of_cond 8 hx (by kernel_rfl) (fun k hk => by cases hk; kernel_rfl) (by kernel_rfl) (laid_met os))) ?_
  intro W base args ds gs before hval hW _ hcond _ _ _ _
  have hk' : Rows.uptoBulkAll (ds ++ gs) ≤ 1048576 := of_decide_eq_true (hcond _ rfl)
  refine law_contract (s := Rows.schemaFindsSpec) (fn := Tryz.f4) (g := 4) (f := 443) (tb := 4) (N := 1048576) ctxOk laid (bulkFn H) tysOk rfl (fun ds hd => ?_) (by kernel_rfl) (fun t ht => ?_) (by kernel_rfl) (by kernel_rfl) uBOOL run hval hW hk'
  · match ds,hd with
    | [d0,d1],_ => rfl
  · rw [Tryz.params4] at ht
    simp only [Array.toList,List.mem_cons,List.not_mem_nil,or_false] at ht
    first | (rcases ht with rfl | rfl) | subst ht
    all_goals simp [tys]

theorem over : Rows.SchemaFindsUptoSaid :=
  OpenClaim.holds_of_cond 4 Tryz.f4 rfl rfl rfl rfl rfl rfl rfl ⟨rfl,rfl,rfl,rfl,rfl⟩ rfl rfl rfl rfl rfl (by kernel_rfl) Tryz.func4 (by kernel_rfl)
    (of_decide_eq_true (by kernel_rfl)) (by unfold Func.isWrapper; first | (rw [if_pos (by decide +kernel)]; kernel_rfl) | (rw [if_neg (by decide +kernel)]; exact ⟨rfl,rfl⟩))
    (fun os started H enc _ F => by rw [OpenClaim.pre_eq_preRow]; exact lifted os started H enc F)

theorem plain (f : FuncId) (fn : Func) (hf : Tryz.pinned.checked.prog.funcNamed "datakit/datakitlaw45.SchemaFinds" = some f) (hfn : Tryz.pinned.checked.prog.funcs[f]? = some fn) :
    true = Tryz.pinned.checked.prog.looks [] ∧ ∀ (j : Nat) t,fn.params[j]? = some t → Tryz.pinned.checked.prog.wantsStandIn t = false := by
  obtain rfl : f = 4 := Option.some.inj ((show Tryz.prog.funcNamed "datakit/datakitlaw45.SchemaFinds" = some 4 by kernel_rfl).symm.trans hf) |>.symm
  obtain rfl : fn = Tryz.f4 := (Option.some.inj (Tryz.func4.symm.trans hfn)).symm
  refine ⟨by kernel_rfl,fun j t ht => ?_⟩
  rw [Tryz.params4] at ht
  have ht' := Array.mem_of_getElem? ht
  simp only [List.mem_toArray,List.mem_cons,List.not_mem_nil,or_false] at ht'
  first | (rcases ht' with rfl | rfl) | subst ht'
  all_goals (show Tryz.prog.wantsStandIn _ = false; kernel_rfl)

theorem proved : Rows.SchemaFindsUptoCardSaid :=
  Claim7.holds_tied_plain_at .later [] _ _ _ _ over (fun _ h => by cases h) (by kernel_rfl) (fun _ h => by cases h) schemaFindsUpto_row_tie rfl ⟨rfl,rfl⟩ (by kernel_rfl) rfl plain (by kernel_rfl)
end Go.Proofs.YtgcpgfallgebhaaGreatDoor
