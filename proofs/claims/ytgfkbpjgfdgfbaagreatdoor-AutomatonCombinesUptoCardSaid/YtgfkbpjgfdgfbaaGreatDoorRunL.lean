/- Pairs: a round of the inner loop, where no state is there. -/
import Derived.Test.YtgfkbpjgfdgfbaaGreatDoorRunF
set_option linter.unusedSimpArgs false
set_option linter.unusedVariables false
set_option maxRecDepth 100000
set_option maxHeartbeats 16000000
namespace Ago
open Go (IntKind)
theorem pa_round6 {Q:Ex→St→Prop} (a b:List Sta) (ha:SmallM a) (hb:SmallM b) (hva:validM a=true) (hvb:validM b=true) (at':List Nat) (hal:at'.length≤256) (hab : ∀ c, c∈at'→c<256) (kf i:Nat) (p:Nat × Nat) (hp:p.1<a.length∧p.2<b.length) (o:List (Nat × Nat)) 
    (acc:Bool) (k c:Nat) (hck:at'[k]?=some c) (hmx:(numGo o ((toP a b at' p).take k)).2.length≤1024) (hno:nxP a b p c∈(numGo o ((toP a b at' p).take k)).2∨(numGo o ((toP a b at' p).take k)).2.length<1024) :
    aw (RunOf CB) (PRun CB) (ac367.lp 1) (awThen (fun t=>∃ a', t.norm [2, 3, 4, 6, 8, 9, 10, 11, 12, 13, 14, 63, 64, 65]=paT a b at' kf i p o [] 6 acc a'∧(a'≤at'.length∧(numGo o ((toP a b at' p).take a')).2.length≤1024)∧at'.length-a'<at'.length-k) Q) (paT a b at' kf i p o [] 6 acc k):=by
  simp only[AFn.lp, ac367, ACode.loopsOf, List.cons_append, List.append_nil, List.nil_append, List.getD_cons_succ, List.getD_cons_zero]
  obtain ⟨x, hx⟩:=exAt hp.1
  obtain ⟨y, hy⟩:=exAt hp.2
  have hkt:=(List.getElem?_eq_some_iff.1 hck).1
  have hc256:=hab c (List.mem_of_getElem? hck)
  have hc2:(at'.map encN)[k]?=some (.int .i64 c):=mget hck
  have hc3:at'.getD k 0=c:=by rw[List.getD_eq_getElem?_getD, hck]; rfl
  have hT:(toP a b at' p).take (k+1)=(toP a b at' p).take k++[nxP a b p c]:=by
    unfold toP
    rw[List.take_add_one, List.getElem?_map, hck]
    rfl
  have hS:=numGo_snoc (nxP a b p c) ((toP a b at' p).take k) o
  rw[←hT] at hS
  have hnl:=numGo_len ((toP a b at' p).take k) o
  rw[List.length_take, show (toP a b at' p).length=at'.length by unfold toP; rw[List.length_map]] at hnl
  obtain ⟨⟨ns, o'⟩, hr⟩ : ∃ r, numGo o ((toP a b at' p).take k)=r:=⟨_, rfl⟩
  rw[hr] at hmx hno hS hnl
  dsimp only at hmx hno hS hnl
  have hnl2:ns.length=k:=by omega
  have hsa:=step_run a ha p.1 x hx c
  have hsb:=step_run b hb p.2 y hy c
  rw[step_next _ 0 (valid_arcs hva (List.mem_of_getElem? hx)) (by omega)] at hsa
  rw[step_next _ 0 (valid_arcs hvb (List.mem_of_getElem? hy)) (by omega)] at hsb
  have hna:=(next_lt hva (List.mem_of_getElem? hx) hc256).1
  have hnb:=(next_lt hvb (List.mem_of_getElem? hy) hc256).1
  have hca:nextGo (c:Nat) x.arcs=(nxP a b p c).1:=by
    show _=((nextA a p.1 c:Nat):Int)
    rw[nextA_at hx]
    omega
  have hcb:nextGo (c:Nat) y.arcs=(nxP a b p c).2:=by
    show _=((nextA b p.2 c:Nat):Int)
    rw[nextA_at hy]
    omega
  rw[hca] at hsa
  rw[hcb] at hsb
  unfold encMa at hsa hsb
  obtain ⟨t, ht⟩ : ∃ t, nxP a b p c=t:=⟨_, rfl⟩
  rw[ht] at hsa hsb hno hS hT
  have hMR:(Blk.map (nmE (o'.map encP))).refs=[]:=nmE_refs (still_prs _)
  have hMN : ∀ f g, Blk.ren f g (.map (nmE (o'.map encP))) = .map (nmE (o'.map encP)):=nmE_ren (still_prs _)
  have hKl:=arcK_len at' ns k
  have hh:=hiOf_run at' (by omega) hab k (by omega)
  have hf:findKey (.many [.int, .int]) (.agg [.int .i64 t.1, .int .i64 t.2]) (nmE (o'.map encP)) 0=_:=find_pr t o' 0 0
  simp only[Nat.zero_add] at hf
  have hA0 : ∀ j:Nat, arcK at' (ns++[j]) (k+1)=arcF (arcK at' ns k) c (hiN at' k) j:=fun j=>by
    rw[arcK, arcK_pre at' ns [j] k (by omega), hc3]
    congr 1
    rw[List.getD_eq_getElem?_getD, List.getElem?_append_right (by omega), hnl2, Nat.sub_self]
    rfl
  obtain ⟨A, hA⟩ : ∃ A, arcK at' ns k=A:=⟨_, rfl⟩
  rw[hA] at hA0 hKl
  have hch : ∀ u v:Int, chunk 1 2 [AV.int .i64 u, AV.int .i64 v]=[AV.int .i64 u, AV.int .i64 v]:=fun _ _=>rfl
  have hfl : ∀ u v:Int, flat [AV.int .i64 u, AV.int .i64 v]=[AV.int .i64 u, AV.int .i64 v]:=fun _ _=>rfl
  by_cases hin:t∈o'
  · rw[if_pos hin] at hf hS
    obtain ⟨j, hj⟩ : ∃ j, @List.idxOf _ instBEqOfDecidableEq t o'=j:=⟨_, rfl⟩
    rw[hj] at hf hS
    have hA1:=hA0 j
    rcases last_cases A with rfl | ⟨az, e, rfl⟩
    · rw[arcF_nil] at hA1
      rw[paT, hr]
      dsimp only
      rw[hA, nuA_nil, paH, paO_nil]
      (repeat' first|simp (disch:=omega) only[go_sem, List.length_map, hc2, hf, hch, hfl, List.take_succ_cons, List.take_zero]|refine pure_of _ (hh) ?_|refine pure_of _ (hsa) ?_|refine pure_of _ (hsb) ?_|(apply spl<;>intro h<;>try simp (disch:=omega) only[go_sem, List.length_map, hc2, hf, hch, hfl, List.take_succ_cons, List.take_zero , h]))
      all_goals try omega
      refine call_of _ _ (addArc_nil (cl_of (n:=9) rfl (by repeat' first | exact all_nil | (refine all_cons ?_ ?_) | exact clb_flat (by decide) | exact clb_map (still_prs _) | exact clb_box1 (by decide) (by decide) | exact clb_box2 (by decide) (by decide) | exact clb_one (by decide) (by decide) | exact clb_gone | exact clb_resv)) c (hiN at' k) j) ?_
      (repeat' first|simp (disch:=omega) only[go_sem]|(apply spl<;>intro h<;>try simp (disch:=omega) only[go_sem, h]))
      all_goals try omega
      refine ⟨k+1, ?_, ⟨by omega, (by rw[hS]; exact hmx)⟩, by omega⟩
      rw[paT, hS]
      dsimp only
      rw[hA1, ← List.nil_append [(⟨c, hiN at' k, j⟩:Arc)], nuA_snoc, paH, paO_nil]
      refine (norm_by0 [[], [], [], [], [], [], [], [9], [], []] [0, 1, 2, 3, 4, 5, 6, 7, 9] (by simp only[List.map_cons, List.map_nil, List.cons_append, List.nil_append, hMR]; rfl) rfl rfl rfl rfl ?_)
      simp only[List.map_cons, List.map_nil, List.cons_append, List.nil_append, List.getD_eq_getElem?_getD, List.getElem?_cons_zero, List.getElem?_cons_succ, Option.getD_some, hMN]
      rfl
    · have hal2:az.length+1≤k:=by simpa using hKl
      by_cases haj:e.next=(j:Int)
      · rw[arcF_same haj] at hA1
        rw[paT, hr]
        dsimp only
        rw[hA, nuA_snoc, paH, paO_nil]
        (repeat' first|simp (disch:=omega) only[go_sem, List.length_map, hc2, hf, hch, hfl, List.take_succ_cons, List.take_zero]|refine pure_of _ (hh) ?_|refine pure_of _ (hsa) ?_|refine pure_of _ (hsb) ?_|(apply spl<;>intro h<;>try simp (disch:=omega) only[go_sem, List.length_map, hc2, hf, hch, hfl, List.take_succ_cons, List.take_zero , h]))
        all_goals try omega
        refine call_of _ _ (addArc_same (cl_of (n:=10) rfl (by repeat' first | exact all_nil | (refine all_cons ?_ ?_) | exact clb_flat (by decide) | exact clb_map (still_prs _) | exact clb_box1 (by decide) (by decide) | exact clb_box2 (by decide) (by decide) | exact clb_one (by decide) (by decide) | exact clb_gone | exact clb_resv)) (l:=az) (a:=e) (r:=6+2) (fam:=6+2) rfl (lone_of (l:=[8]) (by decide) rfl) (by show 6+2<10; decide) (by omega) c (hiN at' k) j haj) ?_
        (repeat' first|simp (disch:=omega) only[go_sem]|(apply spl<;>intro h<;>try simp (disch:=omega) only[go_sem, h]))
        all_goals try omega
        refine ⟨k+1, ?_, ⟨by omega, (by rw[hS]; exact hmx)⟩, by omega⟩
        rw[paT, hS]
        dsimp only
        rw[hA1, nuA_snoc, paH, paO_nil]
        refine (norm_by0 [[], [], [], [], [], [], [], [8], [], []] [0, 1, 2, 3, 4, 5, 6, 7, 8] (by simp only[List.map_cons, List.map_nil, List.cons_append, List.nil_append, hMR]; rfl) rfl rfl rfl rfl ?_)
        simp only[List.map_cons, List.map_nil, List.cons_append, List.nil_append, List.getD_eq_getElem?_getD, List.getElem?_cons_zero, List.getElem?_cons_succ, Option.getD_some, hMN]
        rfl
      · rw[arcF_diff haj] at hA1
        rw[paT, hr]
        dsimp only
        rw[hA, nuA_snoc, paH, paO_nil]
        (repeat' first|simp (disch:=omega) only[go_sem, List.length_map, hc2, hf, hch, hfl, List.take_succ_cons, List.take_zero]|refine pure_of _ (hh) ?_|refine pure_of _ (hsa) ?_|refine pure_of _ (hsb) ?_|(apply spl<;>intro h<;>try simp (disch:=omega) only[go_sem, List.length_map, hc2, hf, hch, hfl, List.take_succ_cons, List.take_zero , h]))
        all_goals try omega
        refine call_of _ _ (addArc_diff (cl_of (n:=10) rfl (by repeat' first | exact all_nil | (refine all_cons ?_ ?_) | exact clb_flat (by decide) | exact clb_map (still_prs _) | exact clb_box1 (by decide) (by decide) | exact clb_box2 (by decide) (by decide) | exact clb_one (by decide) (by decide) | exact clb_gone | exact clb_resv)) (l:=az) (a:=e) (r:=6+2) (fam:=6+2) rfl (lone_of (l:=[8]) (by decide) rfl) (by show 6+2<10; decide) (by omega) c (hiN at' k) j haj) ?_
        (repeat' first|simp (disch:=omega) only[go_sem]|(apply spl<;>intro h<;>try simp (disch:=omega) only[go_sem, h]))
        all_goals try omega
        refine ⟨k+1, ?_, ⟨by omega, (by rw[hS]; exact hmx)⟩, by omega⟩
        rw[paT, hS]
        dsimp only
        rw[hA1, nuA_snoc, paH, paO_nil, List.length_append]
        refine (norm_by0 [[], [], [], [], [], [], [], [10], [], [], []] [0, 1, 2, 3, 4, 5, 6, 7, 10] (by simp only[List.map_cons, List.map_nil, List.cons_append, List.nil_append, hMR]; rfl) rfl rfl rfl rfl ?_)
        simp only[List.map_cons, List.map_nil, List.cons_append, List.nil_append, List.getD_eq_getElem?_getD, List.getElem?_cons_zero, List.getElem?_cons_succ, Option.getD_some, hMN]
        rfl
  · rw[if_neg hin] at hf hS
    have hlt:=hno.resolve_left hin
    have hA1:=hA0 o'.length
    have hMR2:(Blk.map (nmE ((o'++[t]).map encP))).refs=[]:=nmE_refs (still_prs _)
    have hMN2 : ∀ f g, Blk.ren f g (.map (nmE ((o'++[t]).map encP))) = .map (nmE ((o'++[t]).map encP)):=nmE_ren (still_prs _)
    have hE:nmE (o'.map encP)++[(.agg [.int .i64 t.1, .int .i64 t.2], .int .i64 o'.length)]=nmE ((o'++[t]).map encP):=by
      have:=nmE_snoc (o'.map encP) (encP t)
      rw[List.length_map] at this
      rw[List.map_append]
      exact this
    have hO:o'.map encP++[.agg [.int .i64 t.1, .int .i64 t.2]]=(o'++[t]).map encP:=by rw[List.map_append]; rfl
    rcases last_cases A with rfl | ⟨az, e, rfl⟩
    · rw[arcF_nil] at hA1
      rw[paT, hr]
      dsimp only
      rw[hA, nuA_nil, paH, paO_nil]
      (repeat' first|simp (disch:=omega) only[go_sem, List.length_map, hc2, hf, hch, hfl, List.take_succ_cons, List.take_zero, hE, hO]|refine pure_of _ (hh) ?_|refine pure_of _ (hsa) ?_|refine pure_of _ (hsb) ?_|(apply spl<;>intro h<;>try simp (disch:=omega) only[go_sem, List.length_map, hc2, hf, hch, hfl, List.take_succ_cons, List.take_zero, hE, hO , h]))
      all_goals try omega
      refine call_of _ _ (addArc_nil (cl_of (n:=11) rfl (by repeat' first | exact all_nil | (refine all_cons ?_ ?_) | exact clb_flat (by decide) | exact clb_map (still_prs _) | exact clb_box1 (by decide) (by decide) | exact clb_box2 (by decide) (by decide) | exact clb_one (by decide) (by decide) | exact clb_gone | exact clb_resv)) c (hiN at' k) o'.length) ?_
      (repeat' first|simp (disch:=omega) only[go_sem]|(apply spl<;>intro h<;>try simp (disch:=omega) only[go_sem, h]))
      all_goals try omega
      refine ⟨k+1, ?_, ⟨by omega, (by rw[hS]; show (o'++[t]).length≤1024; rw[List.length_append, List.length_singleton]; omega)⟩, by omega⟩
      rw[paT, hS]
      dsimp only
      rw[hA1, ← List.nil_append [(⟨c, hiN at' k, o'.length⟩:Arc)], nuA_snoc, paH, paO_nil, List.length_append]
      refine (norm_by0 [[], [], [], [], [], [], [], [11], [], [], [], []] [0, 1, 2, 3, 10, 5, 6, 7, 11] (by simp only[List.map_cons, List.map_nil, List.cons_append, List.nil_append, hMR2]; rfl) rfl rfl rfl rfl ?_)
      simp only[List.map_cons, List.map_nil, List.cons_append, List.nil_append, List.getD_eq_getElem?_getD, List.getElem?_cons_zero, List.getElem?_cons_succ, Option.getD_some, hMN2]
      rfl
    · have hal2:az.length+1≤k:=by simpa using hKl
      by_cases haj:e.next=(o'.length:Int)
      · rw[arcF_same haj] at hA1
        rw[paT, hr]
        dsimp only
        rw[hA, nuA_snoc, paH, paO_nil]
        (repeat' first|simp (disch:=omega) only[go_sem, List.length_map, hc2, hf, hch, hfl, List.take_succ_cons, List.take_zero, hE, hO]|refine pure_of _ (hh) ?_|refine pure_of _ (hsa) ?_|refine pure_of _ (hsb) ?_|(apply spl<;>intro h<;>try simp (disch:=omega) only[go_sem, List.length_map, hc2, hf, hch, hfl, List.take_succ_cons, List.take_zero, hE, hO , h]))
        all_goals try omega
        refine call_of _ _ (addArc_same (cl_of (n:=12) rfl (by repeat' first | exact all_nil | (refine all_cons ?_ ?_) | exact clb_flat (by decide) | exact clb_map (still_prs _) | exact clb_box1 (by decide) (by decide) | exact clb_box2 (by decide) (by decide) | exact clb_one (by decide) (by decide) | exact clb_gone | exact clb_resv)) (l:=az) (a:=e) (r:=6+2) (fam:=6+2) rfl (lone_of (l:=[8]) (by decide) rfl) (by show 6+2<12; decide) (by omega) c (hiN at' k) o'.length haj) ?_
        (repeat' first|simp (disch:=omega) only[go_sem]|(apply spl<;>intro h<;>try simp (disch:=omega) only[go_sem, h]))
        all_goals try omega
        refine ⟨k+1, ?_, ⟨by omega, (by rw[hS]; show (o'++[t]).length≤1024; rw[List.length_append, List.length_singleton]; omega)⟩, by omega⟩
        rw[paT, hS]
        dsimp only
        rw[hA1, nuA_snoc, paH, paO_nil, List.length_append]
        refine (norm_by0 [[], [], [], [], [], [], [], [8], [], [], [], []] [0, 1, 2, 3, 11, 5, 6, 7, 8] (by simp only[List.map_cons, List.map_nil, List.cons_append, List.nil_append, hMR2]; rfl) rfl rfl rfl rfl ?_)
        simp only[List.map_cons, List.map_nil, List.cons_append, List.nil_append, List.getD_eq_getElem?_getD, List.getElem?_cons_zero, List.getElem?_cons_succ, Option.getD_some, hMN2]
        rfl
      · rw[arcF_diff haj] at hA1
        rw[paT, hr]
        dsimp only
        rw[hA, nuA_snoc, paH, paO_nil]
        (repeat' first|simp (disch:=omega) only[go_sem, List.length_map, hc2, hf, hch, hfl, List.take_succ_cons, List.take_zero, hE, hO]|refine pure_of _ (hh) ?_|refine pure_of _ (hsa) ?_|refine pure_of _ (hsb) ?_|(apply spl<;>intro h<;>try simp (disch:=omega) only[go_sem, List.length_map, hc2, hf, hch, hfl, List.take_succ_cons, List.take_zero, hE, hO , h]))
        all_goals try omega
        refine call_of _ _ (addArc_diff (cl_of (n:=12) rfl (by repeat' first | exact all_nil | (refine all_cons ?_ ?_) | exact clb_flat (by decide) | exact clb_map (still_prs _) | exact clb_box1 (by decide) (by decide) | exact clb_box2 (by decide) (by decide) | exact clb_one (by decide) (by decide) | exact clb_gone | exact clb_resv)) (l:=az) (a:=e) (r:=6+2) (fam:=6+2) rfl (lone_of (l:=[8]) (by decide) rfl) (by show 6+2<12; decide) (by omega) c (hiN at' k) o'.length haj) ?_
        (repeat' first|simp (disch:=omega) only[go_sem]|(apply spl<;>intro h<;>try simp (disch:=omega) only[go_sem, h]))
        all_goals try omega
        refine ⟨k+1, ?_, ⟨by omega, (by rw[hS]; show (o'++[t]).length≤1024; rw[List.length_append, List.length_singleton]; omega)⟩, by omega⟩
        rw[paT, hS]
        dsimp only
        rw[hA1, nuA_snoc, paH, paO_nil, List.length_append, List.length_append]
        refine (norm_by0 [[], [], [], [], [], [], [], [12], [], [], [], [], []] [0, 1, 2, 3, 11, 5, 6, 7, 12] (by simp only[List.map_cons, List.map_nil, List.cons_append, List.nil_append, hMR2]; rfl) rfl rfl rfl rfl ?_)
        simp only[List.map_cons, List.map_nil, List.cons_append, List.nil_append, List.getD_eq_getElem?_getD, List.getElem?_cons_zero, List.getElem?_cons_succ, Option.getD_some, hMN2]
        rfl
end Ago
