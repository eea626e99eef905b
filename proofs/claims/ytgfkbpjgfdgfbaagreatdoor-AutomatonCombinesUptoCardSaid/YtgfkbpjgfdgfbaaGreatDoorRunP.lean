/- Pairs: the reference's pairs: a round of the loop over bytes, where there are states. -/
import Derived.Test.YtgfkbpjgfdgfbaaGreatDoorRunO
set_option linter.unusedSimpArgs false
set_option linter.unusedVariables false
set_option maxRecDepth 100000
set_option maxHeartbeats 16000000
namespace Ago
open Go (IntKind)
theorem pr_round6 {Q:Ex→St→Prop} (a b:List Sta) (ha:SmallM a) (hb:SmallM b) (hva:validM a=true) (hvb:validM b=true) (at':List Nat) (hal:at'.length≤256) (hab : ∀ c, c∈at'→c<256) (op:Int) (i:Nat) (p:Nat × Nat) (hp:p.1<a.length∧p.2<b.length) (o:List (Nat × Nat)) (hol:o.length≤1024) (s0:Sta) (ls:List Sta) (hls:ls.length≤1024)
    (k c:Nat) (hck:at'[k]?=some c) :
    aw (RunOf CB) (PRun CB) (ac368.lp 1) (awThen (fun t=>∃ a', t.head [0, 4, 5, 6, 8, 9, 10, 11, 12, 13, 14, 15, 2009]=prT a b at' op i p o (s0::ls) 6 a'∧a'≤at'.length∧at'.length-a'<at'.length-k) Q) (prT a b at' op i p o (s0::ls) 6 k):=by
  simp only[AFn.lp, ac368, ACode.loopsOf, List.cons_append, List.append_nil, List.nil_append, List.getD_cons_succ, List.getD_cons_zero]
  obtain ⟨x, hx⟩:=exAt hp.1
  obtain ⟨y, hy⟩:=exAt hp.2
  have hkt:=(List.getElem?_eq_some_iff.1 hck).1
  have hc256:=hab c (List.mem_of_getElem? hck)
  have hc2:(at'.map encN)[k]?=some (.int .i64 c):=mget hck
  have hT:(toP a b at' p).take (k+1)=(toP a b at' p).take k++[nxP a b p c]:=by
    unfold toP
    rw[List.take_add_one, List.getElem?_map, hck]
    rfl
  have hS:=numGo_snoc (nxP a b p c) ((toP a b at' p).take k) o
  rw[←hT] at hS
  have hnl:=numGo_len ((toP a b at' p).take k) o
  obtain ⟨u, hu, hul⟩:=numGo_grow ((toP a b at' p).take k) o
  rw[List.length_take, show (toP a b at' p).length=at'.length by unfold toP; rw[List.length_map]] at hnl hul
  obtain ⟨⟨ns, o'⟩, hr⟩ : ∃ r, numGo o ((toP a b at' p).take k)=r:=⟨_, rfl⟩
  rw[hr] at hS hnl hu
  dsimp only at hS hnl hu
  have hnl2:ns.length=k:=by omega
  have hol2:o'.length<2^20:=by
    rw[hu, List.length_append]
    omega
  have hsa:=next_run a ha p.1 x hx c
  have hsb:=next_run b hb p.2 y hy c
  have hna:=(next_lt hva (List.mem_of_getElem? hx) hc256).1
  have hnb:=(next_lt hvb (List.mem_of_getElem? hy) hc256).1
  have hca:nextGo (c:Nat) x.arcs=(nxP a b p c).1:=by
    show _=((nextA a p.1 c:Nat):Int)
    rw[nextA_at hx]
    omega
  have hcb:nextGo (c:Nat) y.arcs=(nxP a b p c).2:=by
    show _=((nextA b p.2 c:Nat):Int)
    rw[nextA_at hy]
    omega
  rw[hca] at hsa
  rw[hcb] at hsb
  unfold encMa at hsa hsb
  obtain ⟨t, ht⟩ : ∃ t, nxP a b p c=t:=⟨_, rfl⟩
  rw[ht] at hsa hsb hS hT
  have hf:=find_r2 o' t hol2
  have htk:((o'.map r2).map encB).take o'.length=(o'.map r2).map encB:=List.take_of_length_le (by rw[List.length_map, List.length_map]; exact Nat.le_refl _)
  by_cases hin:t∈o'
  · rw[if_pos hin] at hf hS
    obtain ⟨j, hj⟩ : ∃ j, @List.idxOf _ instBEqOfDecidableEq t o'=j:=⟨_, rfl⟩
    rw[hj] at hf hS
    cases ns with
    | nil=>
      rw[prT, hr]
      dsimp only
      rw[prH, prO_cons, r11V, r11T]
      (repeat' first|simp (disch:=omega) only[go_sem, List.length_map, hc2, htk, List.map_cons, List.length_cons]|refine pure_of _ (hf) ?_|refine pure_of _ (hsa) ?_|refine pure_of _ (hsb) ?_|(apply spl<;>intro h<;>try simp (disch:=omega) only[go_sem, List.length_map, hc2, htk, List.map_cons, List.length_cons , h]))
      all_goals try omega
      refine ⟨k+1, ?_, by omega, by omega⟩
      rw[prT, hS]
      dsimp only
      rw[prH, prO_cons, r11V_snoc, r11T_snoc]
      refine (head_thaw (r:=3) rfl rfl (thaw_flat rfl)).trans ?_
      exact norm_by0 [[], [], [], [], [5], [], [], [], []] [0, 1, 2, 3, 4, 5, 8] rfl rfl rfl rfl rfl rfl
    | cons n0 nt=>
      have hntl:nt.length+1=k:=hnl2
      have hN : ∀ z:Nat, (n0::nt).map encN++[.int .i64 z]=(n0::nt).map encN++[encN z]:=fun z=>rfl
      rw[prT, hr]
      dsimp only
      rw[prH, prO_cons, r11V, r11T]
      (repeat' first|simp (disch:=omega) only[go_sem, List.length_map, hc2, htk, List.map_cons, List.length_cons]|refine pure_of _ (hf) ?_|refine pure_of _ (hsa) ?_|refine pure_of _ (hsb) ?_|(apply spl<;>intro h<;>try simp (disch:=omega) only[go_sem, List.length_map, hc2, htk, List.map_cons, List.length_cons , h]))
      all_goals try omega
      refine ⟨k+1, ?_, by omega, by omega⟩
      rw[prT, hS]
      dsimp only
      rw[prH, prO_cons, r11V_snoc, r11T_snoc]
      refine (head_thaw (r:=3) rfl rfl (thaw_flat rfl)).trans ?_
      exact norm_by0 [[], [], [], [], [5], [], [], [], [], []] [0, 1, 2, 3, 4, 5, 9] rfl rfl rfl rfl rfl rfl
  · rw[if_neg hin] at hf hS
    have hmr:(o'++[t]).map r2=o'.map r2++[r2 t]:=by rw[List.map_append]; rfl
    cases ns with
    | nil=>
      rw[prT, hr]
      dsimp only
      rw[prH, prO_cons, r11V, r11T]
      (repeat' first|simp (disch:=omega) only[go_sem, List.length_map, hc2, htk, List.map_cons, List.length_cons]|refine pure_of _ (hf) ?_|refine pure_of _ (hsa) ?_|refine pure_of _ (hsb) ?_|(apply spl<;>intro h<;>try simp (disch:=omega) only[go_sem, List.length_map, hc2, htk, List.map_cons, List.length_cons , h]))
      all_goals try omega
      refine ⟨k+1, ?_, by omega, by omega⟩
      rw[prT, hS]
      dsimp only
      rw[prH, prO_cons, r11V_snoc, r11T_snoc]
      have hth:=fun H h=>nwR_thaw0 (H:=H) (A:=o'.map r2) (r:=6) (l:=2) (L:=r2 t) (ro:=false) (fam:=6) h rfl
      refine (head_thaw (r:=8) rfl rfl (thaw_row1 (ks:=[6]) rfl ⟨_, rfl⟩ (hth _ rfl).1 (hth _ rfl).2 (encB_all _))).trans ?_
      rw[hmr, List.length_append]
      exact norm_by (R:=[[], [], [], [], [5], [], [], [6], [], [], []]) (ks:=[0, 1, 2, 8, 4, 5, 10]) (dr:=[(6, 2)]) rfl rfl rfl rfl rfl rfl rfl
    | cons n0 nt=>
      have hntl:nt.length+1=k:=hnl2
      rw[prT, hr]
      dsimp only
      rw[prH, prO_cons, r11V, r11T]
      (repeat' first|simp (disch:=omega) only[go_sem, List.length_map, hc2, htk, List.map_cons, List.length_cons]|refine pure_of _ (hf) ?_|refine pure_of _ (hsa) ?_|refine pure_of _ (hsb) ?_|(apply spl<;>intro h<;>try simp (disch:=omega) only[go_sem, List.length_map, hc2, htk, List.map_cons, List.length_cons , h]))
      all_goals try omega
      refine ⟨k+1, ?_, by omega, by omega⟩
      rw[prT, hS]
      dsimp only
      rw[prH, prO_cons, r11V_snoc, r11T_snoc]
      have hth:=fun H h=>nwR_thaw0 (H:=H) (A:=o'.map r2) (r:=7) (l:=2) (L:=r2 t) (ro:=false) (fam:=7) h rfl
      refine (head_thaw (r:=9) rfl rfl (thaw_row1 (ks:=[7]) rfl ⟨_, rfl⟩ (hth _ rfl).1 (hth _ rfl).2 (encB_all _))).trans ?_
      rw[hmr, List.length_append]
      exact norm_by (R:=[[], [], [], [], [5], [], [], [], [7], [], [], []]) (ks:=[0, 1, 2, 9, 4, 5, 11]) (dr:=[(7, 2)]) rfl rfl rfl rfl rfl rfl rfl
end Ago
