/- Pairs: the reference's pairs: a round of the loop over bytes. -/
import Derived.Test.YtgfkbpjgfdgfbaaGreatDoorRunF
import Derived.Test.YtgfkbpjgfdgfbaaGreatDoorRunI
import Derived.Test.YtgfkbpjgfdgfbaaGreatDoorRunJ
import Derived.Test.YtgfkbpjgfdgfbaaGreatDoorMachE
set_option linter.unusedSimpArgs false
set_option linter.unusedVariables false
set_option maxRecDepth 100000
set_option maxHeartbeats 16000000
namespace Ago
open Go (IntKind)
def prH (a b:List Sta) (o:List (Nat × Nat)):Heap:=[.row 1 [.agg [.tsl 2 (a.map encSta)]] false true 0, .row 1 [.agg [.tsl 2 (b.map encSta)]] false true 1, .row 1 [.agg [.snil 2]] false true 2, .row 1 ((o.map r2).map encB) false true 3]
def prO (out:List Sta):Heap:=match out with
  | []=>[.row 1 [.agg [.snil 2]] false true 4]
  | s::l=>[.row 1 [.agg [.sref 2 5 0 (l.length+1)]] false false 4, .row 2 ((s::l).map encSta) false true 5]
def prS (a b:List Sta) (at':List Nat) (op:Int) (x:Nat × List (Nat × Nat) × List Sta):St:=
  { tmps:=slots 107 [(0, .int .i64 op), (4, .ptr 1 0 0 0), (5, .ptr 1 1 0 0), (6, .ptr 1 2 0 0), (8, .tsl 1 (at'.map encN)), (9, .sref 1 3 0 x.2.1.length), (10, .ptr 1 4 0 0), (11, .int .i64 x.1)],
    heap:=prH a b x.2.1++prO x.2.2, base:=0 }
def prT (a b:List Sta) (at':List Nat) (op:Int) (i:Nat) (p:Nat × Nat) (o:List (Nat × Nat)) (out:List Sta) (S:Nat) (k:Nat):St:=
  { tmps:=slots 107 [(0, .int .i64 op), (4, .ptr 1 0 0 0), (5, .ptr 1 1 0 0), (6, .ptr 1 2 0 0), (8, .tsl 1 (at'.map encN)), (9, .sref 1 3 0 (numGo o ((toP a b at' p).take k)).2.length), (10, .ptr 1 4 0 0), (11, .int .i64 i), (12, .int .i64 p.1), (13, .int .i64 p.2), (14, r11V S (numGo o ((toP a b at' p).take k)).1), (15, .int .i64 k)],
    heap:=prH a b (numGo o ((toP a b at' p).take k)).2++(prO out++r11T S (numGo o ((toP a b at' p).take k)).1), base:=0 }
theorem prO_nil:prO []=[.row 1 [.agg [.snil 2]] false true 4]:=(rfl)
theorem prO_cons (s:Sta) (l:List Sta):prO (s::l)=[.row 1 [.agg [.sref 2 5 0 (l.length+1)]] false false 4, .row 2 ((s::l).map encSta) false true 5]:=(rfl)
theorem find_r2 (o:List (Nat × Nat)) (t:Nat × Nat) (ho:o.length<2^20):PRun CB 392 [.tsl 1 ((o.map r2).map encB), .tsl 1 [.int .i64 t.1, .int .i64 t.2]] (.int .i64 (if t∈o then ((@List.idxOf _ instBEqOfDecidableEq t o:Nat):Int) else -1)):=by
  have h:=find_run (o.map r2) (r2 t) (by rw[List.length_map]; omega) (fun y hy=>by
    obtain ⟨p, _, rfl⟩:=List.mem_map.1 hy
    show 2<2^30
    omega) (by show 2<2^30; omega)
  have hinj : ∀ x y:Nat × Nat, r2 x=r2 y→x=y:=fun x y e=>by
    obtain ⟨x1, x2⟩:=x
    obtain ⟨y1, y2⟩:=y
    simp only[r2, List.cons.injEq, and_true] at e
    rw[e.1, e.2]
  rw[fndN_eq] at h
  have e1:(r2 t∈o.map r2)↔t∈o:=by
    constructor
    · intro hm
      obtain ⟨p, hp, e⟩:=List.mem_map.1 hm
      rw[←hinj _ _ e]
      exact hp
    · exact List.mem_map_of_mem
  have e2 : @List.idxOf _ instBEqOfDecidableEq (r2 t) (o.map r2) = @List.idxOf _ instBEqOfDecidableEq t o:=idxOf_map hinj t o
  by_cases hin:t∈o
  · rw[if_pos (e1.2 hin), e2] at h
    rw[if_pos hin]
    exact h
  · rw[if_neg (fun hm=>hin (e1.1 hm))] at h
    rw[if_neg hin]
    exact h
theorem pr_round5 {Q:Ex→St→Prop} (a b:List Sta) (ha:SmallM a) (hb:SmallM b) (hva:validM a=true) (hvb:validM b=true) (at':List Nat) (hal:at'.length≤256) (hab : ∀ c, c∈at'→c<256) (op:Int) (i:Nat) (p:Nat × Nat) (hp:p.1<a.length∧p.2<b.length) (o:List (Nat × Nat)) (hol:o.length≤1024)
    (k c:Nat) (hck:at'[k]?=some c) :
    aw (RunOf CB) (PRun CB) (ac368.lp 1) (awThen (fun t=>∃ a', t.head [0, 4, 5, 6, 8, 9, 10, 11, 12, 13, 14, 15, 2009]=prT a b at' op i p o [] 5 a'∧a'≤at'.length∧at'.length-a'<at'.length-k) Q) (prT a b at' op i p o [] 5 k):=by
  simp only[AFn.lp, ac368, ACode.loopsOf, List.cons_append, List.append_nil, List.nil_append, List.getD_cons_succ, List.getD_cons_zero]
  obtain ⟨x, hx⟩:=exAt hp.1
  obtain ⟨y, hy⟩:=exAt hp.2
  have hkt:=(List.getElem?_eq_some_iff.1 hck).1
  have hc256:=hab c (List.mem_of_getElem? hck)
  have hc2:(at'.map encN)[k]?=some (.int .i64 c):=mget hck
  have hT:(toP a b at' p).take (k+1)=(toP a b at' p).take k++[nxP a b p c]:=by
    unfold toP
    rw[List.take_add_one, List.getElem?_map, hck]
    rfl
  have hS:=numGo_snoc (nxP a b p c) ((toP a b at' p).take k) o
  rw[←hT] at hS
  have hnl:=numGo_len ((toP a b at' p).take k) o
  obtain ⟨u, hu, hul⟩:=numGo_grow ((toP a b at' p).take k) o
  rw[List.length_take, show (toP a b at' p).length=at'.length by unfold toP; rw[List.length_map]] at hnl hul
  obtain ⟨⟨ns, o'⟩, hr⟩ : ∃ r, numGo o ((toP a b at' p).take k)=r:=⟨_, rfl⟩
  rw[hr] at hS hnl hu
  dsimp only at hS hnl hu
  have hnl2:ns.length=k:=by omega
  have hol2:o'.length<2^20:=by
    rw[hu, List.length_append]
    omega
  have hsa:=next_run a ha p.1 x hx c
  have hsb:=next_run b hb p.2 y hy c
  have hna:=(next_lt hva (List.mem_of_getElem? hx) hc256).1
  have hnb:=(next_lt hvb (List.mem_of_getElem? hy) hc256).1
  have hca:nextGo (c:Nat) x.arcs=(nxP a b p c).1:=by
    show _=((nextA a p.1 c:Nat):Int)
    rw[nextA_at hx]
    omega
  have hcb:nextGo (c:Nat) y.arcs=(nxP a b p c).2:=by
    show _=((nextA b p.2 c:Nat):Int)
    rw[nextA_at hy]
    omega
  rw[hca] at hsa
  rw[hcb] at hsb
  unfold encMa at hsa hsb
  obtain ⟨t, ht⟩ : ∃ t, nxP a b p c=t:=⟨_, rfl⟩
  rw[ht] at hsa hsb hS hT
  have hf:=find_r2 o' t hol2
  have htk:((o'.map r2).map encB).take o'.length=(o'.map r2).map encB:=List.take_of_length_le (by rw[List.length_map, List.length_map]; exact Nat.le_refl _)
  by_cases hin:t∈o'
  · rw[if_pos hin] at hf hS
    obtain ⟨j, hj⟩ : ∃ j, @List.idxOf _ instBEqOfDecidableEq t o'=j:=⟨_, rfl⟩
    rw[hj] at hf hS
    cases ns with
    | nil=>
      rw[prT, hr]
      dsimp only
      rw[prH, prO_nil, r11V, r11T]
      (repeat' first|simp (disch:=omega) only[go_sem, List.length_map, hc2, htk]|refine pure_of _ (hf) ?_|refine pure_of _ (hsa) ?_|refine pure_of _ (hsb) ?_|(apply spl<;>intro h<;>try simp (disch:=omega) only[go_sem, List.length_map, hc2, htk , h]))
      all_goals try omega
      refine ⟨k+1, ?_, by omega, by omega⟩
      rw[prT, hS]
      dsimp only
      rw[prH, prO_nil, r11V_snoc, r11T_snoc]
      refine (head_thaw (r:=3) rfl rfl (thaw_flat rfl)).trans ?_
      exact norm_by0 [[], [], [], [], [], [], [], []] [0, 1, 2, 3, 4, 7] rfl rfl rfl rfl rfl rfl
    | cons n0 nt=>
      have hntl:nt.length+1=k:=hnl2
      have hN : ∀ z:Nat, (n0::nt).map encN++[.int .i64 z]=(n0::nt).map encN++[encN z]:=fun z=>rfl
      rw[prT, hr]
      dsimp only
      rw[prH, prO_nil, r11V, r11T]
      (repeat' first|simp (disch:=omega) only[go_sem, List.length_map, hc2, htk, List.map_cons, List.length_cons]|refine pure_of _ (hf) ?_|refine pure_of _ (hsa) ?_|refine pure_of _ (hsb) ?_|(apply spl<;>intro h<;>try simp (disch:=omega) only[go_sem, List.length_map, hc2, htk, List.map_cons, List.length_cons , h]))
      all_goals try omega
      refine ⟨k+1, ?_, by omega, by omega⟩
      rw[prT, hS]
      dsimp only
      rw[prH, prO_nil, r11V_snoc, r11T_snoc]
      refine (head_thaw (r:=3) rfl rfl (thaw_flat rfl)).trans ?_
      exact norm_by0 [[], [], [], [], [], [], [], [], []] [0, 1, 2, 3, 4, 8] rfl rfl rfl rfl rfl rfl
  · rw[if_neg hin] at hf hS
    have hmr:(o'++[t]).map r2=o'.map r2++[r2 t]:=by rw[List.map_append]; rfl
    cases ns with
    | nil=>
      rw[prT, hr]
      dsimp only
      rw[prH, prO_nil, r11V, r11T]
      (repeat' first|simp (disch:=omega) only[go_sem, List.length_map, hc2, htk]|refine pure_of _ (hf) ?_|refine pure_of _ (hsa) ?_|refine pure_of _ (hsb) ?_|(apply spl<;>intro h<;>try simp (disch:=omega) only[go_sem, List.length_map, hc2, htk , h]))
      all_goals try omega
      refine ⟨k+1, ?_, by omega, by omega⟩
      rw[prT, hS]
      dsimp only
      rw[prH, prO_nil, r11V_snoc, r11T_snoc]
      have hth:=fun H h=>nwR_thaw0 (H:=H) (A:=o'.map r2) (r:=5) (l:=2) (L:=r2 t) (ro:=false) (fam:=5) h rfl
      refine (head_thaw (r:=7) rfl rfl (thaw_row1 (ks:=[5]) rfl ⟨_, rfl⟩ (hth _ rfl).1 (hth _ rfl).2 (encB_all _))).trans ?_
      rw[hmr, List.length_append]
      exact norm_by (R:=[[], [], [], [], [], [], [5], [], [], []]) (ks:=[0, 1, 2, 7, 4, 9]) (dr:=[(5, 2)]) rfl rfl rfl rfl rfl rfl rfl
    | cons n0 nt=>
      have hntl:nt.length+1=k:=hnl2
      rw[prT, hr]
      dsimp only
      rw[prH, prO_nil, r11V, r11T]
      (repeat' first|simp (disch:=omega) only[go_sem, List.length_map, hc2, htk, List.map_cons, List.length_cons]|refine pure_of _ (hf) ?_|refine pure_of _ (hsa) ?_|refine pure_of _ (hsb) ?_|(apply spl<;>intro h<;>try simp (disch:=omega) only[go_sem, List.length_map, hc2, htk, List.map_cons, List.length_cons , h]))
      all_goals try omega
      refine ⟨k+1, ?_, by omega, by omega⟩
      rw[prT, hS]
      dsimp only
      rw[prH, prO_nil, r11V_snoc, r11T_snoc]
      have hth:=fun H h=>nwR_thaw0 (H:=H) (A:=o'.map r2) (r:=6) (l:=2) (L:=r2 t) (ro:=false) (fam:=6) h rfl
      refine (head_thaw (r:=8) rfl rfl (thaw_row1 (ks:=[6]) rfl ⟨_, rfl⟩ (hth _ rfl).1 (hth _ rfl).2 (encB_all _))).trans ?_
      rw[hmr, List.length_append]
      exact norm_by (R:=[[], [], [], [], [], [], [], [6], [], [], []]) (ks:=[0, 1, 2, 8, 4, 10]) (dr:=[(6, 2)]) rfl rfl rfl rfl rfl rfl rfl
end Ago
