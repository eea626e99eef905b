/- Least automata: numbered. -/
import Derived.Test.YtgfkbpjgfdgfbaaGreatDoorRunC
import Derived.Test.YtgfkbpjgfdgfbaaGreatDoorRunD
set_option linter.unusedSimpArgs false
set_option linter.unusedVariables false
set_option maxRecDepth 100000
set_option maxHeartbeats 16000000
namespace Ago
open Go (IntKind)
theorem numbered_run (m:List Sta) (h:SmallM m) (at':List Nat) (nx:List (List Nat)) (c:List Nat) (h1:1≤m.length) (hm:m.length<2^20) (ha:at'≠[]) (hal:at'.length≤256) (hab : ∀ b, b∈at'→b<256)
    (hnl:nx.length=m.length) (hcl:c.length=m.length) (hnx : ∀ r, r∈nx→r.length=at'.length∧∀ t, t∈r→t<m.length):PRun CB 372 [encMa m, encB at', encR nx, encB c] (encMa (numM m at' nx c)):=by
  have hI:=NumI.init (at':=at') (nx:=nx) (c:=c) h1
  obtain ⟨R, hR⟩ : ∃ R, numM m at' nx c=R:=⟨_, rfl⟩
  rw[hR] at hI ⊢
  have hC : ∀ t, t<m.length→(c.map encN)[t]?=some (.int .i64 (clO c t)):=fun t ht=>by
    obtain ⟨x, hx⟩:=exAt (show t<c.length by omega)
    rw[mget (g:=encN) hx]
    unfold clO
    rw[List.getD_eq_getElem?_getD, hx]
    rfl
  have hc1:=hC 0 (by omega)
  refine prun_of ac372 rfl ?_
  unfold encMa encB encR
  (repeat' first|simp (disch:=omega) only[go_sem, ac372, enter, List.length_map, hc1]|(apply spl<;>intro h<;>try simp (disch:=omega) only[go_sem, ac372, enter, List.length_map, hc1, h]))
  refine loop_hd (α:=Nat × List Nat × List Sta) (nuS m at' nx c) (fun a=>NumI m at' nx c R a.1 a.2.1 a.2.2) (fun a=>m.length+1-a.1) (0, [0], []) rfl hI ?_
  rintro ⟨i, o, out⟩ hI
  have hos:=hI.small
  have hlen:=hI.len
  have hle:=hI.le
  dsimp only at hI hos hlen hle
  by_cases hlt:i<o.length
  · obtain ⟨q, hq⟩:=exAt hlt
    have hqm:=hI.low q (List.mem_of_getElem? hq)
    obtain ⟨x, hx⟩:=exAt hqm
    obtain ⟨l, hl⟩:=exAt (show q<nx.length by omega)
    obtain ⟨hll, hlt2⟩:=hnx l (List.mem_of_getElem? hl)
    have hq2:(o.map encN)[i]?=some (.int .i64 q):=mget hq
    have hx2:(m.map encSta)[q]?=some (.agg [.bool x.acc, .tsl 3 (x.arcs.map encArc)]):=mget hx
    have hl2:(nx.map encB)[q]?=some (.tsl 1 (l.map encN)):=mget hl
    have hq0:o.getD i 0=q:=by rw[List.getD_eq_getElem?_getD, hq]; rfl
    have hl0:nx.getD q []=l:=by rw[List.getD_eq_getElem?_getD, hl]; rfl
    have hac:accM m q=x.acc:=by unfold accM; rw[hx]
    have hst:=hI.step hlt (by rw[hq0, hl0]; exact hlt2)
    rw[hq0, hl0, hac] at hst
    obtain ⟨⟨ns, o'⟩, hr⟩ : ∃ r, ordGo c o l=r:=⟨_, rfl⟩
    rw[hr] at hst
    dsimp only at hst
    have hpos:0<at'.length:=List.length_pos_iff.2 ha
    obtain ⟨az, a, hA⟩ : ∃ az a, arcK at' ns at'.length=az++[a]:=by
      obtain ⟨n, hn⟩ : ∃ n, at'.length=n+1:=⟨at'.length-1, by omega⟩
      rw[hn, arcK]
      exact arcF_snoc _ _ _ _
    rw[hA] at hst
    have hKl:=arcK_len at' ns at'.length
    rw[hA, List.length_append, List.length_singleton] at hKl
    have hMR:(Blk.map (nmE ((o.map (clO c)).map encN))).refs=[]:=nmE_refs (still_nums _)
    have hMN : ∀ f g, Blk.ren f g (.map (nmE ((o.map (clO c)).map encN))) = .map (nmE ((o.map (clO c)).map encN)):=nmE_ren (still_nums _)
    have hMR2:(Blk.map (nmE ((o'.map (clO c)).map encN))).refs=[]:=nmE_refs (still_nums _)
    have hMN2 : ∀ f g, Blk.ren f g (.map (nmE ((o'.map (clO c)).map encN))) = .map (nmE ((o'.map (clO c)).map encN)):=nmE_ren (still_nums _)
    cases out with
    | nil=>
      rw[nuS, nuH, nuO_nil]
      (repeat' first|simp (disch:=omega) only[go_sem, hq2, hx2, hl2, List.length_map]|(apply spl<;>intro h<;>try simp (disch:=omega) only[go_sem, hq2, hx2, hl2, List.length_map, h]))
      refine loop_of (α:=Nat) (nuT m at' nx c i o [] 5 l x.acc) (fun k=>k≤l.length) (fun k=>l.length-k) 0 (by
        refine (norm_by0 [[], [], [], [], [], []] [0, 1, 2, 3, 4, 5] (by simp only[List.map_cons, List.map_nil, List.cons_append, List.nil_append, hMR]; rfl) rfl rfl rfl rfl ?_)
        simp only[List.map_cons, List.map_nil, List.cons_append, List.nil_append, List.getD_eq_getElem?_getD, List.getElem?_cons_zero, List.getElem?_cons_succ, Option.getD_some, hMN]
        rfl) (Nat.zero_le _) ?_
      intro k hk
      by_cases hkt:k<l.length
      · exact nu_round5 m at' nx c hm hal hab hC i o  hI.low hI.nd l hll hlt2 x.acc k hkt
      · have hke:k=l.length:=by omega
        subst hke
        rw[nuT, List.take_length, hr, hll]
        dsimp only
        rw[hA, nuA_snoc, nuH, nuO_nil]
        (repeat' first|simp (disch:=omega) only[go_sem, List.length_map, hll, List.length_cons]|(apply spl<;>intro h<;>try simp (disch:=omega) only[go_sem, List.length_map, hll, List.length_cons, h]))
        all_goals try omega
        refine ⟨(i+1, o', []++[⟨x.acc, az++[a]⟩]), ?_, hst, by dsimp only; omega⟩
        refine (head_thaw (r:=8) rfl rfl (thaw_row1 (ks:=[6]) rfl ⟨_, rfl⟩ (thaw_stas (A:=az++[a]) (l:=az.length+1) rfl (by simp) [] x.acc).1 (thaw_stas (A:=az++[a]) (l:=az.length+1) rfl (by simp) [] x.acc).2.1 (thaw_all ([]++[⟨x.acc, az++[a]⟩])))).trans ?_
        rw[nuS, nuH]
        dsimp only
        rw[nuO_snoc]
        refine (norm_by (R:=[[], [], [], [], [8], [6], [], [6], []]) (ks:=[0, 1, 2, 3, 4, 8]) (dr:=[(6, ((az++[a]).map encArc).length)]) (by simp only[markRO, markFrom, List.contains_cons, List.contains_nil, Bool.or_false, Bool.false_eq_true, if_false, if_true, Nat.reduceBEq, Nat.reduceAdd, Nat.zero_add, List.set_cons_zero, List.set_cons_succ, List.map_cons, List.map_nil, List.cons_append, List.nil_append, hMR2]; rfl) rfl rfl rfl rfl rfl ?_)
        simp only[roMark_cons]
        simp only[markRO, markFrom, List.contains_cons, List.contains_nil, Bool.or_false, Bool.false_eq_true, if_false, if_true, Nat.reduceBEq, Nat.reduceAdd, Nat.zero_add, List.set_cons_zero, List.set_cons_succ, roBy_map, List.map_cons, List.map_nil, List.cons_append, List.nil_append, List.getD_eq_getElem?_getD, List.getElem?_cons_zero, List.getElem?_cons_succ, Option.getD_some, hMN2]
        rfl
    | cons s ls=>
      have hls:ls.length+1=i:=by simpa using hlen
      rw[nuS, nuH, nuO_cons]
      (repeat' first|simp (disch:=omega) only[go_sem, hq2, hx2, hl2, List.length_map]|(apply spl<;>intro h<;>try simp (disch:=omega) only[go_sem, hq2, hx2, hl2, List.length_map, h]))
      refine loop_of (α:=Nat) (nuT m at' nx c i o (s::ls) 6 l x.acc) (fun k=>k≤l.length) (fun k=>l.length-k) 0 (by
        refine (norm_by0 [[], [], [], [], [5], [], []] [0, 1, 2, 3, 4, 5, 6] (by simp only[List.map_cons, List.map_nil, List.cons_append, List.nil_append, hMR]; rfl) rfl rfl rfl rfl ?_)
        simp only[List.map_cons, List.map_nil, List.cons_append, List.nil_append, List.getD_eq_getElem?_getD, List.getElem?_cons_zero, List.getElem?_cons_succ, Option.getD_some, hMN]
        rfl) (Nat.zero_le _) ?_
      intro k hk
      by_cases hkt:k<l.length
      · exact nu_round6 m at' nx c hm hal hab hC i o s ls (by simp at hlen; omega) hI.low hI.nd l hll hlt2 x.acc k hkt
      · have hke:k=l.length:=by omega
        subst hke
        rw[nuT, List.take_length, hr, hll]
        dsimp only
        rw[hA, nuA_snoc, nuH, nuO_cons]
        (repeat' first|simp (disch:=omega) only[go_sem, List.length_map, hll, List.length_cons]|(apply spl<;>intro h<;>try simp (disch:=omega) only[go_sem, List.length_map, hll, List.length_cons, h]))
        all_goals try omega
        refine ⟨(i+1, o', (s::ls)++[⟨x.acc, az++[a]⟩]), ?_, hst, by dsimp only; omega⟩
        refine (head_thaw (r:=9) rfl rfl (thaw_row1 (ks:=[7]) rfl ⟨_, rfl⟩ (thaw_stas (A:=az++[a]) (l:=az.length+1) rfl (by simp) (s::ls) x.acc).1 (thaw_stas (A:=az++[a]) (l:=az.length+1) rfl (by simp) (s::ls) x.acc).2.1 (thaw_all ((s::ls)++[⟨x.acc, az++[a]⟩])))).trans ?_
        rw[nuS, nuH]
        dsimp only
        rw[nuO_snoc]
        refine (norm_by (R:=[[], [], [], [], [9], [], [7], [], [7], []]) (ks:=[0, 1, 2, 3, 4, 9]) (dr:=[(7, ((az++[a]).map encArc).length)]) (by simp only[markRO, markFrom, List.contains_cons, List.contains_nil, Bool.or_false, Bool.false_eq_true, if_false, if_true, Nat.reduceBEq, Nat.reduceAdd, Nat.zero_add, List.set_cons_zero, List.set_cons_succ, List.map_cons, List.map_nil, List.cons_append, List.nil_append, hMR2]; rfl) rfl rfl rfl rfl rfl ?_)
        simp only[roMark_cons]
        simp only[markRO, markFrom, List.contains_cons, List.contains_nil, Bool.or_false, Bool.false_eq_true, if_false, if_true, Nat.reduceBEq, Nat.reduceAdd, Nat.zero_add, List.set_cons_zero, List.set_cons_succ, roBy_map, List.map_cons, List.map_nil, List.cons_append, List.nil_append, List.getD_eq_getElem?_getD, List.getElem?_cons_zero, List.getElem?_cons_succ, Option.getD_some, hMN2]
        rfl
  · have hRo:=hI.done hlt
    rw[hRo]
    cases hs:out with
    | nil=>
      rw[hs] at hlen
      exact (hI.pos (List.length_eq_zero_iff.1 (by simp at hlen; omega))).elim
    | cons s ls=>
      have hsl:(s::ls).length=i:=by rw[←hs]; exact hlen
      rw[List.length_cons] at hsl
      have e2:(ls.map encSta).take ls.length=ls.map encSta:=List.take_of_length_le (by rw[List.length_map]; exact Nat.le_refl _)
      rw[nuS, nuH, nuO_cons]
      (repeat' first|simp (disch:=omega) only[go_sem, List.length_map, List.map_cons, List.length_cons, e2]|(apply spl<;>intro h<;>try simp (disch:=omega) only[go_sem, List.length_map, List.map_cons, List.length_cons, e2, h]))
      all_goals first | omega | rfl
end Ago
