/- Least automata: least, the keys of the states. -/
import Derived.Test.YtgfkbpjgfdgfbaaGreatDoorRunF
set_option linter.unusedSimpArgs false
set_option linter.unusedVariables false
set_option maxRecDepth 100000
set_option maxHeartbeats 16000000
namespace Ago
open Go (IntKind)
def l9H2 (m:List Sta) (c:List Nat):Heap:=[.row 1 [.agg [.tsl 2 (m.map encSta)]] false true 0, .row 1 [.agg [.snil 2]] false true 1, .row 1 ((nxM m).map encB) false true 2, .row 1 (c.map encN) false true 3]
def l9K (m:List Sta) (c:List Nat) (kn q:Nat) (l:List Nat) (names:List (List UInt8)) (F:List Nat) (k:Nat):St:=
  { tmps:=slots 126 [(1, .ptr 1 0 0 0), (2, .ptr 1 1 0 0), (3, .tsl 1 ((byM m).map encN)), (4, .sref 1 2 0 m.length), (5, .sref 1 3 0 m.length), (10, .int .i64 kn), (11, .mref 4), (12, .sref 1 5 0 m.length), (13, .int .i64 q), (14, .str (keyL (kyOf c q (l.take k)))), (69, .int .i64 m.length), (70, .int .i64 q), (81, .tsl 1 (l.map encN)), (82, .int .i64 l.length), (83, .int .i64 k)],
    heap:=l9H2 m c++[.map (nmE (names.map .str)), .row 1 (F.map encN) false true 5], base:=0 }
theorem least_key {Q:Ex→St→Prop} (m:List Sta) (h:m.length<2^20) (c:List Nat) (hcl:c.length=m.length) (hc : ∀ i, i∈c→i<1000000) (kn q:Nat) (l:List Nat) (hl:l.length≤256) (hlt : ∀ t, t∈l→t<m.length) (names:List (List UInt8)) (F:List Nat) (k:Nat) (hk:k<l.length) :
    aw (RunOf CB) (PRun CB) (ac355.lp 4) (awThen (fun t=>∃ a', t.norm [1, 2, 3, 4, 5, 10, 11, 12, 13, 14, 69, 70, 81, 82, 83]=l9K m c kn q l names F a'∧a'≤l.length∧l.length-a'<l.length-k) Q) (l9K m c kn q l names F k):=by
  simp only[AFn.lp, ac355, ACode.loopsOf, List.cons_append, List.append_nil, List.nil_append, List.getD_cons_succ, List.getD_cons_zero]
  obtain ⟨t, ht⟩:=exAt hk
  have ht2:(l.map encN)[k]?=some (.int .i64 t):=mget ht
  have htm:=hlt t (List.mem_of_getElem? ht)
  obtain ⟨d, hd⟩:=exAt (show t<c.length by omega)
  have hd2:(c.map encN)[t]?=some (.int .i64 d):=mget hd
  have hd3:c.getD t 0=d:=by rw[List.getD_eq_getElem?_getD, hd]; rfl
  have hi:=itoa_run d (hc d (List.mem_of_getElem? hd))
  have hK:keyL (kyOf c q (l.take (k+1)))=keyL (kyOf c q (l.take k))++(44::itD d):=by
    rw[←hd3]
    unfold kyOf
    rw[List.take_add_one, ht, Option.toList_some, List.map_append]
    exact keyL_snoc _ _ _
  have hKl:=keyL_len (kyOf c q (l.take k)) (kyOf_ok hc q _).2
  have hkl:(kyOf c q (l.take k)).length≤257:=by
    unfold kyOf
    rw[List.length_cons, List.length_map, List.length_take]
    omega
  have hil:=itD_len d (hc d (List.mem_of_getElem? hd))
  have hMR:(Blk.map (nmE (names.map AV.str))).refs=[]:=nmE_refs (still_strs _)
  have hMN : ∀ f g, Blk.ren f g (.map (nmE (names.map AV.str))) = .map (nmE (names.map AV.str)):=nmE_ren (still_strs _)
  obtain ⟨S, hS⟩ : ∃ S, keyL (kyOf c q (l.take k))=S:=⟨_, rfl⟩
  rw[hS] at hK hKl
  rw[l9K, l9H2, hS]
  (repeat' first|simp (disch:=omega) only[go_sem, List.length_map, ht2, hd2, hcl]|refine pure_of _ (hi) ?_|(apply spl<;>intro h<;>try simp (disch:=omega) only[go_sem, List.length_map, ht2, hd2, hcl , h]))
  all_goals try omega
  refine ⟨k+1, ?_, by omega, by omega⟩
  rw[l9K, l9H2, hK]
  refine (norm_by0 [[], [], [], [], [], []] [0, 1, 2, 3, 4, 5] (by simp only[List.map_cons, List.map_nil, List.cons_append, List.nil_append, hMR]; rfl) rfl rfl rfl rfl ?_)
  simp only[List.map_cons, List.map_nil, List.cons_append, List.nil_append, List.getD_eq_getElem?_getD, List.getElem?_cons_zero, List.getElem?_cons_succ, Option.getD_some, hMN]
  rfl
def l9Q (m:List Sta) (c:List Nat) (kn:Nat) (q:Nat):St:=
  { tmps:=slots 126 [(1, .ptr 1 0 0 0), (2, .ptr 1 1 0 0), (3, .tsl 1 ((byM m).map encN)), (4, .sref 1 2 0 m.length), (5, .sref 1 3 0 m.length), (10, .int .i64 kn), (11, .mref 4), (12, .sref 1 5 0 m.length), (69, .int .i64 m.length), (70, .int .i64 q)],
    heap:=l9H2 m c++[.map (nmE ((numGo [] (((kys (nxM m) c).map keyL).take q)).2.map .str)), .row 1 (((numGo [] (((kys (nxM m) c).map keyL).take q)).1++List.replicate (m.length-q) 0).map encN) false true 5], base:=0 }
theorem least_q {Q:Ex→St→Prop} (m:List Sta) (h:m.length<2^20) (c:List Nat) (hcl:c.length=m.length) (hc : ∀ i, i∈c→i<1000000) (hnx : ∀ r, r∈nxM m→r.length=(byM m).length∧∀ t, t∈r→t<m.length) (kn q:Nat) (hq:q<m.length) :
    aw (RunOf CB) (PRun CB) (ac355.lp 3) (awThen (fun t=>∃ a', t.norm [1, 2, 3, 4, 5, 10, 11, 12, 69, 70]=l9Q m c kn a'∧a'≤m.length∧m.length-a'<m.length-q) Q) (l9Q m c kn q):=by
  have hin:=fun (Q:Ex→St→Prop) (l:List Nat) (hl:l.length≤256) (hlt : ∀ t, t∈l→t<m.length) (names:List (List UInt8)) (F:List Nat) (k:Nat) (hk:k<l.length)=>least_key (Q:=Q) m h c hcl hc kn q l hl hlt names F k hk
  simp only[AFn.lp, ac355, ACode.loopsOf, List.cons_append, List.append_nil, List.nil_append, List.getD_cons_succ, List.getD_cons_zero] at hin ⊢
  obtain ⟨l, hl⟩:=exAt (show q<(nxM m).length by rw[nxM_len]; exact hq)
  have hl2:((nxM m).map encB)[q]?=some (.tsl 1 (l.map encN)):=mget hl
  obtain ⟨hll, hlt⟩:=hnx l (List.mem_of_getElem? hl)
  have hbl:=byM_len m
  obtain ⟨d, hd⟩:=exAt (show q<c.length by omega)
  have hd2:(c.map encN)[q]?=some (.int .i64 d):=mget hd
  have hi:=itoa_run d (hc d (List.mem_of_getElem? hd))
  have hnl:=nxM_len m
  have hky:(kys (nxM m) c).length=m.length:=by rw[kys_len, nxM_len]
  have hK1:((kys (nxM m) c).map keyL).take (q+1)=((kys (nxM m) c).map keyL).take q++[keyL (kyOf c q l)]:=by
    rw[←List.map_take, kys_take hl, List.map_append, List.map_take]
    rfl
  have hG:=numGo_snoc (keyL (kyOf c q l)) (((kys (nxM m) c).map keyL).take q) []
  rw[←hK1] at hG
  obtain ⟨⟨ns, names⟩, hr⟩ : ∃ r, numGo [] (((kys (nxM m) c).map keyL).take q)=r:=⟨_, rfl⟩
  have hnsl:ns.length=q:=by
    have:=numGo_len (((kys (nxM m) c).map keyL).take q) []
    rw[hr, List.length_take, List.length_map] at this
    dsimp only at this
    omega
  have hnm:names.length≤q:=by
    obtain ⟨t, h1, h2⟩:=numGo_grow (((kys (nxM m) c).map keyL).take q) []
    rw[hr, List.length_take, List.length_map] at *
    dsimp only at h1
    rw[h1, List.nil_append]
    omega
  rw[hr] at hG
  dsimp only at hG
  have hk0:keyL (kyOf c q [])=itD d:=by
    unfold kyOf
    rw[List.map_nil, List.getD_eq_getElem?_getD, hd]
    show itD d++[]=_
    rw[List.append_nil]
  obtain ⟨n, hn⟩ : ∃ n, m.length-q=n+1:=⟨m.length-q-1, by omega⟩
  have hF : ∀ v:Nat, ((ns++List.replicate (n+1) 0).map encN).set q (.int .i64 v)=((ns++[v])++List.replicate n 0).map encN:=fun v=>by
    rw[List.map_append, List.set_append_right _ _ (by rw[List.length_map]; omega), List.length_map, hnsl, Nat.sub_self, List.replicate_succ]
    simp [encN]
  have hFl:((ns++List.replicate (n+1) 0).map encN).length=m.length:=by
    rw[List.length_map, List.length_append, List.length_replicate]
    omega
  have hFg:((ns++List.replicate (n+1) 0).map encN)[q]?=some (.int .i64 0):=by
    rw[List.map_append, List.getElem?_append_right (by rw[List.length_map]; omega), List.length_map, hnsl, Nat.sub_self, List.replicate_succ]
    rfl
  have hf:=find_str (keyL (kyOf c q l)) names 0 0
  have hf:findKey (.one .str) (.str (keyL (kyOf c q l))) (nmE (names.map .str)) 0=_:=hf
  simp only[Nat.zero_add] at hf
  have hMR : ∀ names:List (List UInt8), (Blk.map (nmE (names.map AV.str))).refs=[]:=fun _=>nmE_refs (still_strs _)
  have hMN : ∀ (names:List (List UInt8)) f g, Blk.ren f g (.map (nmE (names.map AV.str))) = .map (nmE (names.map AV.str)):=fun _=>nmE_ren (still_strs _)
  obtain ⟨F, hFe⟩ : ∃ F, ns++List.replicate (n+1) 0=F:=⟨_, rfl⟩
  rw[hFe] at hF hFl hFg
  rw[l9Q, l9H2, hr, hn]
  dsimp only
  rw[hFe]
  (repeat' first|simp (disch:=omega) only[go_sem, List.length_map, hl2, hd2, hcl, hnl]|refine pure_of _ (hi) ?_|(apply spl<;>intro h<;>try simp (disch:=omega) only[go_sem, List.length_map, hl2, hd2, hcl, hnl , h]))
  all_goals try omega
  refine loop_of (α:=Nat) (l9K m c kn q l names F) (fun k=>k≤l.length) (fun k=>l.length-k) 0 (by
    rw[l9K, l9H2, List.take_zero, hk0]
    refine (norm_by0 [[], [], [], [], [], []] [0, 1, 2, 3, 4, 5] (by simp only[List.map_cons, List.map_nil, List.cons_append, List.nil_append, hMR]; rfl) rfl rfl rfl rfl ?_)
    simp only[List.map_cons, List.map_nil, List.cons_append, List.nil_append, List.getD_eq_getElem?_getD, List.getElem?_cons_zero, List.getElem?_cons_succ, Option.getD_some, hMN]
    rfl) (Nat.zero_le _) ?_
  intro k hk
  by_cases hkt:k<l.length
  · exact hin _ l (by omega) hlt names F k hkt
  · have hke:k=l.length:=by omega
    subst hke
    rw[l9K, l9H2, List.take_length]
    obtain ⟨S, hS⟩ : ∃ S, keyL (kyOf c q l)=S:=⟨_, rfl⟩
    rw[hS] at hf hG ⊢
    have hne:(nmE (names.map AV.str)).length=names.length:=by rw[nmE_len, List.length_map]
    by_cases hin2:S∈names
    · rw[if_pos hin2] at hf hG
      obtain ⟨j, hj⟩ : ∃ j, @List.idxOf _ instBEqOfDecidableEq S names=j:=⟨_, rfl⟩
      rw[hj] at hf hG
      (repeat' first|simp (disch:=omega) only[go_sem, List.length_map, hf, hF, hFl, hFg]|(apply spl<;>intro h<;>try simp (disch:=omega) only[go_sem, List.length_map, hf, hF, hFl, hFg, h]))
      all_goals try omega
      refine ⟨q+1, ?_, by omega, by omega⟩
      rw[l9Q, l9H2, hG, show m.length-(q+1)=n by omega]
      dsimp only
      refine (norm_by0 [[], [], [], [], [], []] [0, 1, 2, 3, 4, 5] (by simp only[List.map_cons, List.map_nil, List.cons_append, List.nil_append, hMR]; rfl) rfl rfl rfl rfl ?_)
      simp only[List.map_cons, List.map_nil, List.cons_append, List.nil_append, List.getD_eq_getElem?_getD, List.getElem?_cons_zero, List.getElem?_cons_succ, Option.getD_some, hMN]
      rfl
    · rw[if_neg hin2] at hf hG
      have hE:nmE (names.map .str)++[(.str S, .int .i64 names.length)]=nmE ((names++[S]).map .str):=by
        have:=nmE_snoc (names.map .str) (.str S)
        rw[List.length_map] at this
        rw[List.map_append]
        exact this
      (repeat' first|simp (disch:=omega) only[go_sem, List.length_map, hf, hF, hFl, hFg, hne, hE]|(apply spl<;>intro h<;>try simp (disch:=omega) only[go_sem, List.length_map, hf, hF, hFl, hFg, hne, hE, h]))
      all_goals try omega
      refine ⟨q+1, ?_, by omega, by omega⟩
      rw[l9Q, l9H2, hG, show m.length-(q+1)=n by omega]
      dsimp only
      refine (norm_by0 [[], [], [], [], [], []] [0, 1, 2, 3, 4, 5] (by simp only[List.map_cons, List.map_nil, List.cons_append, List.nil_append, hMR]; rfl) rfl rfl rfl rfl ?_)
      simp only[List.map_cons, List.map_nil, List.cons_append, List.nil_append, List.getD_eq_getElem?_getD, List.getElem?_cons_zero, List.getElem?_cons_succ, Option.getD_some, hMN]
      rfl
end Ago
