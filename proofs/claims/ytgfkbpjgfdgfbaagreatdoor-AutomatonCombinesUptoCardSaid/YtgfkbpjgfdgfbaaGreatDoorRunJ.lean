/- Least automata: the reference's least: its inner loops. -/
import Derived.Test.YtgfkbpjgfdgfbaaGreatDoorRunI
import Derived.Test.YtgfkbpjgfdgfbaaGreatDoorRunB
import Derived.Test.YtgfkbpjgfdgfbaaGreatDoorRunC
import Derived.Test.YtgfkbpjgfdgfbaaGreatDoorMachE
set_option linter.unusedSimpArgs false
set_option linter.unusedVariables false
set_option maxRecDepth 100000
set_option maxHeartbeats 16000000
namespace Ago
open Go (IntKind)
def r11O (out:List Sta):Heap:=match out with
  | []=>[.row 1 [.agg [.snil 2]] false true 3]
  | s::l=>[.row 1 [.agg [.sref 2 4 0 (l.length+1)]] false false 3, .row 2 ((s::l).map encSta) false true 4]
theorem r11O_snoc (l:List Sta) (s:Sta):r11O (l++[s])=[.row 1 [.agg [.sref 2 4 0 (l.length+1)]] false false 3, .row 2 (l.map encSta++[encSta s]) false true 4]:=by
  rw[show l.map encSta++[encSta s]=(l++[s]).map encSta by rw[List.map_append]; rfl]
  obtain ⟨b, t, hb⟩:=exCons l s
  have:=congrArg List.length hb
  rw[List.length_append, List.length_cons, List.length_cons, List.length_nil] at this
  rw[hb, r11O, show l.length=t.length by omega]
def r11H (m:List Sta) (o:List Nat):Heap:=[.row 1 [.agg [.tsl 2 (m.map encSta)]] false true 0, .row 1 [.agg [.snil 2]] false true 1, .row 1 (o.map encN) false true 2]
def r11N (out:List Sta):Nat:=match out with
  | []=>4
  | _::_=>5
/-- The list of targets. -/
def r11T (S:Nat) (ns:List Nat):Heap:=match ns with
  | []=>[]
  | n::l=>[.row 1 ((n::l).map encN) false true S]
def r11V (S:Nat) (ns:List Nat):AV:=match ns with
  | []=>.snil 1
  | n::l=>.sref 1 S 0 (l.length+1)
/-- The innermost loop: the place of a class. -/
def r11K (m:List Sta) (c o:List Nat) (i q k:Nat) (t:Nat) (ns:List Nat) (out:List Sta) (j:Nat):St:=
  { tmps:=slots 90 [(1, .ptr 1 0 0 0), (2, .ptr 1 1 0 0), (3, .tsl 1 (c.map encN)), (4, .tsl 1 ((byM m).map encN)), (5, .sref 1 2 0 o.length), (6, .ptr 1 3 0 0), (7, .int .i64 i), (8, .int .i64 q), (9, r11V (r11N out) ns), (10, .int .i64 k), (11, .int .i64 t), (12, .int .i64 j)],
    heap:=r11H m o++(r11O out++r11T (r11N out) ns), base:=0 }
theorem idx_at : ∀ (l:List Nat) (x k:Nat), l[k]?=some x→x∉l.take k→l.idxOf x=k
  | [], _, _, h, _=>by simp at h
  | y::l, x, 0, h, _=>by
    have:y=x:=by simpa using h
    subst this
    simp
  | y::l, x, k+1, h, hn=>by
    rw[List.take_succ_cons] at hn
    have h1 : ¬ x=y:=fun e=>hn (by rw[e]; exact List.mem_cons_self ..)
    rw[idx_cons x y l h1, idx_at l x k (by simpa using h) (fun e=>hn (List.mem_cons_of_mem _ e))]
theorem r11V_snoc (S:Nat) (l:List Nat) (x:Nat):r11V S (l++[x]) = .sref 1 S 0 (l.length+1):=by
  obtain ⟨b, t, hb⟩:=exCons l x
  have:=congrArg List.length hb
  rw[List.length_append, List.length_cons, List.length_cons, List.length_nil] at this
  rw[hb, r11V, show l.length=t.length by omega]
theorem r11T_snoc (S:Nat) (l:List Nat) (x:Nat):r11T S (l++[x])=[.row 1 (l.map encN++[.int .i64 x]) false true S]:=by
  have:r11T S (l++[x])=[.row 1 ((l++[x]).map encN) false true S]:=by
    obtain ⟨b, t, hb⟩:=exCons l x
    rw[hb, r11T]
  rw[this, List.map_append]
  rfl
def r11B (m:List Sta) (c o:List Nat) (i q:Nat) (l:List Nat) (out:List Sta) (k:Nat):St:=
  { tmps:=slots 90 [(1, .ptr 1 0 0 0), (2, .ptr 1 1 0 0), (3, .tsl 1 (c.map encN)), (4, .tsl 1 ((byM m).map encN)), (5, .sref 1 2 0 (ordGo c o (l.take k)).2.length), (6, .ptr 1 3 0 0), (7, .int .i64 i), (8, .int .i64 q), (9, r11V (r11N out) (ordGo c o (l.take k)).1), (10, .int .i64 k)],
    heap:=r11H m (ordGo c o (l.take k)).2++(r11O out++r11T (r11N out) (ordGo c o (l.take k)).1), base:=0 }
theorem ref_in {Q:Ex→St→Prop} (m:List Sta) (c:List Nat) (hC : ∀ t, t<m.length→(c.map encN)[t]?=some (.int .i64 (clO c t))) (o:List Nat) (hol : ∀ t, t∈o→t<m.length) (hos:o.length<2^20) (i q k t:Nat) (htm:t<m.length) (ns:List Nat) (out:List Sta) (j:Nat) (hj:j<o.length) (hn:clO c t∉(o.take j).map (clO c)) (u:Nat) (hu:o[j]?=some u) (hne : ¬ clO c u=clO c t) :
    Hid (aw (RunOf CB) (PRun CB) (ac356.lp 2) (awThen (fun s=>∃ a', s.norm [1, 2, 3, 4, 5, 6, 7, 8, 9, 10, 11, 12]=r11K m c o i q k t ns out a'∧(a'≤o.length∧clO c t∉(o.take a').map (clO c))∧o.length-a'<o.length-j) Q) (r11K m c o i q k t ns out j)):=by
  simp only[AFn.lp, ac356, ACode.loopsOf, List.cons_append, List.append_nil, List.nil_append, List.getD_cons_succ, List.getD_cons_zero]
  have hu2:(o.map encN)[j]?=some (.int .i64 u):=mget hu
  have hum:=hol u (List.mem_of_getElem? hu)
  have hcu:=hC u hum
  have hct:=hC t htm
  have hne2 : ¬ (clO c u:Int)=clO c t:=by omega
  have hT:clO c t∉(o.take (j+1)).map (clO c):=by
    rw[List.take_add_one, hu]
    simp only[Option.toList_some, List.map_append, List.map_cons, List.map_nil, List.mem_append, List.mem_singleton]
    exact fun e=>e.elim hn fun e=>hne e.symm
  cases out with
  | nil=>
    cases ns with
    | nil=>
      refine ⟨?_⟩
      rw[r11K, r11H, r11O, r11T, r11V]
      (repeat' first|simp (disch:=omega) only[go_sem, List.length_map, hu2, hcu, hct, hne2]|(apply spl<;>intro h<;>try simp (disch:=omega) only[go_sem, List.length_map, hu2, hcu, hct, hne2, h]))
      all_goals try omega
      exact ⟨j+1, rfl, ⟨by omega, hT⟩, by omega⟩
    | cons n ns=>
      refine ⟨?_⟩
      rw[r11K, r11H, r11O, r11T, r11V, r11N]
      (repeat' first|simp (disch:=omega) only[go_sem, List.length_map, hu2, hcu, hct, hne2]|(apply spl<;>intro h<;>try simp (disch:=omega) only[go_sem, List.length_map, hu2, hcu, hct, hne2, h]))
      all_goals try omega
      exact ⟨j+1, rfl, ⟨by omega, hT⟩, by omega⟩
  | cons s l=>
    cases ns with
    | nil=>
      refine ⟨?_⟩
      rw[r11K, r11H, r11O, r11T, r11V]
      (repeat' first|simp (disch:=omega) only[go_sem, List.length_map, hu2, hcu, hct, hne2]|(apply spl<;>intro h<;>try simp (disch:=omega) only[go_sem, List.length_map, hu2, hcu, hct, hne2, h]))
      all_goals try omega
      exact ⟨j+1, rfl, ⟨by omega, hT⟩, by omega⟩
    | cons n ns=>
      refine ⟨?_⟩
      rw[r11K, r11H, r11O, r11T, r11V, r11N]
      (repeat' first|simp (disch:=omega) only[go_sem, List.length_map, hu2, hcu, hct, hne2]|(apply spl<;>intro h<;>try simp (disch:=omega) only[go_sem, List.length_map, hu2, hcu, hct, hne2, h]))
      all_goals try omega
      exact ⟨j+1, rfl, ⟨by omega, hT⟩, by omega⟩
end Ago
/- Least automata: the reference's least: a round of the loop over bytes. -/
set_option maxRecDepth 100000
set_option maxHeartbeats 16000000
namespace Ago
open Go (IntKind)
theorem ref_b {Q:Ex→St→Prop} (m:List Sta) (h:SmallM m) (hv:validM m=true) (hm:m.length<2^20) (c:List Nat) (hC : ∀ t, t<m.length→(c.map encN)[t]?=some (.int .i64 (clO c t))) (o:List Nat) (hol : ∀ t, t∈o→t<m.length) (hon:(o.map (clO c)).Nodup) (i q:Nat) (x:Sta) (hx:m[q]?=some x)
    (l:List Nat) (hl:(nxM m)[q]?=some l) (out:List Sta) (hout:out.length<2^20) (k:Nat) (hk:k<l.length) :
    Hid (aw (RunOf CB) (PRun CB) (ac356.lp 1) (awThen (fun s=>∃ a', s.norm [1, 2, 3, 4, 5, 6, 7, 8, 9, 10]=r11B m c o i q l out a'∧a'≤l.length∧l.length-a'<l.length-k) Q) (r11B m c o i q l out k)):=by
  obtain ⟨⟨ns, o'⟩, hr⟩ : ∃ r, ordGo c o (l.take k)=r:=⟨_, rfl⟩
  have hnx:=nxM_ok hv l (List.mem_of_getElem? hl)
  have hnl2:ns.length=k:=by
    have:=ordGo_len c (l.take k) o
    rw[hr, List.length_take] at this
    dsimp only at this
    omega
  have hlow : ∀ t, t∈o'→t<m.length:=by
    have:=ordGo_low (c:=c) hol (l:=l.take k) fun t ht=>hnx.2 t (List.mem_of_mem_take ht)
    rw[hr] at this
    exact this
  have hnd:(o'.map (clO c)).Nodup:=by
    have:=ordGo_nodup c (l.take k) o hon
    rw[hr] at this
    exact this
  have hos:=ord_small hlow hnd
  have hos':o'.length<2^20:=by omega
  obtain ⟨b, hb⟩:=exAt (show k<(byM m).length by omega)
  have hb2:((byM m).map encN)[k]?=some (.int .i64 b):=mget hb
  have hbl:=byM_len m
  have hst:=next_run m h q x hx b
  obtain ⟨h0, h1⟩:=next_lt hv (List.mem_of_getElem? hx) (byM_lt b (List.mem_of_getElem? hb))
  obtain ⟨t, ht⟩ : ∃ t:Nat, nextGo (b:Int) x.arcs=t:=⟨(nextGo (b:Int) x.arcs).toNat, by omega⟩
  rw[ht] at hst h1
  have htm:t<m.length:=by omega
  have hct:=hC t htm
  have hlk:l[k]?=some t:=by
    have:=nxM_at hx
    rw[hl] at this
    rw[Option.some.inj this, List.getElem?_map, hb, Option.map_some, ht]
    rfl
  have hS:=ordGo_snoc c t (l.take k) o
  rw[hr] at hS
  dsimp only at hS
  rw[show l.take k++[t]=l.take (k+1) by rw[List.take_add_one, hlk]; rfl] at hS
  have hO:o'.map encN++[.int .i64 t]=(o'++[t]).map encN:=by rw[List.map_append]; rfl
  have hin:=fun (Q:Ex→St→Prop) (o:List Nat) (hol : ∀ t, t∈o→t<m.length) (hos:o.length<2^20) (t:Nat) (htm:t<m.length) (ns:List Nat) (out:List Sta) (j:Nat) (hj:j<o.length) (hn:clO c t∉(o.take j).map (clO c)) (u:Nat) (hu:o[j]?=some u) (hne : ¬ clO c u=clO c t)=>ref_in (Q:=Q) m c hC o hol hos i q k t htm ns out j hj hn u hu hne
  simp only[AFn.lp, ac356, ACode.loopsOf, List.cons_append, List.append_nil, List.nil_append, List.getD_cons_succ, List.getD_cons_zero] at hin ⊢
  unfold encMa at hst
  cases out with
  | nil=>
    cases ns with
    | nil=>
      have hnl3:k=0:=hnl2.symm
      refine ⟨?_⟩
      rw[r11B, hr]
      dsimp only
      rw[r11H, r11O, r11T, r11V]
      (repeat' first|simp (disch:=omega) only[go_sem, List.length_map, hb2]|refine pure_of _ (hst) ?_|(apply spl<;>intro h<;>try simp (disch:=omega) only[go_sem, List.length_map, hb2 , h]))
      all_goals try omega
      refine loop_ofH (α:=Nat) (r11K m c o' i q k t [] []) (fun j=>j≤o'.length∧clO c t∉(o'.take j).map (clO c)) (fun j=>o'.length-j) 0 (by
        rw[r11K, r11H, r11O, r11T, r11V]
        exact norm_by0 [[], [], [], []] [0, 1, 2, 3] rfl rfl rfl rfl rfl rfl) ⟨Nat.zero_le _, by simp⟩ ?_
      intro Q' hQ' j hjn0
      obtain ⟨hj, hn⟩:=hjn0
      by_cases hjt:j<o'.length
      · obtain ⟨u, hu⟩:=exAt hjt
        by_cases hcu:clO c u=clO c t
        · have hu2:(o'.map encN)[j]?=some (.int .i64 u):=mget hu
          have hcu2:=hC u (hlow u (List.mem_of_getElem? hu))
          have hmem:clO c t∈o'.map (clO c):=by rw[←hcu]; exact List.mem_map_of_mem (List.mem_of_getElem? hu)
          have hidx:(o'.map (clO c)).idxOf (clO c t)=j:=idx_at _ _ _ (by rw[List.getElem?_map, hu, Option.map_some, hcu]) (by rw[←List.map_take]; exact hn)
          rw[if_pos hmem, hidx] at hS
          rw[hcu] at hcu2
          have hjn : ¬ (j:Int)=o'.length:=by omega
          refine ⟨?_⟩
          rw[r11K, r11H, r11O, r11T, r11V]
          (repeat' first|simp (disch:=omega) only[go_sem, List.length_map, List.map_cons, List.length_cons, hu2, hcu2, hct, hjn]|(apply spl<;>intro h<;>try simp (disch:=omega) only[go_sem, List.length_map, List.map_cons, List.length_cons, hu2, hcu2, hct, hjn, h]))
          refine hQ' _ _ ?_
          (repeat' first|simp (disch:=omega) only[go_sem, List.length_map, List.map_cons, List.length_cons, hjn]|(apply spl<;>intro h<;>try simp (disch:=omega) only[go_sem, List.length_map, List.map_cons, List.length_cons, hjn, h]))
          all_goals try omega
          refine ⟨k+1, ?_, by omega, by omega⟩
          rw[r11B, hS]
          dsimp only
          rw[r11V_snoc, r11T_snoc]
          rfl
        · exact hin Q' o' hlow hos' t htm [] [] j hjt hn u hu hcu
      · have hje:j=o'.length:=by omega
        subst hje
        rw[List.take_length] at hn
        rw[if_neg hn] at hS
        refine ⟨?_⟩
        rw[r11K, r11H, r11O, r11T, r11V]
        (repeat' first|simp (disch:=omega) only[go_sem, List.length_map, List.map_cons, List.length_cons]|(apply spl<;>intro h<;>try simp (disch:=omega) only[go_sem, List.length_map, List.map_cons, List.length_cons, h]))
        refine hQ' _ _ ?_
        (repeat' first|simp (disch:=omega) only[go_sem, List.length_map, List.map_cons, List.length_cons, hO]|(apply spl<;>intro h<;>try simp (disch:=omega) only[go_sem, List.length_map, List.map_cons, List.length_cons, hO, h]))
        all_goals try omega
        refine ⟨k+1, ?_, by omega, by omega⟩
        rw[r11B, hS]
        dsimp only
        rw[r11V_snoc, r11T_snoc, List.length_append]
        rfl
    | cons n0 nt=>
      have hnl3:nt.length+1=k:=hnl2
      refine ⟨?_⟩
      rw[r11B, hr]
      dsimp only
      rw[r11H, r11O, r11T, r11V, r11N]
      (repeat' first|simp (disch:=omega) only[go_sem, List.length_map, hb2]|refine pure_of _ (hst) ?_|(apply spl<;>intro h<;>try simp (disch:=omega) only[go_sem, List.length_map, hb2 , h]))
      all_goals try omega
      refine loop_ofH (α:=Nat) (r11K m c o' i q k t (n0::nt) []) (fun j=>j≤o'.length∧clO c t∉(o'.take j).map (clO c)) (fun j=>o'.length-j) 0 (by
        rw[r11K, r11H, r11O, r11T, r11V, r11N]
        exact norm_by0 [[], [], [], [], []] [0, 1, 2, 3, 4] rfl rfl rfl rfl rfl rfl) ⟨Nat.zero_le _, by simp⟩ ?_
      intro Q' hQ' j hjn0
      obtain ⟨hj, hn⟩:=hjn0
      by_cases hjt:j<o'.length
      · obtain ⟨u, hu⟩:=exAt hjt
        by_cases hcu:clO c u=clO c t
        · have hu2:(o'.map encN)[j]?=some (.int .i64 u):=mget hu
          have hcu2:=hC u (hlow u (List.mem_of_getElem? hu))
          have hmem:clO c t∈o'.map (clO c):=by rw[←hcu]; exact List.mem_map_of_mem (List.mem_of_getElem? hu)
          have hidx:(o'.map (clO c)).idxOf (clO c t)=j:=idx_at _ _ _ (by rw[List.getElem?_map, hu, Option.map_some, hcu]) (by rw[←List.map_take]; exact hn)
          rw[if_pos hmem, hidx] at hS
          rw[hcu] at hcu2
          have hjn : ¬ (j:Int)=o'.length:=by omega
          refine ⟨?_⟩
          rw[r11K, r11H, r11O, r11T, r11V, r11N]
          (repeat' first|simp (disch:=omega) only[go_sem, List.length_map, List.map_cons, List.length_cons, hu2, hcu2, hct, hjn]|(apply spl<;>intro h<;>try simp (disch:=omega) only[go_sem, List.length_map, List.map_cons, List.length_cons, hu2, hcu2, hct, hjn, h]))
          refine hQ' _ _ ?_
          (repeat' first|simp (disch:=omega) only[go_sem, List.length_map, List.map_cons, List.length_cons, hjn]|(apply spl<;>intro h<;>try simp (disch:=omega) only[go_sem, List.length_map, List.map_cons, List.length_cons, hjn, h]))
          all_goals try omega
          refine ⟨k+1, ?_, by omega, by omega⟩
          rw[r11B, hS]
          dsimp only
          rw[r11V_snoc, r11T_snoc]
          rfl
        · exact hin Q' o' hlow hos' t htm (n0::nt) [] j hjt hn u hu hcu
      · have hje:j=o'.length:=by omega
        subst hje
        rw[List.take_length] at hn
        rw[if_neg hn] at hS
        refine ⟨?_⟩
        rw[r11K, r11H, r11O, r11T, r11V, r11N]
        (repeat' first|simp (disch:=omega) only[go_sem, List.length_map, List.map_cons, List.length_cons]|(apply spl<;>intro h<;>try simp (disch:=omega) only[go_sem, List.length_map, List.map_cons, List.length_cons, h]))
        refine hQ' _ _ ?_
        (repeat' first|simp (disch:=omega) only[go_sem, List.length_map, List.map_cons, List.length_cons, hO]|(apply spl<;>intro h<;>try simp (disch:=omega) only[go_sem, List.length_map, List.map_cons, List.length_cons, hO, h]))
        all_goals try omega
        refine ⟨k+1, ?_, by omega, by omega⟩
        rw[r11B, hS]
        dsimp only
        rw[r11V_snoc, r11T_snoc, List.length_append]
        rfl
  | cons s0 os=>
    have hout2:os.length+1<2^20:=hout
    cases ns with
    | nil=>
      have hnl3:k=0:=hnl2.symm
      refine ⟨?_⟩
      rw[r11B, hr]
      dsimp only
      rw[r11H, r11O, r11T, r11V]
      (repeat' first|simp (disch:=omega) only[go_sem, List.length_map, hb2]|refine pure_of _ (hst) ?_|(apply spl<;>intro h<;>try simp (disch:=omega) only[go_sem, List.length_map, hb2 , h]))
      all_goals try omega
      refine loop_ofH (α:=Nat) (r11K m c o' i q k t [] (s0::os)) (fun j=>j≤o'.length∧clO c t∉(o'.take j).map (clO c)) (fun j=>o'.length-j) 0 (by
        rw[r11K, r11H, r11O, r11T, r11V]
        exact norm_by0 [[], [], [], [4], []] [0, 1, 2, 3, 4] rfl rfl rfl rfl rfl rfl) ⟨Nat.zero_le _, by simp⟩ ?_
      intro Q' hQ' j hjn0
      obtain ⟨hj, hn⟩:=hjn0
      by_cases hjt:j<o'.length
      · obtain ⟨u, hu⟩:=exAt hjt
        by_cases hcu:clO c u=clO c t
        · have hu2:(o'.map encN)[j]?=some (.int .i64 u):=mget hu
          have hcu2:=hC u (hlow u (List.mem_of_getElem? hu))
          have hmem:clO c t∈o'.map (clO c):=by rw[←hcu]; exact List.mem_map_of_mem (List.mem_of_getElem? hu)
          have hidx:(o'.map (clO c)).idxOf (clO c t)=j:=idx_at _ _ _ (by rw[List.getElem?_map, hu, Option.map_some, hcu]) (by rw[←List.map_take]; exact hn)
          rw[if_pos hmem, hidx] at hS
          rw[hcu] at hcu2
          have hjn : ¬ (j:Int)=o'.length:=by omega
          refine ⟨?_⟩
          rw[r11K, r11H, r11O, r11T, r11V]
          (repeat' first|simp (disch:=omega) only[go_sem, List.length_map, List.map_cons, List.length_cons, hu2, hcu2, hct, hjn]|(apply spl<;>intro h<;>try simp (disch:=omega) only[go_sem, List.length_map, List.map_cons, List.length_cons, hu2, hcu2, hct, hjn, h]))
          refine hQ' _ _ ?_
          (repeat' first|simp (disch:=omega) only[go_sem, List.length_map, List.map_cons, List.length_cons, hjn]|(apply spl<;>intro h<;>try simp (disch:=omega) only[go_sem, List.length_map, List.map_cons, List.length_cons, hjn, h]))
          all_goals try omega
          refine ⟨k+1, ?_, by omega, by omega⟩
          rw[r11B, hS]
          dsimp only
          rw[r11V_snoc, r11T_snoc]
          rfl
        · exact hin Q' o' hlow hos' t htm [] (s0::os) j hjt hn u hu hcu
      · have hje:j=o'.length:=by omega
        subst hje
        rw[List.take_length] at hn
        rw[if_neg hn] at hS
        refine ⟨?_⟩
        rw[r11K, r11H, r11O, r11T, r11V]
        (repeat' first|simp (disch:=omega) only[go_sem, List.length_map, List.map_cons, List.length_cons]|(apply spl<;>intro h<;>try simp (disch:=omega) only[go_sem, List.length_map, List.map_cons, List.length_cons, h]))
        refine hQ' _ _ ?_
        (repeat' first|simp (disch:=omega) only[go_sem, List.length_map, List.map_cons, List.length_cons, hO]|(apply spl<;>intro h<;>try simp (disch:=omega) only[go_sem, List.length_map, List.map_cons, List.length_cons, hO, h]))
        all_goals try omega
        refine ⟨k+1, ?_, by omega, by omega⟩
        rw[r11B, hS]
        dsimp only
        rw[r11V_snoc, r11T_snoc, List.length_append]
        rfl
    | cons n0 nt=>
      have hnl3:nt.length+1=k:=hnl2
      refine ⟨?_⟩
      rw[r11B, hr]
      dsimp only
      rw[r11H, r11O, r11T, r11V, r11N]
      (repeat' first|simp (disch:=omega) only[go_sem, List.length_map, hb2]|refine pure_of _ (hst) ?_|(apply spl<;>intro h<;>try simp (disch:=omega) only[go_sem, List.length_map, hb2 , h]))
      all_goals try omega
      refine loop_ofH (α:=Nat) (r11K m c o' i q k t (n0::nt) (s0::os)) (fun j=>j≤o'.length∧clO c t∉(o'.take j).map (clO c)) (fun j=>o'.length-j) 0 (by
        rw[r11K, r11H, r11O, r11T, r11V, r11N]
        exact norm_by0 [[], [], [], [4], [], []] [0, 1, 2, 3, 4, 5] rfl rfl rfl rfl rfl rfl) ⟨Nat.zero_le _, by simp⟩ ?_
      intro Q' hQ' j hjn0
      obtain ⟨hj, hn⟩:=hjn0
      by_cases hjt:j<o'.length
      · obtain ⟨u, hu⟩:=exAt hjt
        by_cases hcu:clO c u=clO c t
        · have hu2:(o'.map encN)[j]?=some (.int .i64 u):=mget hu
          have hcu2:=hC u (hlow u (List.mem_of_getElem? hu))
          have hmem:clO c t∈o'.map (clO c):=by rw[←hcu]; exact List.mem_map_of_mem (List.mem_of_getElem? hu)
          have hidx:(o'.map (clO c)).idxOf (clO c t)=j:=idx_at _ _ _ (by rw[List.getElem?_map, hu, Option.map_some, hcu]) (by rw[←List.map_take]; exact hn)
          rw[if_pos hmem, hidx] at hS
          rw[hcu] at hcu2
          have hjn : ¬ (j:Int)=o'.length:=by omega
          refine ⟨?_⟩
          rw[r11K, r11H, r11O, r11T, r11V, r11N]
          (repeat' first|simp (disch:=omega) only[go_sem, List.length_map, List.map_cons, List.length_cons, hu2, hcu2, hct, hjn]|(apply spl<;>intro h<;>try simp (disch:=omega) only[go_sem, List.length_map, List.map_cons, List.length_cons, hu2, hcu2, hct, hjn, h]))
          refine hQ' _ _ ?_
          (repeat' first|simp (disch:=omega) only[go_sem, List.length_map, List.map_cons, List.length_cons, hjn]|(apply spl<;>intro h<;>try simp (disch:=omega) only[go_sem, List.length_map, List.map_cons, List.length_cons, hjn, h]))
          all_goals try omega
          refine ⟨k+1, ?_, by omega, by omega⟩
          rw[r11B, hS]
          dsimp only
          rw[r11V_snoc, r11T_snoc]
          rfl
        · exact hin Q' o' hlow hos' t htm (n0::nt) (s0::os) j hjt hn u hu hcu
      · have hje:j=o'.length:=by omega
        subst hje
        rw[List.take_length] at hn
        rw[if_neg hn] at hS
        refine ⟨?_⟩
        rw[r11K, r11H, r11O, r11T, r11V, r11N]
        (repeat' first|simp (disch:=omega) only[go_sem, List.length_map, List.map_cons, List.length_cons]|(apply spl<;>intro h<;>try simp (disch:=omega) only[go_sem, List.length_map, List.map_cons, List.length_cons, h]))
        refine hQ' _ _ ?_
        (repeat' first|simp (disch:=omega) only[go_sem, List.length_map, List.map_cons, List.length_cons, hO]|(apply spl<;>intro h<;>try simp (disch:=omega) only[go_sem, List.length_map, List.map_cons, List.length_cons, hO, h]))
        all_goals try omega
        refine ⟨k+1, ?_, by omega, by omega⟩
        rw[r11B, hS]
        dsimp only
        rw[r11V_snoc, r11T_snoc, List.length_append]
        rfl
end Ago
