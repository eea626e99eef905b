/- Least automata: the classes, plainly, and what is known at the heads of their loops. -/
import Derived.Test.YtgfkbpjgfdgfbaaGreatDoorRunB
import Derived.Test.YtgfkbpjgfdgfbaaGreatDoorRunC
set_option linter.unusedSimpArgs false
set_option linter.unusedVariables false
set_option maxRecDepth 100000
set_option maxHeartbeats 4000000
namespace Ago
open Go (IntKind)
section
variable {K:Type} [DecidableEq K]
theorem numGo_snoc (x:K) : ∀ (l seen:List K), numGo seen (l++[x])=if x∈(numGo seen l).2 then ((numGo seen l).1++[(numGo seen l).2.idxOf x], (numGo seen l).2) else ((numGo seen l).1++[(numGo seen l).2.length], (numGo seen l).2++[x])
  | [], seen=>by
    rw[List.nil_append, numGo_nil]
    by_cases h:x∈seen
    · rw[numGo_in [] h, numGo_nil, if_pos h]
      rfl
    · rw[numGo_new [] h, numGo_nil, if_neg h]
      rfl
  | y::l, seen=>by
    rw[List.cons_append]
    by_cases h:y∈seen
    · rw[numGo_in _ h, numGo_in _ h, numGo_snoc x l seen]
      by_cases h2:x∈(numGo seen l).2
      · rw[if_pos h2, if_pos h2]
        rfl
      · rw[if_neg h2, if_neg h2]
        rfl
    · rw[numGo_new _ h, numGo_new _ h, numGo_snoc x l (seen++[y])]
      by_cases h2:x∈(numGo (seen++[y]) l).2
      · rw[if_pos h2, if_pos h2]
        rfl
      · rw[if_neg h2, if_neg h2]
        rfl
end
/-- The first bytes of the classes of bytes. -/
def byM (m:List Sta):List Nat:=stN (losS m) 256
def nxM (m:List Sta):List (List Nat):=m.map fun s=>(byM m).map fun b=>(nextGo (b:Nat) s.arcs).toNat
def c0M (m:List Sta):List Nat:=m.map fun s=>if s.acc=true then 1 else 0
def clsM (m:List Sta):List Nat:=clsGo (nxM m) (m.length+2) 0 (c0M m)
def leastM (m:List Sta):List Sta:=numM m (byM m) (nxM m) (clsM m)
theorem nxM_len (m:List Sta):(nxM m).length=m.length:=by unfold nxM; rw[List.length_map]
theorem c0M_len (m:List Sta):(c0M m).length=m.length:=by unfold c0M; rw[List.length_map]
theorem byM_lt {m:List Sta} : ∀ b, b∈byM m→b<256:=fun b h=>by
  unfold byM stN at h
  exact List.mem_range.1 (List.mem_filter.1 h).1
theorem byM_len (m:List Sta):(byM m).length≤256:=stN_le _ _
theorem byM_zero {m:List Sta} (hv:validM m=true):byM m≠[]:=fun e=>by
  have hl:=valid_len hv
  obtain ⟨x, hx⟩:=exAt (show 0<m.length by omega)
  have hm:=List.mem_of_getElem? hx
  have ha:=valid_arcs hv hm
  have h0:(0:Nat)∈byM m:=by
    unfold byM stN
    rw[List.mem_filter]
    refine ⟨List.mem_range.2 (by decide), ?_⟩
    rw[decide_eq_true_eq]
    unfold losS
    rw[List.mem_flatMap]
    refine ⟨x, hm, ?_⟩
    cases hc:x.arcs with
    | nil=>
      rw[hc, arcsOk_nil] at ha
      cases ha
    | cons a l=>
      rw[hc, arcsOk_cons] at ha
      simp only[Bool.and_eq_true, decide_eq_true_eq] at ha
      unfold losA
      rw[List.map_cons]
      refine List.mem_cons.2 (.inl ?_)
      have:=ha.1.1.1.1.1
      omega
  rw[e] at h0
  cases h0
/-- Where a byte leads. -/
theorem next_lt {m:List Sta} (hv:validM m=true) {x:Sta} (hx:x∈m) {b:Nat} (hb:b<256):0≤nextGo b x.arcs∧nextGo b x.arcs<m.length:=next_in x.arcs 0 (valid_arcs hv hx) (by omega) (by omega)
theorem nxM_at {m:List Sta} {q:Nat} {x:Sta} (h:m[q]?=some x):(nxM m)[q]?=some ((byM m).map fun b=>(nextGo (b:Nat) x.arcs).toNat):=by
  unfold nxM
  rw[List.getElem?_map, h]
  rfl
theorem nxM_ok {m:List Sta} (hv:validM m=true) : ∀ r, r∈nxM m→r.length=(byM m).length∧∀ t, t∈r→t<m.length:=fun r hr=>by
  unfold nxM at hr
  obtain ⟨x, hx, rfl⟩:=List.mem_map.1 hr
  refine ⟨by rw[List.length_map], fun t ht=>?_⟩
  obtain ⟨b, hb, rfl⟩:=List.mem_map.1 ht
  have:=next_lt hv hx (byM_lt b hb)
  omega
/-- What is known at the head of the loop that makes classes finer. -/
structure ClsI (nx:List (List Nat)) (R:List Nat) (k:Nat) (c:List Nat):Prop where
  res : ∃ f, clsGo nx f k c=R∧nx.length+1≤f+k
  len:c.length=nx.length
  le:k≤nx.length
  onto : ∀ i, i<k→i∈c
  low : ∀ i, i∈c→i<nx.length+2
theorem ClsI.step {nx:List (List Nat)} {R:List Nat} {k:Nat} {c:List Nat} (h:ClsI nx R k c) (hne : ¬ (refC nx c).2=k):ClsI nx R (refC nx c).2 (refC nx c).1∧k<(refC nx c).2:=by
  obtain ⟨f, h1, h2⟩:=h.res
  have hm:=refC_mono (nx:=nx) h.len h.onto
  have hle:=refC_le nx c
  have hk:=h.le
  have hlt:k<(refC nx c).2:=by omega
  cases f with
  | zero=>omega
  | succ f=>
    conv at h1=>lhs; unfold clsGo
    rw[if_neg hne] at h1
    refine ⟨⟨⟨f, h1, by omega⟩, refC_len nx c, hle, refC_onto nx c, fun i hi=>?_⟩, hlt⟩
    have:=refC_lt hi
    omega
theorem ClsI.done {nx:List (List Nat)} {R:List Nat} {k:Nat} {c:List Nat} (h:ClsI nx R k c) (he:(refC nx c).2=k):R=(refC nx c).1:=by
  obtain ⟨f, h1, h2⟩:=h.res
  have hk:=h.le
  cases f with
  | zero=>omega
  | succ f=>
    conv at h1=>lhs; unfold clsGo
    rw[if_pos he] at h1
    exact h1.symm
theorem ClsI.init (m:List Sta):ClsI (nxM m) (clsM m) 0 (c0M m):=
  ⟨⟨m.length+2, rfl, by rw[nxM_len]; omega⟩, by rw[c0M_len, nxM_len], Nat.zero_le _, fun i hi=>absurd hi (Nat.not_lt_zero i), fun i hi=>by
    unfold c0M at hi
    obtain ⟨s, _, rfl⟩:=List.mem_map.1 hi
    split<;>omega⟩
theorem clsGo_len {nx:List (List Nat)} : ∀ (f k:Nat) (c:List Nat), c.length=nx.length→(clsGo nx f k c).length=nx.length
  | 0, _, c, h=>h
  | f+1, k, c, h=>by
    conv=>lhs; unfold clsGo
    split
    · exact refC_len nx c
    · exact clsGo_len f _ _ (refC_len nx c)
theorem clsM_len (m:List Sta):(clsM m).length=m.length:=by
  unfold clsM
  rw[clsGo_len _ _ _ (by rw[c0M_len, nxM_len]), nxM_len]
/-- One key more. -/
theorem kys_take {nx:List (List Nat)} {c:List Nat} {q:Nat} {l:List Nat} (h:nx[q]?=some l):(kys nx c).take (q+1)=(kys nx c).take q++[kyOf c q l]:=by
  unfold kys
  rw[List.take_add_one, List.getElem?_map, List.getElem?_zipIdx, h]
  simp
theorem itD_len (n:Nat) (h:n<1000000):(itD n).length≤6:=dec_len n 5 h
theorem keyT_len : ∀ l:List Nat, (∀ n, n∈l→n<1000000)→(keyT l).length≤7 * l.length
  | [], _=>Nat.le_refl _
  | n::l, h=>by
    have:=keyT_len l (fun x hx=>h x (List.mem_cons_of_mem _ hx))
    have:=itD_len n (h n (List.mem_cons_self ..))
    simp only[keyT, List.length_cons, List.length_append]
    omega
theorem keyL_len (l:List Nat) (h : ∀ n, n∈l→n<1000000):(keyL l).length≤7 * l.length:=by
  cases l with
  | nil=>exact Nat.le_refl _
  | cons n l=>
    have:=keyT_len l (fun x hx=>h x (List.mem_cons_of_mem _ hx))
    have:=itD_len n (h n (List.mem_cons_self ..))
    simp only[keyL, List.length_cons, List.length_append]
    omega
theorem keyT_snoc : ∀ (l:List Nat) (n:Nat), keyT (l++[n])=keyT l++(44::itD n)
  | [], n=>by simp [keyT]
  | x::l, n=>by
    rw[List.cons_append, keyT, keyT_snoc l n, keyT]
    simp
theorem keyL_snoc (x:Nat) (l:List Nat) (n:Nat):keyL (x::l++[n])=keyL (x::l)++(44::itD n):=by
  rw[List.cons_append, keyL, keyT_snoc, keyL]
  simp
/-- The numbers by keys as texts are those by lists. -/
theorem num_keys {l seen:List (List Nat)} (h1 : ∀ x, x∈l→x≠[]∧∀ n, n∈x→n<1000000) (h2 : ∀ x, x∈seen→x≠[]∧∀ n, n∈x→n<1000000):numGo (seen.map keyL) (l.map keyL)=((numGo seen l).1, (numGo seen l).2.map keyL):=
  numGo_map (ok:=fun x=>x≠[]∧∀ n, n∈x→n<1000000) (fun x y hx hy e=>keyL_inj x y hx.1 hy.1 hx.2 hy.2 e) l seen h1 h2
theorem clO_lt {c:List Nat} {b:Nat} (h : ∀ i, i∈c→i<b) (hb:0<b) (t:Nat):clO c t<b:=by
  unfold clO
  rw[List.getD_eq_getElem?_getD]
  cases ht:c[t]? with
  | none=>exact hb
  | some x=>exact h x (List.mem_of_getElem? ht)
theorem kyOf_ok {c:List Nat} (h : ∀ i, i∈c→i<1000000) (q:Nat) (l:List Nat):kyOf c q l≠[]∧∀ n, n∈kyOf c q l→n<1000000:=by
  refine ⟨by simp [kyOf], fun n hn=>?_⟩
  unfold kyOf at hn
  rcases List.mem_cons.1 hn with rfl | hn
  · exact clO_lt h (by decide) q
  · obtain ⟨t, _, rfl⟩:=List.mem_map.1 hn
    exact clO_lt h (by decide) t
theorem kys_ok {c:List Nat} (h : ∀ i, i∈c→i<1000000) (nx:List (List Nat)) : ∀ x, x∈kys nx c→x≠[]∧∀ n, n∈x→n<1000000:=fun x hx=>by
  unfold kys at hx
  obtain ⟨y, _, rfl⟩:=List.mem_map.1 hx
  exact kyOf_ok h _ _
end Ago
/- Least automata: least, its first loops: where each state goes. -/
set_option maxRecDepth 100000
set_option maxHeartbeats 16000000
namespace Ago
open Go (IntKind)
/-- A row of rows, one of which grows. -/
def nwR (A:List (List Nat)) (cur:AV) (n:Nat):List AV:=A.map encB++cur::List.replicate n (.snil 1)
theorem nwR_refs (A:List (List Nat)) (cur:AV) (n:Nat) (ro:Bool) (fam:Nat):(Blk.row 1 (nwR A cur n) ro false fam).refs=AV.refsN 6 cur:=by
  show (nwR A cur n).flatMap (AV.refsN 6)=_
  unfold nwR
  have e1:(List.replicate n (AV.snil 1)).flatMap (AV.refsN 6)=[]:=List.flatMap_eq_nil_iff.2 fun x hx=>by
    rw[(List.mem_replicate.1 hx).2]
    rfl
  have e2:(A.map encB).flatMap (AV.refsN 6)=[]:=List.flatMap_eq_nil_iff.2 fun x hx=>by
    obtain ⟨a, _, rfl⟩:=List.mem_map.1 hx
    rfl
  rw[List.flatMap_append, List.flatMap_cons, e1, e2, List.nil_append, List.append_nil]
theorem nwR_ren (A:List (List Nat)) (cur:AV) (n:Nat) (ro:Bool) (fam:Nat) (f:Nat→Option Nat) (g:Nat→Nat):Blk.ren f g (.row 1 (nwR A cur n) ro false fam) = .row 1 (nwR A (AV.renN f 6 cur) n) ro false (g fam):=by
  show Blk.row 1 ((nwR A cur n).map (AV.renN f 6)) ro false (g fam)=_
  congr 1
  unfold nwR
  rw[List.map_append, List.map_cons, List.map_map, List.map_replicate]
  rfl
theorem nwR_get (A:List (List Nat)) (cur:AV) (n:Nat):(nwR A cur n)[A.length]?=some cur:=by
  unfold nwR
  rw[List.getElem?_append_right (by rw[List.length_map]; exact Nat.le_refl _), List.length_map, Nat.sub_self]
  rfl
theorem nwR_set (A:List (List Nat)) (cur x:AV) (n:Nat):(nwR A cur n).set A.length x=nwR A x n:=by
  unfold nwR
  rw[List.set_append_right _ _ (by rw[List.length_map]; exact Nat.le_refl _), List.length_map, Nat.sub_self]
  rfl
theorem nwR_len (A:List (List Nat)) (cur:AV) (n:Nat):(nwR A cur n).length=A.length+1+n:=by
  unfold nwR
  rw[List.length_append, List.length_map, List.length_cons, List.length_replicate]
  omega
/-- The rows so far, the others not begun. -/
def nwH (A:List (List Nat)) (n:Nat):List AV:=A.map encB++List.replicate n (.snil 1)
theorem nwH_cons (A:List (List Nat)) (n:Nat):nwH A (n+1)=nwR A (.snil 1) n:=by
  unfold nwH nwR
  rw[List.replicate_succ]
def l9H (m:List Sta) (cur:AV) (q:Nat):Heap:=[.row 1 [.agg [.tsl 2 (m.map encSta)]] false true 0, .row 1 [.agg [.snil 2]] false true 1, .row 1 (nwR ((nxM m).take q) cur (m.length-q-1)) false false 2]
def c0R (m:List Sta) (q:Nat):List AV:=(((c0M m).take q)++List.replicate (m.length-q) 0).map encN
def l9T (m:List Sta) (q:Nat) (x:Sta) (k:Nat):St:=
  { tmps:=slots 126 [(1, .ptr 1 0 0 0), (2, .ptr 1 1 0 0), (3, .tsl 1 ((byM m).map encN)), (4, .sref 1 2 0 m.length), (5, .sref 1 (if k=0 then 3 else 4) 0 m.length), (6, .int .i64 q), (7, .ptr 2 (if k=0 then 4 else 5) 0 0), (31, .tsl 2 (m.map encSta)), (32, .int .i64 m.length), (33, .int .i64 q), (38, .tsl 1 ((byM m).map encN)), (39, .int .i64 (byM m).length), (40, .int .i64 k)],
    heap:=if k=0 then l9H m (.snil 1) q++[.row 1 (c0R m q) false true 3, .row 2 [encSta x] false true 4]
      else l9H m (.sref 1 3 0 k) q++[.row 1 ((((byM m).take k).map fun b=>(nextGo (b:Nat) x.arcs).toNat).map encN) false true 3, .row 1 (c0R m q) false true 4, .row 2 [encSta x] false true 5], base:=0 }
theorem least_in {Q:Ex→St→Prop} (m:List Sta) (h:SmallM m) (hv:validM m=true) (q:Nat) (x:Sta) (hx:m[q]?=some x) (k:Nat) (hk:k<(byM m).length) :
    aw (RunOf CB) (PRun CB) (ac355.lp 1) (awThen (fun t=>∃ a', t.norm [1, 2, 3, 4, 5, 6, 7, 31, 32, 33, 38, 39, 40]=l9T m q x a'∧a'≤(byM m).length∧(byM m).length-a'<(byM m).length-k) Q) (l9T m q x k):=by
  simp only[AFn.lp, ac355, ACode.loopsOf, List.cons_append, List.append_nil, List.nil_append, List.getD_cons_succ, List.getD_cons_zero]
  have hq:q<m.length:=(List.getElem?_eq_some_iff.1 hx).1
  obtain ⟨b, hb⟩:=exAt hk
  have hb2:((byM m).map encN)[k]?=some (.int .i64 b):=mget hb
  have hbl:=byM_lt b (List.mem_of_getElem? hb)
  have hst:=step_run m h q x hx b
  have hsn:=step_next (b:=(b:Int)) x.arcs 0 (valid_arcs hv (List.mem_of_getElem? hx)) (by omega)
  obtain ⟨h0, h1⟩:=next_lt hv (List.mem_of_getElem? hx) hbl
  rw[hsn] at hst
  obtain ⟨t, ht⟩ : ∃ t:Nat, nextGo (b:Int) x.arcs=t:=⟨(nextGo (b:Int) x.arcs).toNat, by omega⟩
  rw[ht] at hst
  have hqt:((nxM m).take q).length=q:=by rw[List.length_take, nxM_len]; omega
  obtain ⟨A, hA⟩ : ∃ A, (nxM m).take q=A:=⟨_, rfl⟩
  rw[hA] at hqt
  have hbl2:=byM_len m
  have hml:=h.1
  obtain ⟨N, hN⟩ : ∃ N, m.length-q-1=N:=⟨_, rfl⟩
  obtain ⟨C, hC⟩ : ∃ C, c0R m q=C:=⟨_, rfl⟩
  have hT:((byM m).take (k+1)).map (fun b=>(nextGo (b:Nat) x.arcs).toNat)=((byM m).take k).map (fun b=>(nextGo (b:Nat) x.arcs).toNat)++[t]:=by
    rw[List.take_add_one, hb, Option.toList_some, List.map_append]
    simp only[List.map_cons, List.map_nil, ht, Int.toNat_natCast]
  obtain ⟨L, hL⟩ : ∃ L, ((byM m).take k).map (fun b=>(nextGo (b:Nat) x.arcs).toNat)=L:=⟨_, rfl⟩
  have hLl:L.length=k:=by rw[←hL, List.length_map, List.length_take]; omega
  rw[hL] at hT
  have hrl:=nwR_len A
  have hget:=nwR_get A
  have hset:=nwR_set A
  rw[hqt] at hget hset hrl
  unfold encMa at hst
  have hxs:encSta x = .agg [.bool x.acc, .tsl 3 (x.arcs.map encArc)]:=rfl
  rcases Nat.eq_zero_or_pos k with rfl | hkp
  · rw[l9T, if_pos rfl, if_pos rfl, if_pos rfl, l9H, hA, hN, hC]
    (repeat' first|simp (disch:=omega) only[go_sem, List.length_map, hb2, hrl, hget, hset]|refine pure_of _ (hst) ?_|(apply spl<;>intro h<;>try simp (disch:=omega) only[go_sem, List.length_map, hb2, hrl, hget, hset , h]))
    all_goals try omega
    have hL0:L=[]:=List.length_eq_zero_iff.1 hLl
    refine ⟨1, ?_, by omega, by omega⟩
    rw[l9T, if_neg (by omega), if_neg (by omega), if_neg (by omega), l9H, hA, hN, hC, hT, hL0]
    refine (norm_by0 [[], [], [6], [], [], [], []] [0, 1, 2, 6, 3, 4] (by simp only[List.map_cons, List.map_nil, nwR_refs]; rfl) rfl rfl rfl rfl ?_)
    simp only[List.map_cons, List.map_nil, List.cons_append, List.nil_append, List.getD_eq_getElem?_getD, List.getElem?_cons_zero, List.getElem?_cons_succ, Option.getD_some, nwR_ren]
    rfl
  · rw[l9T, if_neg (by omega), if_neg (by omega), if_neg (by omega), l9H, hA, hN, hC, hL]
    (repeat' first|simp (disch:=omega) only[go_sem, List.length_map, hb2, hrl, hget, hset, hLl]|refine pure_of _ (hst) ?_|(apply spl<;>intro h<;>try simp (disch:=omega) only[go_sem, List.length_map, hb2, hrl, hget, hset, hLl , h]))
    all_goals try omega
    refine ⟨k+1, ?_, by omega, by omega⟩
    have hLm:L.map encN++[.int .i64 (t:Int)]=(L++[t]).map encN:=by rw[List.map_append]; rfl
    rw[l9T, if_neg (by omega), if_neg (by omega), if_neg (by omega), l9H, hA, hN, hC, hT, hLm]
    refine (norm_by0 [[], [], [7], [], [], [], [], []] [0, 1, 2, 7, 4, 5] (by simp only[List.map_cons, List.map_nil, nwR_refs]; rfl) rfl rfl rfl rfl ?_)
    simp only[List.map_cons, List.map_nil, List.cons_append, List.nil_append, List.getD_eq_getElem?_getD, List.getElem?_cons_zero, List.getElem?_cons_succ, Option.getD_some, nwR_ren]
    rfl
end Ago
/- Least automata: least, a round of its first loop. -/
set_option maxRecDepth 100000
set_option maxHeartbeats 16000000
namespace Ago
open Go (IntKind)
theorem nwH_refs (A:List (List Nat)) (n:Nat) (ro fl:Bool) (fam:Nat):(Blk.row 1 (nwH A n) ro fl fam).refs=[]:=by
  cases fl with
  | true=>rfl
  | false=>
    show (nwH A n).flatMap (AV.refsN 6)=_
    unfold nwH
    rw[List.flatMap_append, List.append_eq_nil_iff]
    refine ⟨List.flatMap_eq_nil_iff.2 fun x hx=>?_, List.flatMap_eq_nil_iff.2 fun x hx=>?_⟩
    · obtain ⟨a, _, rfl⟩:=List.mem_map.1 hx
      rfl
    · rw[(List.mem_replicate.1 hx).2]
      rfl
theorem nwH_ren (A:List (List Nat)) (n:Nat) (ro fl:Bool) (fam:Nat) (f:Nat→Option Nat) (g:Nat→Nat):Blk.ren f g (.row 1 (nwH A n) ro fl fam) = .row 1 (nwH A n) ro fl (g fam):=by
  cases fl with
  | true=>rfl
  | false=>
    show Blk.row 1 ((nwH A n).map (AV.renN f 6)) ro false (g fam)=_
    congr 1
    unfold nwH
    rw[List.map_append, List.map_map, List.map_replicate]
    rfl
theorem nwH_all (A:List (List Nat)) (n:Nat):((nwH A n).all fun x=>x.isPure && x.aged)=decide (n=0):=by
  unfold nwH
  rw[List.all_append]
  have e1:((A.map encB).all fun x=>x.isPure && x.aged)=true:=List.all_eq_true.2 fun x hx=>by
    obtain ⟨a, _, rfl⟩:=List.mem_map.1 hx
    rfl
  rw[e1, Bool.true_and]
  cases n with
  | zero=>rfl
  | succ n=>rfl
theorem nwR_thaw {H:Heap} {A:List (List Nat)} {r l:Nat} {L:List Nat} {ro:Bool} {fam:Nat} (N:Nat) (h:H[r]?=some (.row 1 (L.map encN) ro true fam)) (hl:l=L.length) :
    (nwR A (.sref 1 r 0 l) N).flatMap (fun x=>x.cells.flatMap (thawRefsC H))=[r]∧(nwR A (.sref 1 r 0 l) N).map (thawE H)=nwH (A++[L]) N:=by
  obtain ⟨h1, h2⟩:=thawC_flat h (l:=l) (by rw[List.length_map]; exact hl)
  unfold nwR nwH
  refine ⟨?_, ?_⟩
  · have e1:(List.replicate N (AV.snil 1)).flatMap (fun x=>x.cells.flatMap (thawRefsC H))=[]:=List.flatMap_eq_nil_iff.2 fun x hx=>by
      rw[(List.mem_replicate.1 hx).2]
      rfl
    have e2:(A.map encB).flatMap (fun x=>x.cells.flatMap (thawRefsC H))=[]:=List.flatMap_eq_nil_iff.2 fun x hx=>by
      obtain ⟨a, _, rfl⟩:=List.mem_map.1 hx
      rfl
    rw[List.flatMap_append, List.flatMap_cons, e1, e2, List.nil_append, List.append_nil]
    show thawRefsC H (.sref 1 r 0 l)++[]=[r]
    rw[h2]
    rfl
  · rw[List.map_append, List.map_cons, List.map_replicate, List.map_append]
    rw[show thawE H (.sref 1 r 0 l)=thawC H (.sref 1 r 0 l) from rfl, h1, List.map_map]
    rw[List.append_assoc]
    rfl
theorem c0R_step {m:List Sta} {q:Nat} {x:Sta} (hx:m[q]?=some x):(x.acc=true→(c0R m q).set q (.int .i64 1)=c0R m (q+1))∧(x.acc=false→c0R m q=c0R m (q+1))∧(c0R m q).length=m.length∧(c0R m q)[q]?=some (.int .i64 0):=by
  have hq:q<m.length:=(List.getElem?_eq_some_iff.1 hx).1
  have hc:(c0M m)[q]?=some (if x.acc=true then 1 else 0):=by
    unfold c0M
    rw[List.getElem?_map, hx]
    rfl
  have hl:=c0M_len m
  obtain ⟨n, hn⟩ : ∃ n, m.length-q=n+1:=⟨m.length-q-1, by omega⟩
  have ht:((c0M m).take q).length=q:=by rw[List.length_take]; omega
  have key:c0R m q=((c0M m).take q).map encN++encN 0::List.replicate n (encN 0):=by
    unfold c0R
    rw[hn, List.map_append, List.map_replicate, List.replicate_succ]
  have key2:c0R m (q+1)=((c0M m).take q).map encN++encN (if x.acc=true then 1 else 0)::List.replicate n (encN 0):=by
    unfold c0R
    rw[show m.length-(q+1)=n by omega, List.take_add_one, hc, List.map_append, List.map_append, List.map_replicate, List.append_assoc]
    rfl
  refine ⟨fun ha=>?_, fun ha=>?_, ?_, ?_⟩
  · rw[key, key2, if_pos ha, List.set_append_right _ _ (by rw[List.length_map]; omega), List.length_map, ht, Nat.sub_self]
    rfl
  · rw[key, key2, if_neg (by rw[ha]; decide)]
  · rw[key, List.length_append, List.length_map, List.length_cons, List.length_replicate]
    omega
  · rw[key, List.getElem?_append_right (by rw[List.length_map]; omega), List.length_map, ht, Nat.sub_self]
    rfl
def l9S (m:List Sta) (q:Nat):St:=
  { tmps:=slots 126 [(1, .ptr 1 0 0 0), (2, .ptr 1 1 0 0), (3, .tsl 1 ((byM m).map encN)), (4, .sref 1 2 0 m.length), (5, .sref 1 3 0 m.length), (31, .tsl 2 (m.map encSta)), (32, .int .i64 m.length), (33, .int .i64 q)],
    heap:=[.row 1 [.agg [.tsl 2 (m.map encSta)]] false true 0, .row 1 [.agg [.snil 2]] false true 1, .row 1 (nwH ((nxM m).take q) (m.length-q)) false (decide (m.length-q=0)) 2, .row 1 (c0R m q) false true 3], base:=0 }
theorem least_out {Q:Ex→St→Prop} (m:List Sta) (h:SmallM m) (hv:validM m=true) (q:Nat) (hq:q<m.length) :
    aw (RunOf CB) (PRun CB) (ac355.lp 0) (awThen (fun t=>∃ a', t.head [1, 2, 3, 4, 5, 31, 32, 33, 2004]=l9S m a'∧a'≤m.length∧m.length-a'<m.length-q) Q) (l9S m q):=by
  have hin:=fun (Q:Ex→St→Prop) (x:Sta) (hx:m[q]?=some x) (k:Nat) (hk:k<(byM m).length)=>least_in (Q:=Q) m h hv q x hx k hk
  simp only[AFn.lp, ac355, ACode.loopsOf, List.cons_append, List.append_nil, List.nil_append, List.getD_cons_succ, List.getD_cons_zero] at hin ⊢
  obtain ⟨x, hx⟩:=exAt hq
  have hx2:(m.map encSta)[q]?=some (.agg [.bool x.acc, .tsl 3 (x.arcs.map encArc)]):=mget hx
  have hml:=h.1
  obtain ⟨N, hN⟩ : ∃ N, m.length-q=N+1:=⟨m.length-q-1, by omega⟩
  have hN1:m.length-q-1=N:=by omega
  have hqt:((nxM m).take q).length=q:=by rw[List.length_take, nxM_len]; omega
  have hT:(nxM m).take (q+1)=(nxM m).take q++[(byM m).map fun b=>(nextGo (b:Nat) x.arcs).toNat]:=by rw[List.take_add_one, nxM_at hx]; rfl
  obtain ⟨c1, c2, c3, c4⟩:=c0R_step hx
  obtain ⟨A, hA⟩ : ∃ A, (nxM m).take q=A:=⟨_, rfl⟩
  obtain ⟨C, hC⟩ : ∃ C, c0R m q=C:=⟨_, rfl⟩
  rw[hC] at c1 c2 c3 c4
  rw[hA] at hT hqt
  have hby:=byM_zero hv
  have hbp:0<(byM m).length:=List.length_pos_iff.2 hby
  have hbl:=byM_len m
  have hd:decide (m.length-q=0)=false:=decide_eq_false (by omega)
  have hlen:=nwR_len A (.snil 1) N
  have hxs:encSta x = .agg [.bool x.acc, .tsl 3 (x.arcs.map encArc)]:=rfl
  rw[l9S, hd, hN, nwH_cons, hA, hC]
  (repeat' first|simp (disch:=omega) only[go_sem, List.length_map, hx2, hlen]|(apply spl<;>intro h<;>try simp (disch:=omega) only[go_sem, List.length_map, hx2, hlen, h]))
  all_goals try omega
  refine loop_of (α:=Nat) (l9T m q x) (fun k=>k≤(byM m).length) (fun k=>(byM m).length-k) 0 (by
    rw[l9T, if_pos rfl, if_pos rfl, if_pos rfl, l9H, hA, hN1, hC]
    refine (norm_by0 [[], [], [], [], []] [0, 1, 2, 3, 4] (by simp only[List.map_cons, List.map_nil, nwR_refs]; rfl) rfl rfl rfl rfl ?_)
    simp only[List.map_cons, List.map_nil, List.cons_append, List.nil_append, List.getD_eq_getElem?_getD, List.getElem?_cons_zero, List.getElem?_cons_succ, Option.getD_some, nwR_ren]
    rfl) (Nat.zero_le _) ?_
  intro k hk
  by_cases hkt:k<(byM m).length
  · exact hin _ x hx k hkt
  · have hke:k=(byM m).length:=by omega
    subst hke
    obtain ⟨L, hL⟩ : ∃ L, (byM m).map (fun b=>(nextGo (b:Nat) x.arcs).toNat)=L:=⟨_, rfl⟩
    have hLl:L.length=(byM m).length:=by rw[←hL, List.length_map]
    rw[hL] at hT
    rw[l9T, if_neg (by omega), if_neg (by omega), if_neg (by omega), l9H, hA, hN1, hC, List.take_length, hL, hxs]
    cases hac:x.acc with
    | true=>
      rw[hac] at c1
      have c1:=c1 rfl
      (repeat' first|simp (disch:=omega) only[go_sem, List.length_map, c3, c1, c4]|(apply spl<;>intro h<;>try simp (disch:=omega) only[go_sem, List.length_map, c3, c1, c4, h]))
      all_goals try omega
      refine ⟨q+1, ?_, by omega, by omega⟩
      refine (head_thaw (r:=2) rfl rfl (thaw_row1 (ks:=[3]) rfl ⟨_, rfl⟩ (nwR_thaw (L:=L) N rfl hLl.symm).1 (nwR_thaw (L:=L) N rfl hLl.symm).2 (nwH_all _ _))).trans ?_
      rw[l9S, hT, show m.length-(q+1)=N by omega]
      refine (norm_by (R:=[[], [], [], [], [], []]) (ks:=[0, 1, 2, 4]) (dr:=[(3, (L.map encN).length)]) (by simp only[List.set_cons_zero, List.set_cons_succ, markRO, markFrom, List.map_cons, List.map_nil, List.cons_append, List.nil_append, nwH_refs]; rfl) rfl rfl rfl rfl rfl ?_)
      simp only[roMark_cons]
      simp only[List.set_cons_zero, List.set_cons_succ, markRO, markFrom, List.map_cons, List.map_nil, List.cons_append, List.nil_append, List.getD_eq_getElem?_getD, List.getElem?_cons_zero, List.getElem?_cons_succ, Option.getD_some, Blk.roBy, nwH_ren]
      rfl
    | false=>
      rw[hac] at c2
      have c2:=c2 rfl
      (repeat' first|simp (disch:=omega) only[go_sem, List.length_map, c3]|(apply spl<;>intro h<;>try simp (disch:=omega) only[go_sem, List.length_map, c3, h]))
      all_goals try omega
      refine ⟨q+1, ?_, by omega, by omega⟩
      refine (head_thaw (r:=2) rfl rfl (thaw_row1 (ks:=[3]) rfl ⟨_, rfl⟩ (nwR_thaw (L:=L) N rfl hLl.symm).1 (nwR_thaw (L:=L) N rfl hLl.symm).2 (nwH_all _ _))).trans ?_
      rw[l9S, hT, show m.length-(q+1)=N by omega, ← c2]
      refine (norm_by (R:=[[], [], [], [], [], []]) (ks:=[0, 1, 2, 4]) (dr:=[(3, (L.map encN).length)]) (by simp only[List.set_cons_zero, List.set_cons_succ, markRO, markFrom, List.map_cons, List.map_nil, List.cons_append, List.nil_append, nwH_refs]; rfl) rfl rfl rfl rfl rfl ?_)
      simp only[roMark_cons]
      simp only[List.set_cons_zero, List.set_cons_succ, markRO, markFrom, List.map_cons, List.map_nil, List.cons_append, List.nil_append, List.getD_eq_getElem?_getD, List.getElem?_cons_zero, List.getElem?_cons_succ, Option.getD_some, Blk.roBy, nwH_ren]
      rfl
end Ago
/- Two automata at once, plainly: the pairs of states in the order in which they are met. -/
set_option maxRecDepth 100000
set_option maxHeartbeats 4000000
namespace Ago
/-! ### arcs that cover the bytes -/
/-- Where the arcs end, if they lie one behind the other. -/
def endGo (n:Int):Int→List Arc→Option Int
  | lo, []=>some lo
  | lo, a::l=>if a.lo=lo∧lo≤a.hi∧a.hi≤255∧0≤a.next∧a.next<n then endGo n (a.hi+1) l else none
theorem endGo_cons (n lo:Int) (a:Arc) (l:List Arc):endGo n lo (a::l)=if a.lo=lo∧lo≤a.hi∧a.hi≤255∧0≤a.next∧a.next<n then endGo n (a.hi+1) l else none:=(rfl)
theorem endGo_ok (n:Int) : ∀ (l:List Arc) (lo:Int), endGo n lo l=some 256→arcsOk n lo l=true
  | [], lo, h=>by
    have:lo=256:=by simpa [endGo] using h
    subst this
    rfl
  | a::l, lo, h=>by
    rw[endGo_cons] at h
    split at h
    · rename_i hc
      rw[arcsOk_cons, endGo_ok n l _ h]
      simp [hc.1, hc.2.1, hc.2.2.1, hc.2.2.2.1, hc.2.2.2.2]
    · cases h
theorem endGo_snoc (n:Int) (a:Arc) : ∀ (l:List Arc) (lo:Int), endGo n lo (l++[a])=(endGo n lo l).bind fun e=>if a.lo=e∧e≤a.hi∧a.hi≤255∧0≤a.next∧a.next<n then some (a.hi+1) else none
  | [], lo=>rfl
  | x::l, lo=>by
    rw[List.cons_append, endGo_cons, endGo_cons]
    split
    · exact endGo_snoc n a l _
    · rfl
/-- The place behind the k-th byte. -/
def atE (at':List Nat) (k:Nat):Int:=match at'[k]? with
  | some b=>(b:Int)
  | none=>256
theorem arcK_end {at' tg:List Nat} {n:Nat} (h0:at'[0]?=some 0) (hs:at'.Pairwise (· < ·)) (hb : ∀ b, b∈at'→b<256) (ht : ∀ t, t∈tg→t<n) (hn:0<n) : ∀ k, k≤at'.length→endGo n 0 (arcK at' tg k)=some (atE at' k)
  | 0, _=>by
    unfold arcK atE
    rw[h0]
    rfl
  | k+1, hk=>by
    have ih:=arcK_end h0 hs hb ht hn k (by omega)
    obtain ⟨b, hbk⟩:=exAt (show k<at'.length by omega)
    have hb3:at'.getD k 0=b:=by rw[List.getD_eq_getElem?_getD, hbk]; rfl
    have hb256:=hb b (List.mem_of_getElem? hbk)
    have htk:tg.getD k 0<n:=by
      rw[List.getD_eq_getElem?_getD]
      cases h:tg[k]? with
      | none=>exact hn
      | some t=>exact ht t (List.mem_of_getElem? h)
    have hhi:hiN at' k+1=atE at' (k+1)∧(b:Int)≤hiN at' k∧hiN at' k≤255:=by
      unfold hiN atE
      cases h:at'[k+1]? with
      | none=>exact ⟨rfl, by simp only; omega, by simp only; omega⟩
      | some c=>
        have hc:=hb c (List.mem_of_getElem? h)
        obtain ⟨h1, h1'⟩:=List.getElem?_eq_some_iff.1 hbk
        obtain ⟨h2, h2'⟩:=List.getElem?_eq_some_iff.1 h
        have:=List.pairwise_iff_getElem.1 hs k (k+1) h1 h2 (by omega)
        rw[h1', h2'] at this
        exact ⟨by simp only; omega, by simp only; omega, by simp only; omega⟩
    have hE:atE at' k=b:=by unfold atE; rw[hbk]
    rw[hE] at ih
    obtain ⟨g1, g2, g3⟩:=hhi
    rw[arcK, hb3]
    obtain ⟨y, hy⟩ : ∃ y, tg.getD k 0=y:=⟨_, rfl⟩
    rw[hy] at htk ⊢
    rcases last_cases (arcK at' tg k) with hl | ⟨i, a, hl⟩
    · rw[hl] at ih ⊢
      rw[arcF_nil, ← List.nil_append [(⟨(b:Int), hiN at' k, (y:Int)⟩:Arc)], endGo_snoc, ih]
      show (if _ then _ else _)=_
      rw[if_pos ⟨rfl, g2, g3, by simp only; omega, by simp only; omega⟩]
      simp only[g1]
    · rw[hl] at ih ⊢
      by_cases hay:a.next=(y:Int)
      · rw[arcF_same hay, endGo_snoc]
        rw[endGo_snoc] at ih
        cases he:endGo n 0 i with
        | none=>
          rw[he] at ih
          cases ih
        | some e=>
          rw[he] at ih
          rw[Option.bind_some] at ih ⊢
          split at ih
          · rename_i hc
            have h3:a.hi+1=b:=Option.some.inj ih
            rw[if_pos ⟨hc.1, by simp only; omega, g3, hc.2.2.2.1, hc.2.2.2.2⟩]
            simp only[g1]
          · cases ih
      · rw[arcF_diff hay, endGo_snoc, ih, Option.bind_some, if_pos ⟨rfl, g2, g3, by simp only; omega, by simp only; omega⟩]
        simp only[g1]
theorem arcK_ok {at' tg:List Nat} {n:Nat} (h0:at'[0]?=some 0) (hs:at'.Pairwise (· < ·)) (hb : ∀ b, b∈at'→b<256) (ht : ∀ t, t∈tg→t<n) (hn:0<n):arcsOk n 0 (arcK at' tg at'.length)=true:=by
  refine endGo_ok _ _ _ ?_
  rw[arcK_end h0 hs hb ht hn _ (Nat.le_refl _)]
  unfold atE
  rw[List.getElem?_eq_none (Nat.le_refl _)]
theorem arcsOk_more {n n':Int} (h:n≤n') : ∀ (l:List Arc) (lo:Int), arcsOk n lo l=true→arcsOk n' lo l=true
  | [], lo, h=>h
  | a::l, lo, hl=>by
    rw[arcsOk_cons] at hl ⊢
    simp only[Bool.and_eq_true, decide_eq_true_eq] at hl ⊢
    exact ⟨⟨hl.1.1, by omega⟩, arcsOk_more h l _ hl.2⟩
/-! ### the bytes at which a class begins -/
theorem stN_sorted (los:List Int) (k:Nat):(stN los k).Pairwise (· < ·):=List.Pairwise.filter _ List.pairwise_lt_range
theorem stN_first {los:List Int} (h:(0:Int)∈los):(stN los 256)[0]?=some 0:=by
  unfold stN
  rw[show 256=255+1 from rfl, List.range_succ_eq_map, List.filter_cons_of_pos (by simpa using h)]
  rfl
theorem stN_lt {los:List Int} : ∀ b, b∈stN los 256→b<256:=fun b h=>by
  unfold stN at h
  exact List.mem_range.1 (List.mem_filter.1 h).1
theorem los_zero {m:List Sta} (hv:validM m=true):(0:Int)∈losS m:=by
  have hl:=valid_len hv
  obtain ⟨x, hx⟩:=exAt (show 0<m.length by omega)
  have hm:=List.mem_of_getElem? hx
  have ha:=valid_arcs hv hm
  unfold losS
  rw[List.mem_flatMap]
  refine ⟨x, hm, ?_⟩
  cases hc:x.arcs with
  | nil=>
    rw[hc, arcsOk_nil] at ha
    cases ha
  | cons a l=>
    rw[hc, arcsOk_cons] at ha
    simp only[Bool.and_eq_true, decide_eq_true_eq] at ha
    unfold losA
    rw[List.map_cons]
    refine List.mem_cons.2 (.inl ?_)
    have:=ha.1.1.1.1.1
    omega
/-! ### pairs -/
def nextA (a:List Sta) (q c:Nat):Nat:=match a[q]? with
  | some x=>(nextGo (c:Nat) x.arcs).toNat
  | none=>0
theorem nextA_at {a:List Sta} {q:Nat} {x:Sta} (h:a[q]?=some x) (c:Nat):nextA a q c=(nextGo (c:Nat) x.arcs).toNat:=by
  unfold nextA
  rw[h]
def nxP (a b:List Sta) (p:Nat × Nat) (c:Nat):Nat × Nat:=(nextA a p.1 c, nextA b p.2 c)
def toP (a b:List Sta) (at':List Nat) (p:Nat × Nat):List (Nat × Nat):=at'.map (nxP a b p)
def stP (a b:List Sta) (at':List Nat) (K:Bool→Bool→Bool) (p:Nat × Nat) (ns:List Nat):Sta:=⟨K (accM a p.1) (accM b p.2), arcK at' ns at'.length⟩
def pairG (a b:List Sta) (at':List Nat) (K:Bool→Bool→Bool):Nat→Nat→List (Nat × Nat)→List Sta→Option (List Sta)
  | 0, _, _, out=>some out
  | f+1, i, o, out=>match o[i]? with
    | none=>some out
    | some p=>if (numGo o (toP a b at' p)).2.length≤1024 then pairG a b at' K f (i+1) (numGo o (toP a b at' p)).2 (out++[stP a b at' K p (numGo o (toP a b at' p)).1]) else none
def pairM (a b:List Sta) (at':List Nat) (K:Bool→Bool→Bool):Option (List Sta):=pairG a b at' K 1025 0 [(0, 0)] []
/-- What is known at the head of the outer loop. -/
structure PairI (a b:List Sta) (at':List Nat) (K:Bool→Bool→Bool) (R:Option (List Sta)) (i:Nat) (o:List (Nat × Nat)) (out:List Sta):Prop where
  res : ∃ f, pairG a b at' K f i o out=R∧1025≤f+i
  le:i≤o.length
  len:out.length=i
  low : ∀ p, p∈o→p.1<a.length∧p.2<b.length
  nd:o.Nodup
  zero:o[0]?=some (0, 0)
  max:o.length≤1024
  arcs : ∀ s, s∈out→arcsOk o.length 0 s.arcs=true
theorem numGo_nodup {K:Type} [DecidableEq K] : ∀ (l seen:List K), seen.Nodup→(numGo seen l).2.Nodup
  | [], seen, h=>by
    rw[numGo_nil]
    exact h
  | x::l, seen, h=>by
    by_cases hx:x∈seen
    · rw[numGo_in l hx]
      exact numGo_nodup l seen h
    · rw[numGo_new l hx]
      refine numGo_nodup l (seen++[x]) ?_
      rw[List.nodup_append]
      refine ⟨h, by simp, fun y hy z hz=>?_⟩
      rw[List.mem_singleton.1 hz]
      exact fun e=>hx (e▸hy)
theorem numGo_sub' {K:Type} [DecidableEq K] : ∀ (l seen:List K) (y:K), y∈(numGo seen l).2→y∈seen∨y∈l
  | [], seen, y, h=>by
    rw[numGo_nil] at h
    exact .inl h
  | x::l, seen, y, h=>by
    by_cases hx:x∈seen
    · rw[numGo_in l hx] at h
      rcases numGo_sub' l seen y h with h | h
      · exact .inl h
      · exact .inr (List.mem_cons_of_mem _ h)
    · rw[numGo_new l hx] at h
      rcases numGo_sub' l (seen++[x]) y h with h | h
      · rcases List.mem_append.1 h with h | h
        · exact .inl h
        · rw[List.mem_singleton.1 h]
          exact .inr (List.mem_cons_self ..)
      · exact .inr (List.mem_cons_of_mem _ h)
theorem nextA_lt {a:List Sta} (hv:validM a=true) {q c:Nat} (hq:q<a.length) (hc:c<256):nextA a q c<a.length:=by
  obtain ⟨x, hx⟩:=exAt hq
  rw[nextA_at hx]
  have:=next_lt hv (List.mem_of_getElem? hx) hc
  omega
theorem toP_low {a b:List Sta} (ha:validM a=true) (hb:validM b=true) {at':List Nat} (hab : ∀ c, c∈at'→c<256) {p:Nat × Nat} (hp:p.1<a.length∧p.2<b.length) : ∀ x, x∈toP a b at' p→x.1<a.length∧x.2<b.length:=fun x hx=>by
  unfold toP at hx
  obtain ⟨c, hc, rfl⟩:=List.mem_map.1 hx
  exact ⟨nextA_lt ha hp.1 (hab c hc), nextA_lt hb hp.2 (hab c hc)⟩
section
variable {a b:List Sta} {at':List Nat} {K:Bool→Bool→Bool} {R:Option (List Sta)} {i:Nat} {o:List (Nat × Nat)} {out:List Sta}
theorem PairI.init (ha:validM a=true) (hb:validM b=true):PairI a b at' K (pairM a b at' K) 0 [(0, 0)] []:=
  ⟨⟨1025, rfl, Nat.le_refl _⟩, Nat.zero_le _, rfl, fun p hp=>by
    rw[List.mem_singleton.1 hp]
    have:=valid_len ha
    have:=valid_len hb
    exact ⟨by simp only; omega, by simp only; omega⟩, by simp, rfl, by simp, fun s hs=>by cases hs⟩
theorem PairI.over (h:PairI a b at' K R i o out) {p:Nat × Nat} (hp:o[i]?=some p) (hl : ¬ (numGo o (toP a b at' p)).2.length≤1024):R=none:=by
  obtain ⟨f, h1, h2⟩:=h.res
  have hm:=h.max
  have hi:=(List.getElem?_eq_some_iff.1 hp).1
  cases f with
  | zero=>omega
  | succ f=>
    conv at h1=>lhs; unfold pairG
    rw[hp] at h1
    simp only[if_neg hl] at h1
    exact h1.symm
theorem PairI.step (h:PairI a b at' K R i o out) (ha:validM a=true) (hb:validM b=true) (h0:at'[0]?=some 0) (hs:at'.Pairwise (· < ·)) (hab : ∀ c, c∈at'→c<256) {p:Nat × Nat} (hp:o[i]?=some p) (hl:(numGo o (toP a b at' p)).2.length≤1024) :
    PairI a b at' K R (i+1) (numGo o (toP a b at' p)).2 (out++[stP a b at' K p (numGo o (toP a b at' p)).1]):=by
  obtain ⟨f, h1, h2⟩:=h.res
  have hm:=h.max
  have hi:=(List.getElem?_eq_some_iff.1 hp).1
  obtain ⟨t, ht, _⟩:=numGo_grow (toP a b at' p) o
  have hz:=h.zero
  have hol:o.length≤(numGo o (toP a b at' p)).2.length:=by rw[ht, List.length_append]; omega
  cases f with
  | zero=>omega
  | succ f=>
    conv at h1=>lhs; unfold pairG
    rw[hp] at h1
    simp only[if_pos hl] at h1
    refine ⟨⟨f, h1, by omega⟩, by omega, by rw[List.length_append, h.len]; rfl, fun x hx=>?_, numGo_nodup _ _ h.nd, ?_, hl, fun s hs'=>?_⟩
    · rcases numGo_sub' _ _ x hx with hx | hx
      · exact h.low x hx
      · exact toP_low ha hb hab (h.low p (List.mem_of_getElem? hp)) x hx
    · rw[ht, List.getElem?_append_left (by omega)]
      exact hz
    · rcases List.mem_append.1 hs' with hs' | hs'
      · exact arcsOk_more (by omega) _ _ (h.arcs s hs')
      · rw[List.mem_singleton.1 hs']
        exact arcK_ok h0 hs hab (fun t ht=>numGo_lt _ _ t ht) (by omega)
theorem PairI.done (h:PairI a b at' K R i o out) (hlt : ¬ i<o.length):R=some out∧validM out=true:=by
  obtain ⟨f, h1, _⟩:=h.res
  have hle:=h.le
  have hlen:=h.len
  have hmax:=h.max
  have hz:=(List.getElem?_eq_some_iff.1 h.zero).1
  have hn:o[i]?=none:=List.getElem?_eq_none (by omega)
  refine ⟨?_, ?_⟩
  · cases f with
    | zero=>exact h1.symm
    | succ f=>
      conv at h1=>lhs; unfold pairG
      rw[hn] at h1
      exact h1.symm
  · unfold validM
    simp only[Bool.and_eq_true, decide_eq_true_eq, List.all_eq_true]
    refine ⟨⟨by omega, by omega⟩, fun s hs=>?_⟩
    have:=h.arcs s hs
    rw[show out.length=o.length by omega]
    exact this
end
/-- The keys are never more at the end than on the way. -/
theorem numGo_cut {K:Type} [DecidableEq K] (l:List K) (k:Nat) (seen:List K):(numGo seen (l.take k)).2.length≤(numGo seen l).2.length:=by
  have h : ∀ (l m seen:List K), (numGo seen l).2.length≤(numGo seen (l++m)).2.length:=by
    intro l
    induction l with
    | nil=>
      intro m seen
      obtain ⟨t, ht, _⟩:=numGo_grow m seen
      rw[List.nil_append, numGo_nil, ht, List.length_append]
      simp only
      omega
    | cons x l ih=>
      intro m seen
      rw[List.cons_append]
      by_cases hx:x∈seen
      · rw[numGo_in l hx, numGo_in _ hx]
        exact ih m seen
      · rw[numGo_new l hx, numGo_new _ hx]
        exact ih m _
  have:=h (l.take k) (l.drop k) seen
  rw[List.take_append_drop] at this
  exact this
end Ago
/- Pairs, plainly: the machine of the pairs is valid; what is combined. -/
set_option maxRecDepth 100000
set_option maxHeartbeats 4000000
namespace Ago
theorem arcsOk_len (n:Int) : ∀ (l:List Arc) (lo:Int), arcsOk n lo l=true→lo+l.length≤256
  | [], lo, h=>by
    have:lo=256:=by simpa [arcsOk_nil] using h
    simp only[List.length_nil]
    omega
  | a::l, lo, h=>by
    rw[arcsOk_cons] at h
    simp only[Bool.and_eq_true, decide_eq_true_eq] at h
    have:=arcsOk_len n l _ h.2
    have:=h.1.1.1.1.2
    simp only[List.length_cons]
    omega
theorem small_valid {m:List Sta} (h:validM m=true):SmallM m:=by
  refine ⟨?_, fun s hs=>?_⟩
  · unfold validM at h
    simp only[Bool.and_eq_true, decide_eq_true_eq] at h
    have:=h.1.2
    omega
  · have:=arcsOk_len _ _ _ (valid_arcs h hs)
    omega
theorem len_valid {m:List Sta} (h:validM m=true):m.length≤1024:=by
  unfold validM at h
  simp only[Bool.and_eq_true, decide_eq_true_eq] at h
  exact h.1.2
section
variable {a b:List Sta} {at':List Nat} {K:Bool→Bool→Bool} {R:Option (List Sta)}
theorem PairI.end (ha:validM a=true) (hb:validM b=true) (h0:at'[0]?=some 0) (hs:at'.Pairwise (· < ·)) (hab : ∀ c, c∈at'→c<256) : ∀ (f i:Nat) (o:List (Nat × Nat)) (out:List Sta), 1025≤f+i→PairI a b at' K R i o out→∀ r, R=some r→validM r=true
  | 0, i, o, out, hf, h, r, hr=>by
    have h1:=h.le
    have h2:=h.max
    omega
  | f+1, i, o, out, hf, h, r, hr=>by
    by_cases hlt:i<o.length
    · obtain ⟨p, hp⟩:=exAt hlt
      by_cases hl:(numGo o (toP a b at' p)).2.length≤1024
      · exact PairI.end ha hb h0 hs hab f (i+1) _ _ (by omega) (h.step ha hb h0 hs hab hp hl) r hr
      · rw[h.over hp hl] at hr
        cases hr
    · obtain ⟨h1, h2⟩:=h.done hlt
      rw[hr] at h1
      cases h1
      exact h2
theorem pairM_valid (ha:validM a=true) (hb:validM b=true) (h0:at'[0]?=some 0) (hs:at'.Pairwise (· < ·)) (hab : ∀ c, c∈at'→c<256) {r:List Sta} (hr:pairM a b at' K=some r):validM r=true:=
  PairI.end ha hb h0 hs hab 1025 0 _ _ (Nat.le_refl _) (PairI.init ha hb) r hr
end
/-- Rows for pairs. -/
def r2 (p:Nat × Nat):List Nat:=[p.1, p.2]
end Ago
/- Pairs of states: maps keyed by pairs, what is kept of two. -/
set_option maxRecDepth 100000
set_option maxHeartbeats 4000000
namespace Ago
open Go (IntKind)
def encP (p:Nat × Nat):AV:=.agg [.int .i64 p.1, .int .i64 p.2]
theorem still_prs (l:List (Nat × Nat)) : ∀ x, x∈l.map encP→Stil x:=fun x h=>by
  obtain ⟨n, _, rfl⟩:=List.mem_map.1 h
  exact ⟨rfl, fun _=>rfl⟩
theorem find_pr (x:Nat × Nat) : ∀ (l:List (Nat × Nat)) (i j:Nat), findKey (.many [.int, .int]) (.agg [.int .i64 x.1, .int .i64 x.2]) (nmGo i (l.map encP)) j=some (if x∈l then some (j + @List.idxOf _ instBEqOfDecidableEq x l, .int .i64 ((i + @List.idxOf _ instBEqOfDecidableEq x l:Nat):Int)) else none)
  | [], _, _=>rfl
  | y::l, i, j=>by
    rw[List.map_cons, nmGo, findKey]
    have e:keyEq (.many [.int, .int]) (.agg [.int .i64 x.1, .int .i64 x.2]) (encP y)=some (decide (x=y)):=by
      obtain ⟨a, b⟩:=x
      obtain ⟨c, d⟩:=y
      simp only[keyEq, cellsEq, cellEq, encP, if_true]
      by_cases h1:a=c<;>by_cases h2:b=d<;>simp [h1, h2]<;>omega
    rw[e]
    by_cases h:x=y
    · subst h
      simp
    · rw[decide_eq_false h]
      simp only
      rw[find_pr x l, idx_cons x y l h]
      simp only[List.mem_cons, h, false_or, cond_false]
      by_cases hm:x∈l
      · rw[if_pos hm, if_pos hm]
        simp only[Option.some.injEq, Prod.mk.injEq, AV.int.injEq, true_and]
        omega
      · rw[if_neg hm, if_neg hm]
theorem post_bool {m:Nat} {res:List ResV} {H:Heap} {tm:List AV} {b rb:Nat} {e:Ex} {w:Bool} (he:e = .normal∨e = .ret) (hres:results res ⟨tm, H, b, rb⟩=some (.bool w)) (hm:m=H.length) (hC:Cl H):PostC m res (.bool w) H e ⟨tm, H, b, rb⟩:=by
  have:=postC_of (E:=[]) (ks:=[]) (K:=[]) (v:=.bool w) (u:=.bool w) (tm:=tm) (b:=b) (rb:=rb) (res:=res) he (by rw[List.append_nil]; exact hres) hm hC ro_nilW rfl (by simp) rfl rfl
  rw[List.append_nil] at this
  exact this
/-- What a closure keeps. -/
def Keeps (f:Nat) (K:Bool→Bool→Bool):Prop:=∀ (H:Heap), Cl H→∀ p q:Bool, RunOf CB f [.bool p, .bool q] H (.bool (K p q)) H
theorem and_keeps:Keeps 346 (fun p q=>p && q):=fun H hC p q=>by
  cases p<;>cases q <;>
  · refine runC_of ac346 rfl ?_
    (repeat' first|simp (disch:=omega) only[go_sem, ac346, enter]|(apply spl<;>intro h<;>try simp (disch:=omega) only[go_sem, ac346, enter, h]))
    exact post_bool (.inr rfl) rfl rfl hC
theorem minus_keeps:Keeps 349 (fun p q=>p && !q):=fun H hC p q=>by
  cases p<;>cases q <;>
  · refine runC_of ac349 rfl ?_
    (repeat' first|simp (disch:=omega) only[go_sem, ac349, enter]|(apply spl<;>intro h<;>try simp (disch:=omega) only[go_sem, ac349, enter, h]))
    exact post_bool (.inr rfl) rfl rfl hC
theorem or_keeps:Keeps 348 (fun p q=>p || q):=fun H hC p q=>by
  cases p<;>cases q <;>
  · refine runC_of ac348 rfl ?_
    (repeat' first|simp (disch:=omega) only[go_sem, ac348, enter]|(apply spl<;>intro h<;>try simp (disch:=omega) only[go_sem, ac348, enter, h]))
    exact post_bool (.inr rfl) rfl rfl hC
theorem refBoth_run1 (p q:Bool):PRun CB 393 [.int .i64 1, .bool p, .bool q] (.bool (p && q)):=by
  cases p<;>cases q <;>
  · refine prun_of ac393 rfl ?_
    (repeat' first|simp (disch:=omega) only[go_sem, ac393, enter]|(apply spl<;>intro h<;>try simp (disch:=omega) only[go_sem, ac393, enter, h]))
    all_goals first | rfl
theorem refBoth_run2 (p q:Bool):PRun CB 393 [.int .i64 2, .bool p, .bool q] (.bool (p || q)):=by
  cases p<;>cases q <;>
  · refine prun_of ac393 rfl ?_
    (repeat' first|simp (disch:=omega) only[go_sem, ac393, enter]|(apply spl<;>intro h<;>try simp (disch:=omega) only[go_sem, ac393, enter, h]))
    all_goals first | rfl
theorem refBoth_run3 (p q:Bool):PRun CB 393 [.int .i64 3, .bool p, .bool q] (.bool (p && !q)):=by
  cases p<;>cases q <;>
  · refine prun_of ac393 rfl ?_
    (repeat' first|simp (disch:=omega) only[go_sem, ac393, enter]|(apply spl<;>intro h<;>try simp (disch:=omega) only[go_sem, ac393, enter, h]))
    all_goals first | rfl
/-! ### the program's pairs: states at the heads of the loops -/
def paH (a b:List Sta) (o:List (Nat × Nat)):Heap:=[.row 1 [.agg [.tsl 2 (a.map encSta)]] false true 0, .row 1 [.agg [.tsl 2 (b.map encSta)]] false true 1, .row 1 [.agg [.snil 2]] false true 2, .map (nmE (o.map encP)), .row 2 (o.map encP) false true 4]
def paO (out:List Sta):Heap:=match out with
  | []=>[.row 1 [.agg [.snil 2]] false true 5]
  | s::l=>[.row 1 [.agg [.sref 2 6 0 (l.length+1)]] false false 5, .row 2 ((s::l).map encSta) false true 6]
def paS (a b:List Sta) (at':List Nat) (kf:Nat) (x:Nat × List (Nat × Nat) × List Sta):St:=
  { tmps:=slots 123 [(2, .fn kf []), (3, .ptr 1 0 0 0), (4, .ptr 1 1 0 0), (6, .ptr 1 2 0 0), (8, .tsl 1 (at'.map encN)), (9, .mref 3), (10, .sref 2 4 0 x.2.1.length), (11, .ptr 1 5 0 0), (12, .int .i64 x.1)],
    heap:=paH a b x.2.1++paO x.2.2, base:=0 }
def paT (a b:List Sta) (at':List Nat) (kf:Nat) (i:Nat) (p:Nat × Nat) (o:List (Nat × Nat)) (out:List Sta) (S:Nat) (acc:Bool) (k:Nat):St:=
  { tmps:=slots 123 [(2, .fn kf []), (3, .ptr 1 0 0 0), (4, .ptr 1 1 0 0), (6, .ptr 1 2 0 0), (8, .tsl 1 (at'.map encN)), (9, .mref 3), (10, .sref 2 4 0 (numGo o ((toP a b at' p).take k)).2.length), (11, .ptr 1 5 0 0), (12, .int .i64 i), (13, .ptr 1 S 0 0), (14, .ptr 2 (S+1) 0 0), (63, .tsl 1 (at'.map encN)), (64, .int .i64 at'.length), (65, .int .i64 k)],
    heap:=paH a b (numGo o ((toP a b at' p).take k)).2++(paO out++(.row 1 [.int .i64 p.1, .int .i64 p.2] false true S::nuA acc (S+1) (arcK at' (numGo o ((toP a b at' p).take k)).1 k))), base:=0 }
theorem paO_snoc (l:List Sta) (s:Sta):paO (l++[s])=[.row 1 [.agg [.sref 2 6 0 (l.length+1)]] false false 5, .row 2 ((l++[s]).map encSta) false true 6]:=by
  obtain ⟨b, t, hb⟩:=exCons l s
  have:=congrArg List.length hb
  rw[List.length_append, List.length_cons, List.length_cons, List.length_nil] at this
  rw[hb, paO, show l.length=t.length by omega]
theorem paO_nil:paO []=[.row 1 [.agg [.snil 2]] false true 5]:=(rfl)
theorem paO_cons (s:Sta) (l:List Sta):paO (s::l)=[.row 1 [.agg [.sref 2 6 0 (l.length+1)]] false false 5, .row 2 ((s::l).map encSta) false true 6]:=(rfl)
end Ago
