/- Least automata: least. -/
import Derived.Test.YtgfkbpjgfdgfbaaGreatDoorRunG
import Derived.Test.YtgfkbpjgfdgfbaaGreatDoorRunE
set_option linter.unusedSimpArgs false
set_option linter.unusedVariables false
set_option maxRecDepth 100000
set_option maxHeartbeats 16000000
namespace Ago
open Go (IntKind)
theorem los_in {n:Int} : ∀ (l:List Arc) (lo:Int), 0≤lo→arcsOk n lo l=true→∀ a, a∈l→0≤a.lo∧a.lo<256
  | [], _, _, _, a, h=>by cases h
  | x::l, lo, h0, h, a, ha=>by
    rw[arcsOk_cons] at h
    simp only[Bool.and_eq_true, decide_eq_true_eq] at h
    obtain ⟨⟨⟨⟨⟨h1, h2⟩, h3⟩, h4⟩, h5⟩, h6⟩:=h
    rcases List.mem_cons.1 ha with rfl | ha
    · omega
    · exact los_in l _ (by omega) h6 a ha
theorem nwH_thaw {H:Heap} (A:List (List Nat)) (n:Nat):(nwH A n).flatMap (fun x=>x.cells.flatMap (thawRefsC H))=[]∧(nwH A n).map (thawE H)=nwH A n:=by
  unfold nwH
  refine ⟨?_, ?_⟩
  · rw[List.flatMap_append, List.append_eq_nil_iff]
    refine ⟨List.flatMap_eq_nil_iff.2 fun x hx=>?_, List.flatMap_eq_nil_iff.2 fun x hx=>?_⟩
    · obtain ⟨a, _, rfl⟩:=List.mem_map.1 hx
      rfl
    · rw[(List.mem_replicate.1 hx).2]
      rfl
  · rw[List.map_append, List.map_map, List.map_replicate]
    rfl
theorem nwH_zero (A:List (List Nat)):nwH A 0=A.map encB:=List.append_nil _
theorem c0R_zero (m:List Sta):c0R m 0=List.replicate m.length (.int .i64 0):=by
  unfold c0R
  rw[List.take_zero, List.nil_append, List.map_replicate]
  rfl
theorem c0R_full (m:List Sta):c0R m m.length=(c0M m).map encN:=by
  unfold c0R
  rw[Nat.sub_self, List.take_of_length_le (by rw[c0M_len]; exact Nat.le_refl _)]
  simp
def l9O (m:List Sta) (a:Nat × List Nat):St:=
  { tmps:=slots 126 [(1, .ptr 1 0 0 0), (2, .ptr 1 1 0 0), (3, .tsl 1 ((byM m).map encN)), (4, .sref 1 2 0 m.length), (5, .sref 1 3 0 m.length), (10, .int .i64 a.1)],
    heap:=l9H2 m a.2, base:=0 }
theorem l9S_end (m:List Sta):l9S m m.length={ tmps:=slots 126 [(1, .ptr 1 0 0 0), (2, .ptr 1 1 0 0), (3, .tsl 1 ((byM m).map encN)), (4, .sref 1 2 0 m.length), (5, .sref 1 3 0 m.length), (31, .tsl 2 (m.map encSta)), (32, .int .i64 m.length), (33, .int .i64 m.length)], heap:=l9H2 m (c0M m), base:=0 }:=by
  rw[l9S, Nat.sub_self, nwH_zero, c0R_full, List.take_of_length_le (by rw[nxM_len]; exact Nat.le_refl _)]
  rfl
theorem least_run (m:List Sta) (h:SmallM m) (hv:validM m=true) (hm:m.length≤100000):PRun CB 355 [encMa m] (encMa (leastM m)):=by
  have hnx:=nxM_ok hv
  have hl0:=valid_len hv
  have hby:=byM_zero hv
  have hne0 : ¬ (m.length:Int)=0:=by have:=valid_len hv; omega
  have hbl:=byM_len m
  have hnl:=nxM_len m
  have hst:=starts_run m h (fun s hs a ha=>los_in s.arcs 0 (by omega) (valid_arcs hv hs) a ha)
  have hnum:=numbered_run m h (byM m) (nxM m) (clsM m) hl0 (by omega) hby hbl byM_lt (nxM_len m) (clsM_len m) hnx
  have hout:=fun (Q:Ex→St→Prop) (q:Nat) (hq:q<m.length)=>least_out (Q:=Q) m h hv q hq
  have hq:=fun (Q:Ex→St→Prop) (c:List Nat) (hcl:c.length=m.length) (hc : ∀ i, i∈c→i<1000000) (kn q:Nat) (hq:q<m.length)=>least_q (Q:=Q) m (by omega) c hcl hc hnx kn q hq
  simp only[AFn.lp, ac355, ACode.loopsOf, List.cons_append, List.append_nil, List.nil_append, List.getD_cons_succ, List.getD_cons_zero] at hout hq
  have hI:=ClsI.init m
  unfold leastM
  obtain ⟨R, hR⟩ : ∃ R, clsM m=R:=⟨_, rfl⟩
  rw[hR] at hI hnum ⊢
  obtain ⟨Y, hY⟩ : ∃ Y, numM m (byM m) (nxM m) R=Y:=⟨_, rfl⟩
  rw[hY] at hnum ⊢
  have hT1:((nxM m).map encB).take m.length=(nxM m).map encB:=List.take_of_length_le (by rw[List.length_map, hnl]; exact Nat.le_refl _)
  refine prun_of ac355 rfl ?_
  unfold encR at hnum
  rw[show encB (stN (losS m) 256) = .tsl 1 ((byM m).map encN) from rfl] at hst
  rw[show encB (byM m) = .tsl 1 ((byM m).map encN) from rfl, show encB R = .tsl 1 (R.map encN) from rfl] at hnum
  unfold encMa at hst hnum ⊢
  (repeat' first|simp (disch:=omega) only[go_sem, ac355, enter, List.length_map, hne0, markFrom, Blk.mark, List.contains_cons, List.contains_nil, Bool.or_false]|refine pure_of _ (hst) ?_|(apply spl<;>intro h<;>try simp (disch:=omega) only[go_sem, ac355, enter, List.length_map, hne0, markFrom, Blk.mark, List.contains_cons, List.contains_nil, Bool.or_false , h]))
  all_goals try omega
  refine loop_hd (α:=Nat) (l9S m) (fun k=>k≤m.length) (fun k=>m.length-k) 0 ?_ (Nat.zero_le _) ?_
  · refine (head_thaw (r:=3) rfl rfl (thaw_row1 (ks:=[]) rfl ⟨_, rfl⟩ (nwH_thaw [] m.length).1 (nwH_thaw [] m.length).2 (nwH_all _ _))).trans ?_
    rw[l9S, c0R_zero]
    refine norm_by (R:=[[], [], [], [], []]) (ks:=[0, 1, 3, 4]) (dr:=[(2, 1)]) (by simp only[List.set_cons_zero, List.set_cons_succ, markRO, List.map_cons, List.map_nil, nwH_refs]; rfl) rfl rfl rfl rfl rfl ?_
    simp only[roMark_cons]
    simp only[List.set_cons_zero, List.set_cons_succ, markRO, List.map_cons, List.map_nil, List.cons_append, List.nil_append, List.getD_eq_getElem?_getD, List.getElem?_cons_zero, List.getElem?_cons_succ, Option.getD_some, Blk.roBy, nwH_ren]
    rfl
  intro q hqm
  by_cases hqt:q<m.length
  · exact hout _ q hqt
  have hqe:q=m.length:=by omega
  subst hqe
  rw[l9S_end, l9H2]
  (repeat' first|simp (disch:=omega) only[go_sem, List.length_map]|(apply spl<;>intro h<;>try simp (disch:=omega) only[go_sem, List.length_map, h]))
  all_goals try omega
  refine loop_of (α:=Nat × List Nat) (l9O m) (fun a=>ClsI (nxM m) R a.1 a.2) (fun a=>m.length+1-a.1) (0, c0M m) rfl hI ?_
  rintro ⟨kn, c⟩ hI
  dsimp only at hI
  have hcl:c.length=m.length:=by rw[hI.len, hnl]
  have hkl:=hI.le
  have hc : ∀ i, i∈c→i<1000000:=fun i hi=>by have:=hI.low i hi; omega
  rw[l9O, l9H2]
  (repeat' first|simp (disch:=omega) only[go_sem, List.length_map, hcl, hne0]|(apply spl<;>intro h<;>try simp (disch:=omega) only[go_sem, List.length_map, hcl, hne0, h]))
  all_goals try omega
  refine loop_of (α:=Nat) (l9Q m c kn) (fun q=>q≤m.length) (fun q=>m.length-q) 0 (by
    have hF:(([]++List.replicate (m.length-0) 0).map encN:List AV)=List.replicate m.length (.int .i64 0):=by
      rw[List.nil_append, List.map_replicate]
      rfl
    rw[l9Q, l9H2, List.take_zero, numGo_nil]
    dsimp only
    rw[hF]
    exact norm_by0 [[], [], [], [], [], []] [0, 1, 2, 3, 4, 5] rfl rfl rfl rfl rfl rfl) (Nat.zero_le _) ?_
  intro q hqm
  by_cases hqt:q<m.length
  · exact hq _ c hcl hc kn q hqt
  have hqe:q=m.length:=by omega
  subst hqe
  have hK:=num_keys (seen:=[]) (kys_ok hc (nxM m)) (fun x hx=>by cases hx)
  rw[List.map_nil] at hK
  have hkt:((kys (nxM m) c).map keyL).take m.length=(kys (nxM m) c).map keyL:=List.take_of_length_le (by rw[List.length_map, kys_len, hnl]; exact Nat.le_refl _)
  obtain ⟨⟨c', k'⟩, hr⟩ : ∃ r, refC (nxM m) c=r:=⟨_, rfl⟩
  obtain ⟨names, hnm⟩ : ∃ names, (numGo [] (kys (nxM m) c)).2.map keyL=names:=⟨_, rfl⟩
  have hnl2:(nmE (names.map AV.str)).length=k':=by
    rw[nmE_len, List.length_map, ← hnm, List.length_map]
    exact congrArg Prod.snd hr
  have hc':(numGo [] (kys (nxM m) c)).1=c':=congrArg Prod.fst hr
  have hcl':c'.length=m.length:=by
    have:=refC_len (nxM m) c
    rw[hr] at this
    rw[←hnl]
    exact this
  have hk'l:k'≤m.length:=by
    have:=refC_le (nxM m) c
    rw[hr] at this
    rw[←hnl]
    exact this
  rw[l9Q, l9H2, hkt, hK, hnm, hc', Nat.sub_self]
  dsimp only
  rw[show c'++List.replicate 0 0=c' from List.append_nil _]
  have hMR:(Blk.map (nmE (names.map AV.str))).refs=[]:=nmE_refs (still_strs _)
  have hMN : ∀ f g, Blk.ren f g (.map (nmE (names.map AV.str))) = .map (nmE (names.map AV.str)):=nmE_ren (still_strs _)
  by_cases hke:k'=kn
  · have hRc:=hI.done (by rw[hr]; exact hke)
    rw[hr] at hRc
    dsimp only at hRc
    subst hRc
    have hT2:(R.map encN).take m.length=R.map encN:=List.take_of_length_le (by rw[List.length_map]; omega)
    subst hke
    (repeat' first|simp (disch:=omega) only[go_sem, List.length_map, hnl2, hT1, hT2, hnl, hcl', markFrom, Blk.mark, List.contains_cons, List.contains_nil, Bool.or_false, Bool.or_true]|refine pure_of _ (hnum) ?_|(apply spl<;>intro h<;>try simp (disch:=omega) only[go_sem, List.length_map, hnl2, hT1, hT2, hnl, hcl', markFrom, Blk.mark, List.contains_cons, List.contains_nil, Bool.or_false, Bool.or_true , h]))
    all_goals first | omega | rfl
  · obtain ⟨hI2, hlt⟩:=hI.step (by rw[hr]; exact hke)
    rw[hr] at hI2 hlt
    dsimp only at hI2 hlt
    have hne : ¬ (k':Int)=kn:=by omega
    (repeat' first|simp (disch:=omega) only[go_sem, List.length_map, hnl2, hne]|(apply spl<;>intro h<;>try simp (disch:=omega) only[go_sem, List.length_map, hnl2, hne, h]))
    all_goals try omega
    refine ⟨(k', c'), ?_, hI2, by dsimp only; omega⟩
    rw[l9O, l9H2]
    refine (norm_by0 [[], [], [], [], [], []] [0, 1, 2, 5] (by simp only[List.map_cons, List.map_nil, List.cons_append, List.nil_append, hMR]; rfl) rfl rfl rfl rfl ?_)
    rfl
end Ago
