/- automaton.collect: one byte more. -/
import Derived.Test.YtjmhldkncidpiaaGreatDoorRunC
set_option linter.unusedSimpArgs false
set_option linter.unusedVariables false
set_option maxRecDepth 100000
set_option maxHeartbeats 64000000
namespace Ago
open Go (IntKind)
theorem collect_r (m:List Sta) (hs:SmallM m) (hv:validM m=true) (n:Nat) (ih:ColIH m n) : ∀ (q:Nat) (H:Heap) (so out:AV) (sos:List UInt8) (els:List AV) (fs fo W N:Nat), (∃ rs, so = .sref 1 rs 0 sos.length)→q<m.length→Cl H→Fb H→Hold H so (encB sos) fs→Hold H out els fo→(els=[]∨sos=[]∨fo≠fs) →
    WitH m H W (n+1+sos.length+1)→(rowM m (n+1)).getD q false=true→els.length<N→N≤2^20→n+1+sos.length<2^25 →
    RunOf CB 352 [encMa m, .sref 1 W 0 (n+1+sos.length+1), .int .i64 q, so, out, .int .i64 N] H (nextV H out els (strV (((allS m (n+1) q).map (sos ++ ·)).take (N-els.length)))) (nextH H els (strV (((allS m (n+1) q).map (sos ++ ·)).take (N-els.length))) fo):=by
  intro q H so out sos els fs fo W N hso hq hC hF hS hH hap hW hrow hel hN hlen
  have hme:encMa m = .agg [.tsl 2 (m.map encSta)]:=rfl
  have hmm:=hs.1
  obtain ⟨x, hx⟩:=exAt hq
  have hx2:(m.map encSta)[q]?=some (.agg [.bool x.acc, .tsl 3 (x.arcs.map encArc)]):=mget hx
  have hal:=hs.2 x (List.mem_of_getElem? hx)
  have hok:=valid_arcs hv (List.mem_of_getElem? hx)
  rw[←arcF_all hv hx sos]
  obtain ⟨L, hL⟩ : ∃ L, n+1+sos.length+1=L:=⟨_, rfl⟩
  rw[hL] at hW ⊢
  obtain ⟨FK, hFK⟩ : ∃ FK:Nat→List (List UInt8), ∀ k, FK k=(arcF m n sos (x.arcs.take k)).take (N-els.length):=⟨_, fun _=>rfl⟩
  have hF0:FK 0=[]:=by rw[hFK, List.take_zero]; exact List.take_nil
  have hFe : ∀ k, x.arcs.length≤k→(arcF m n sos x.arcs).take (N-els.length)=FK k:=fun k hk=>by rw[hFK, List.take_of_length_le hk]
  have hWl:W<H.length:=by
    obtain ⟨wv, fl, fam, h1, _⟩:=hW
    exact (List.getElem?_eq_some_iff.1 h1).1
  have hlow : ∀ r, r∈W::AV.refsN 6 so→r<H.length:=fun r hr=>by
    rcases List.mem_cons.1 hr with rfl | hr
    · exact hWl
    · exact hS.low.1 r hr
  have hll:(W::AV.refsN 6 so).length<100:=by
    rcases hS.two with ⟨h1, _⟩ | ⟨r, h1, _⟩<;>rw[h1]<;>simp [AV.refsN]
  have hbl:(encB sos).length=sos.length:=by simp [encB]
  have hsol:(so = .snil 1∧sos.length=0)∨∃ rs, so = .sref 1 rs 0 sos.length:=by
    rcases hS.two_mk with ⟨h1, h2⟩ | ⟨rs, h1, _⟩
    · exact .inl ⟨h1, by rw[←hbl]; exact h2⟩
    · exact .inr ⟨rs, by rw[h1, hbl]⟩
  rw[hFe _ (Nat.le_refl _)]
  refine runC_of ac352 rfl ?_
  obtain ⟨rs, so1⟩:=hso
  subst so1
  obtain ⟨d, hd⟩ : ∃ d:Int, (L:Int)-1-sos.length=d:=⟨_, rfl⟩
  have hdn:d=(n:Int)+1:=by omega
  (repeat' first|simp (disch:=omega) only[go_sem, ac352, enter, hme, hx2, List.length_map, getP0, getL, List.length_append, List.length_nil, cast0, hd]|(apply spl<;>intro h<;>try simp (disch:=omega) only[go_sem, ac352, enter, hme, hx2, List.length_map, getP0, getL, List.length_append, List.length_nil, cast0, hd, h]))
  all_goals first | omega | skip
  refine loop_of (α:=Nat) (fun k=>{ tmps:=S1 x W L (.sref 1 rs 0 sos.length) N d k (nextV H out els (strV (FK k))) [(nextH H els (strV (FK k)) fo).length], heap:=nextH H els (strV (FK k)) fo++[mBox m (nextH H els (strV (FK k)) fo).length], base:=H.length }) (fun k=>k≤x.arcs.length) (fun k=>x.arcs.length-k) 0 ?_ (Nat.zero_le _) ?_
  · show St.norm _ _=_
    refine (norm_b1 (S:=S1 x W L (.sref 1 rs 0 sos.length) N d 0) (S1_box hS) (rb:=0) (H:=H) (E:=[mBox m H.length]) rfl hlow hll hC (ro_cons rfl ro_nil) (a:=out) (p1:=H.length) (n1:=1) (e1:=[encMa m]) rfl (low_refs hH) hH.low.2 (Nat.le_refl _) (by simp [mBox])).trans ?_
    simp [hF0, nextV, nextH, strV, mBox]
  · intro k hk
    obtain ⟨mm, hmmE⟩ : ∃ mm, strV (FK k)=mm:=⟨_, rfl⟩
    rw[hmmE]
    have C1:=Cl.next hC hH mm
    have F1:=(hH.next hF mm).2
    have W1:=hW.next els mm fo
    obtain ⟨wv, wfl, wfam, w1, w2, w3⟩:=W1
    obtain ⟨r, fam', w4, w5⟩:=w3 n (by omega)
    have hrl:=(List.getElem?_eq_some_iff.1 w5).1
    have hWl1:=(List.getElem?_eq_some_iff.1 w1).1
    obtain ⟨H1, hH1⟩ : ∃ H1, nextH H els mm fo=H1:=⟨_, rfl⟩
    obtain ⟨l1, hl1⟩ : ∃ l1, nextV H out els mm=l1:=⟨_, rfl⟩
    rw[hH1] at w1 w5 hrl hWl1 C1 F1
    rw[hH1, hl1]
    unfold mBox S1
    by_cases hlt:k<x.arcs.length
    · obtain ⟨a, ha⟩:=exAt hlt
      have ha2:(x.arcs.map encArc)[k]?=some (.agg [.int .i64 a.lo, .int .i64 a.hi, .int .i64 a.next]):=mget ha
      obtain ⟨j1, j2, j3, j4, j5, j6⟩:=arcs_hit x.arcs 0 hok (Int.le_refl _) a (List.mem_of_getElem? ha)
      obtain ⟨c, hc⟩:=exAt (l:=rowM m n) (k:=a.next.toNat) (by rw[rowM_len]; omega)
      have hc2:((rowM m n).map AV.bool)[a.next.toNat]?=some (.bool c):=mget hc
      have hrml:((rowM m n).map AV.bool).length=m.length:=by rw[List.length_map, rowM_len]
      have hcr:(rowM m n).getD a.next.toNat false=c:=by rw[List.getD_eq_getElem?_getD, hc]; rfl
      have hwn:(d-1).toNat=n:=by omega
      cases c with
      | false=>
        have hnil:allS m n a.next.toNat=[]:=by
          cases hz:allS m n a.next.toNat with
          | nil=>rfl
          | cons y l=>exact (Bool.false_ne_true (hcr.symm.trans ((row_iff hv n _ (by omega)).2 (by rw[hz]; simp)))).elim
        have hS0:arcS m n sos a (wid a)=[]:=by
          unfold arcS
          rw[List.flatMap_eq_nil_iff]
          intro i _
          rw[hnil]
          rfl
        have hnew:FK (k+1)=FK k:=by rw[hFK, hFK, arcF_snoc ha, hS0, List.append_nil]
        (repeat' first|simp (disch:=omega) only[go_sem, hme, ha2, w1, w2, w4, w5, hc2, hrml, hwn, List.length_map, getP0, getP1, setP1, getL, strike_box2 F1, List.length_append, List.append_assoc, Nat.add_assoc]|(apply spl<;>intro h<;>try simp (disch:=omega) only[go_sem, hme, ha2, w1, w2, w4, w5, hc2, hrml, hwn, List.length_map, getP0, getP1, setP1, getL, strike_box2 F1, List.length_append, List.append_assoc, Nat.add_assoc, h]))
        all_goals first | omega | skip
        refine ⟨k+1, ?_, hlt, by omega⟩
        rw[hnew, hmmE]
        subst hH1 hl1
        refine (step_one (S1_box (x:=x) (W:=W) (L:=L) (N:=N) (n1:=d) (k:=k+1) hS) (T:=[aBox a ((nextH H els mm fo).length+1)]) (a:=nextV H out els mm) (mm:=mm) (m1:=[]) (m:=m) (p:=(nextH H els mm fo).length) hH hC hlow hll rfl (ro_cons rfl ro_nil) rfl ⟨fun _=>rfl, fun h=>(h rfl).elim⟩).trans ?_
        rw[List.append_nil]
        rfl
      | true=>
        have hIc : ∃ II:Nat→List (List UInt8), ∀ j, II j=(arcF m n sos (x.arcs.take k)++arcS m n sos a j).take (N-els.length):=⟨_, fun _=>rfl⟩
        obtain ⟨II, hII⟩:=hIc
        have hI0:II 0=FK k:=by
          rw[hII, hFK]
          show (_++[]).take _=_
          rw[List.append_nil]
        have hIw:II (wid a)=FK (k+1):=by rw[hII, hFK, arcF_snoc ha]
        have hIend : ∀ j, j≤wid a→N-els.length≤(II j).length→II j=FK (k+1):=fun j hj hl=>by
          obtain ⟨c, hc⟩ : ∃ c, wid a=j+c:=⟨wid a-j, by omega⟩
          obtain ⟨B, hB⟩:=arcS_more m n sos a j c
          rw[←hIw, hII, hII, hc, hB, ← List.append_assoc]
          refine (take_enough ?_).symm
          rw[hII, List.length_take] at hl
          omega
        (repeat' first|simp (disch:=omega) only[go_sem, hme, ha2, w1, w2, w4, w5, hc2, hrml, hwn, List.length_map, getP0, getP1, setP1, getL, strike_box2 F1, List.length_append, List.append_assoc, Nat.add_assoc]|(apply spl<;>intro h<;>try simp (disch:=omega) only[go_sem, hme, ha2, w1, w2, w4, w5, hc2, hrml, hwn, List.length_map, getP0, getP1, setP1, getL, strike_box2 F1, List.length_append, List.append_assoc, Nat.add_assoc, h]))
        all_goals first | omega | skip
        subst hH1 hl1 hmmE
        refine loop_of (α:=Nat) (fun j=>{ tmps:=S2 x W L (.sref 1 rs 0 sos.length) N d k (a.lo+j) (nextV H out els (strV (II j))) [(nextH H els (strV (II j)) fo).length, (nextH H els (strV (II j)) fo).length+1], heap:=nextH H els (strV (II j)) fo++[mBox m (nextH H els (strV (II j)) fo).length, aBox a ((nextH H els (strV (II j)) fo).length+1)], base:=H.length }) (fun j=>j≤wid a) (fun j=>wid a-j) 0 ?_ (Nat.zero_le _) ?_
        · show St.norm _ _=_
          refine (step_two (S2_box (x:=x) (W:=W) (L:=L) (N:=N) (n1:=d) (k:=k) (b0:=a.lo) hS) (T:=[]) (ar:=a) (a:=nextV H out els (strV (FK k))) (mm:=strV (FK k)) (m1:=[]) (m:=m) (p:=(nextH H els (strV (FK k)) fo).length) hH hC hlow hll rfl ro_nil rfl ⟨fun _=>rfl, fun h=>(h rfl).elim⟩).trans ?_
          rw[List.append_nil, hI0]
          simp
        · intro j hj
          obtain ⟨mj, hmj⟩ : ∃ mj, strV (II j)=mj:=⟨_, rfl⟩
          rw[hmj]
          have hmjl:mj.length=(II j).length:=by rw[←hmj]; simp [strV]
          obtain ⟨wv, wfl, wfam, w1, w2, w3⟩:=hW.next els mj fo
          obtain ⟨H1, hH1⟩ : ∃ H1, nextH H els mj fo=H1:=⟨_, rfl⟩
          obtain ⟨l1, hl1⟩ : ∃ l1, nextV H out els mj=l1:=⟨_, rfl⟩
          by_cases hcond:j<wid a∧(els++mj).length<N
          · obtain ⟨hjw, hlen1⟩:=hcond
            have hwd:wid a=a.hi.toNat+1-a.lo.toNat:=rfl
            have hb1:a.lo+j≤a.hi:=by omega
            have hb2:((a.lo.toNat+j:Nat):Int)=a.lo+j:=by omega
            have hbb:=encB_snoc sos (a.lo.toNat+j) (by omega)
            rw[hb2] at hbb
            obtain ⟨So4, N1, F1, so', fo5, e1, C2, F2, So2, No2, W2, hne, hf1, hf2⟩:=rec_facts a (.int .u8 (a.lo+j)) hC hF hS hH hap hW hH1 hl1 rfl rfl rfl rfl
            have hc:=ih a.next.toNat _ so' l1 (sos++[UInt8.ofNat (a.lo.toNat+j)]) (els++mj) _ fo5 W N (by omega) C2 F2 (by rw[hbb]; exact So2) No2 (by
              rcases hne with h | h
              · exact .inl h
              · exact .inr (.inr h)) (by
              rw[show n+(sos++[UInt8.ofNat (a.lo.toNat+j)]).length+1=L by simp; omega]
              exact W2) hcr hlen1 hN (by simp; omega)
            rw[show n+(sos++[UInt8.ofNat (a.lo.toNat+j)]).length+1=L by simp; omega, e1, show ((a.next.toNat:Nat):Int)=a.next by omega, hme] at hc
            obtain ⟨m1, hm1⟩ : ∃ m1, strV (((allS m n a.next.toNat).map ((sos++[UInt8.ofNat (a.lo.toNat+j)]) ++ ·)).take (N-(els++mj).length))=m1:=⟨_, rfl⟩
            rw[hm1] at hc
            have hII1:strV (II (j+1))=mj++m1:=by
              have hlt1:(arcF m n sos (x.arcs.take k)++arcS m n sos a j).length<N-els.length:=by
                have h1:=congrArg List.length (hII j)
                rw[List.length_take] at h1
                rw[List.length_append] at hlen1
                omega
              have h2:II j=arcF m n sos (x.arcs.take k)++arcS m n sos a j:=by rw[hII, List.take_of_length_le (by omega)]
              rw[hII, arcS_succ, ← List.append_assoc, take_more hlt1, ← h2]
              unfold strV
              rw[List.map_append]
              congr 1
              rw[←hm1]
              unfold strV
              rw[List.length_append, hmjl, ← Nat.sub_sub]
              congr 2
              exact List.map_congr_left fun w _=>by simp
            rw[hH1, hl1]
            unfold S2 mBox aBox
            have hee:(els++mj).length=els.length+mj.length:=List.length_append
            have hs0e:encB sos≠[]:=hS.ne
            have hs00:sos≠[]:=fun e=>hs0e (by rw[e]; rfl)
            simp only[mBox, aBox, if_neg hs00, List.append_assoc, List.cons_append, List.nil_append, encArc, hme] at hc So4
            have hst:strikeGo rs fs (sos.length+1) (H1++[Blk.row 1 [.agg [.tsl 2 (m.map encSta)]] false true H1.length, Blk.row 3 [.agg [.int .i64 a.lo, .int .i64 a.hi, .int .i64 a.next]] false true (H1.length+1), Blk.row 1 [.int .u8 (a.lo+j)] false true (H1.length+2)]) 0=some (H1++[Blk.row 1 [.agg [.tsl 2 (m.map encSta)]] false true H1.length, Blk.row 3 [.agg [.int .i64 a.lo, .int .i64 a.hi, .int .i64 a.next]] false true (H1.length+1), Blk.row 1 [.int .u8 (a.lo+j)] false true (H1.length+2)]):=by
              have h:=So4.strike
              rw[hbl] at h
              exact h
            obtain ⟨hrs1, hrs2⟩:H1[rs]?=some (.row 1 (encB sos) false true fs)∧rs<H1.length:=by
              rcases hS.two with ⟨h1, _⟩ | ⟨r', h1, h2, h3, h4, _⟩
              · cases h1
              · have:rs=r':=by
                  simp only[AV.sref.injEq] at h1
                  exact h1.2.1
                subst this
                obtain ⟨E, hE⟩:=nextH_eq H els mj fo
                rw[←hH1, hE]
                refine ⟨?_, by simp; omega⟩
                rw[List.getElem?_append_left h4]
                exact h2
            rcases N1.two_mk with ⟨l1e, l1l⟩ | ⟨r1, l1e, l1b, l1r⟩
            · rw[l1e] at hc ⊢
              (repeat' first|simp (disch:=omega) only[go_sem, hme, encArc, keep_mk, hee, List.length_map, getP0, getP1, getP2, setP2, getL, List.length_append, List.append_assoc, Nat.add_assoc, hst, hrs1, hbl, List.getD_cons_zero, List.getD_cons_succ]|(apply spl<;>intro h<;>try simp (disch:=omega) only[go_sem, hme, encArc, keep_mk, hee, List.length_map, getP0, getP1, getP2, setP2, getL, List.length_append, List.append_assoc, Nat.add_assoc, hst, hrs1, hbl, List.getD_cons_zero, List.getD_cons_succ, h]))
              all_goals first | omega | skip
              refine drawE ?_
              apply Exists.intro
              refine And.intro ?_ (And.intro ?_ ?_)
              · (repeat' first|simp (disch:=omega) only[go_sem, hme, encArc, keep_mk, List.length_map, getP0, getP1, getP2, setP2, getL, List.length_append, List.append_assoc, Nat.add_assoc, hst, hrs1, hbl]|(refine call_of _ _ hc ?_)|(apply spl<;>intro h<;>try simp (disch:=omega) only[go_sem, hme, encArc, keep_mk, List.length_map, getP0, getP1, getP2, setP2, getL, List.length_append, List.append_assoc, Nat.add_assoc, hst, hrs1, hbl , h]))
                all_goals first | omega | exact rfl
              · (repeat' first|exact trivial|refine And.intro ?_ ?_)
                all_goals
                  (repeat' first|simp (disch:=omega) only[go_sem, hme, encArc, keep_mk, List.length_map, getP0, getP1, getP2, setP2, getL, List.length_append, List.append_assoc, Nat.add_assoc, hst, hrs1, hbl]|(refine call_of _ _ hc ?_)|(apply spl<;>intro h<;>try simp (disch:=omega) only[go_sem, hme, encArc, keep_mk, List.length_map, getP0, getP1, getP2, setP2, getL, List.length_append, List.append_assoc, Nat.add_assoc, hst, hrs1, hbl , h]))
                  all_goals first | omega | exact rfl
              · (repeat' first|simp (disch:=omega) only[go_sem, List.length_map]|(apply spl<;>intro h<;>try simp (disch:=omega) only[go_sem, List.length_map, h]))
                all_goals first | omega | skip
                refine ⟨j+1, ?_, hjw, by omega⟩
                rw[hII1, show a.lo+((j+1:Nat):Int)=a.lo+j+1 by omega]
                subst hH1
                exact step_call (S2_box (x:=x) (W:=W) (L:=L) (N:=N) (n1:=d) (k:=k) (b0:=a.lo+j+1) hS) (ar:=a) (m:=m) (m1:=m1) (fo5:=fo5) hH hC hlow hll rfl rfl rfl (hl1.trans l1e) hf1 (fun he=>by rw[hf2 he]; simp) rfl
            · rw[hee] at l1e
              rw[l1e] at hc ⊢
              (repeat' first|simp (disch:=omega) only[go_sem, hme, encArc, keep_mk, hee, List.length_map, getP0, getP1, getP2, setP2, getL, List.length_append, List.append_assoc, Nat.add_assoc, hst, hrs1, hbl, List.getD_cons_zero, List.getD_cons_succ]|(apply spl<;>intro h<;>try simp (disch:=omega) only[go_sem, hme, encArc, keep_mk, hee, List.length_map, getP0, getP1, getP2, setP2, getL, List.length_append, List.append_assoc, Nat.add_assoc, hst, hrs1, hbl, List.getD_cons_zero, List.getD_cons_succ, h]))
              all_goals first | omega | skip
              refine drawE ?_
              apply Exists.intro
              refine And.intro ?_ (And.intro ?_ ?_)
              · (repeat' first|simp (disch:=omega) only[go_sem, hme, encArc, keep_mk, List.length_map, getP0, getP1, getP2, setP2, getL, List.length_append, List.append_assoc, Nat.add_assoc, hst, hrs1, hbl]|(refine call_of _ _ hc ?_)|(apply spl<;>intro h<;>try simp (disch:=omega) only[go_sem, hme, encArc, keep_mk, List.length_map, getP0, getP1, getP2, setP2, getL, List.length_append, List.append_assoc, Nat.add_assoc, hst, hrs1, hbl , h]))
                all_goals first | omega | exact rfl
              · (repeat' first|exact trivial|refine And.intro ?_ ?_)
                all_goals
                  (repeat' first|simp (disch:=omega) only[go_sem, hme, encArc, keep_mk, List.length_map, getP0, getP1, getP2, setP2, getL, List.length_append, List.append_assoc, Nat.add_assoc, hst, hrs1, hbl]|(refine call_of _ _ hc ?_)|(apply spl<;>intro h<;>try simp (disch:=omega) only[go_sem, hme, encArc, keep_mk, List.length_map, getP0, getP1, getP2, setP2, getL, List.length_append, List.append_assoc, Nat.add_assoc, hst, hrs1, hbl , h]))
                  all_goals first | omega | exact rfl
              · (repeat' first|simp (disch:=omega) only[go_sem, List.length_map]|(apply spl<;>intro h<;>try simp (disch:=omega) only[go_sem, List.length_map, h]))
                all_goals first | omega | skip
                refine ⟨j+1, ?_, hjw, by omega⟩
                rw[hII1, show a.lo+((j+1:Nat):Int)=a.lo+j+1 by omega]
                subst hH1
                exact step_call (S2_box (x:=x) (W:=W) (L:=L) (N:=N) (n1:=d) (k:=k) (b0:=a.lo+j+1) hS) (ar:=a) (m:=m) (m1:=m1) (fo5:=fo5) hH hC hlow hll rfl rfl rfl (hl1.trans l1e) hf1 (fun he=>by rw[hf2 he]; simp) rfl
          · have hfin:II j=FK (k+1):=by
              by_cases hjw:j<wid a
              · refine hIend j hj ?_
                have hl0:(els++mj).length=els.length+mj.length:=List.length_append
                have : ¬ (els++mj).length<N:=fun h=>hcond ⟨hjw, h⟩
                omega
              · have:j=wid a:=by omega
                rw[this, hIw]
            have hwd:wid a=a.hi.toNat+1-a.lo.toNat:=rfl
            have N1:=(hH.next hF mj).1
            rw[ite_self] at N1
            rw[hH1, hl1] at N1
            have hee:(els++mj).length=els.length+mj.length:=List.length_append
            rw[hee] at hcond
            rw[hH1, hl1]
            unfold S2 mBox aBox
            rcases N1.two_mk with ⟨l1e, l1l⟩ | ⟨r1, l1e, l1b, l1r⟩
            · rw[hee] at l1l
              rw[l1e]
              (repeat' first|simp (disch:=omega) only[go_sem, hme, encArc, List.length_map, getP0, getP1, getP2, getL, List.length_append, List.append_assoc, Nat.add_assoc, List.getD_cons_zero, List.getD_cons_succ]|(apply spl<;>intro h<;>try simp (disch:=omega) only[go_sem, hme, encArc, List.length_map, getP0, getP1, getP2, getL, List.length_append, List.append_assoc, Nat.add_assoc, List.getD_cons_zero, List.getD_cons_succ, h]))
              all_goals first | omega | skip
              all_goals
                refine ⟨k+1, ?_, hlt, by omega⟩
                rw[←hfin, hmj]
                subst hH1
                refine (step_one (S1_box (x:=x) (W:=W) (L:=L) (N:=N) (n1:=d) (k:=k+1) hS) (T:=[aBox a ((nextH H els mj fo).length+1)]) (a:=_) (mm:=mj) (m1:=[]) (m:=m) (p:=(nextH H els mj fo).length) hH hC hlow hll rfl (ro_cons rfl ro_nil) rfl ⟨fun _=>(hl1.trans l1e).symm, fun h=>(h rfl).elim⟩).trans ?_
                rw[List.append_nil]
                rfl
            · rw[hee] at l1e
              rw[l1e]
              (repeat' first|simp (disch:=omega) only[go_sem, hme, encArc, List.length_map, getP0, getP1, getP2, getL, List.length_append, List.append_assoc, Nat.add_assoc, List.getD_cons_zero, List.getD_cons_succ]|(apply spl<;>intro h<;>try simp (disch:=omega) only[go_sem, hme, encArc, List.length_map, getP0, getP1, getP2, getL, List.length_append, List.append_assoc, Nat.add_assoc, List.getD_cons_zero, List.getD_cons_succ, h]))
              all_goals first | omega | skip
              all_goals
                refine ⟨k+1, ?_, hlt, by omega⟩
                rw[←hfin, hmj]
                subst hH1
                refine (step_one (S1_box (x:=x) (W:=W) (L:=L) (N:=N) (n1:=d) (k:=k+1) hS) (T:=[aBox a ((nextH H els mj fo).length+1)]) (a:=_) (mm:=mj) (m1:=[]) (m:=m) (p:=(nextH H els mj fo).length) hH hC hlow hll rfl (ro_cons rfl ro_nil) rfl ⟨fun _=>(hl1.trans l1e).symm, fun h=>(h rfl).elim⟩).trans ?_
                rw[List.append_nil]
                rfl
    · have hke:k=x.arcs.length:=by omega
      subst hke
      (repeat' first|simp (disch:=omega) only[go_sem, hme, List.length_map]|(apply spl<;>intro h<;>try simp (disch:=omega) only[go_sem, hme, List.length_map, h]))
      all_goals first | omega | skip
      subst hH1 hl1
      rw[hmmE]
      exact post_box (T:=[mBox m (nextH H els mm fo).length]) (.inr rfl) hH hC (ro_cons rfl ro_nil) rfl
end Ago
