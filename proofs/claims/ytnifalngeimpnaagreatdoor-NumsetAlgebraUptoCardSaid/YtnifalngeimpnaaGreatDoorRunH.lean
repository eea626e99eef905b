/- numset.next. -/
import Derived.Test.YtnifalngeimpnaaGreatDoorRunG
import Derived.Test.YtnifalngeimpnaaGreatDoorRunA
set_option linter.unusedSimpArgs false
set_option linter.unusedVariables false
set_option maxRecDepth 100000
set_option exponentiation.threshold 2000
set_option maxHeartbeats 4000000
set_option exponentiation.threshold 2000
namespace Ago
open Go (IntKind)
theorem make_run (neg:Bool) (s:List UInt8) (e:Int) (hs:s.length<2^20) (hd:digits s=true) (he : -(2^24)≤e∧e≤2^24):PRun CN 706 [.bool neg,.str s,.int .i64 e] (.tup [encDec (normG neg (lstrip s) e).1,.int .i64 (normG neg (lstrip s) e).2]):=by
 have h1:=trimL_run s (by omega)
 have hll:(lstrip s).length≤s.length:=(List.dropWhile_sublist _).length_le
 have h2:=normG_run neg (lstrip s) e (by omega) he
 generalize normG neg (lstrip s) e=r at *
 generalize lstrip s=t at *
 unfold encDec at *
 refine prun_of ac706 rfl ?_
 (repeat' first|simp (disch:=omega) only[go_sem,ac706,enter]|(apply spl<;>intro h<;>try simp (disch:=omega) only[go_sem,ac706,enter,h]))
 all_goals first | omega | skip
 refine loop_of (α:=Nat) (fun k=>{ tmps:=slots 33 [(0,.bool neg),(1,.str s),(2,.int .i64 e),(6,.ptr 3 0 0 0),(10,.int .i64 s.length),(11,.int .i64 k)],heap:=[.row 3 [.agg [.bool false,.str [],.int .i64 0]] false true 0],base:=0 }) (fun k=>k≤s.length) (fun k=>s.length-k) 0 rfl (Nat.zero_le _) ?_
 intro k hk
 by_cases hlt:k<s.length
 ·obtain ⟨c,hc⟩:=get_some hlt
  have hcd:=List.all_eq_true.1 hd c (List.mem_of_getElem? hc)
  simp only[digit,decide_eq_true_eq] at hcd
  have c1 : ¬ (c.toNat:Int)<48:=by omega
  have c2 : ¬ (c.toNat:Int)>57:=by omega
  (repeat' first|simp (disch:=omega) only[go_sem,hc,c1,c2,Int.toNat_natCast]|(apply spl<;>intro h<;>try simp (disch:=omega) only[go_sem,hc,c1,c2,Int.toNat_natCast,h]))
  all_goals first | omega | skip
  exact ⟨k+1,rfl,hlt,by omega⟩
 ·(repeat' first|simp (disch:=omega) only[go_sem]|refine pure_of _ (h1) ?_|refine pure_of _ (h2) ?_|(apply spl<;>intro h<;>try simp (disch:=omega) only[go_sem,h]))
  all_goals (first|omega|rfl)
theorem power_run (s:List UInt8) (e:Int) (hs:s.length<2^20) (hd:digits s=true) (he : -(2^24)≤e∧e≤2^24):PRun CN 697 [.str s,.int .i64 e] (encDec (normG false (lstrip s) e).1):=by
 have h:=make_run false s e hs hd he
 generalize normG false (lstrip s) e=r at *
 unfold encDec at *
 refine prun_of ac697 rfl ?_
 (repeat' first|simp (disch:=omega) only[go_sem,ac697,enter]|refine pure_of _ (h) ?_|(apply spl<;>intro h<;>try simp (disch:=omega) only[go_sem,ac697,enter ,h]))
 all_goals (first|omega|rfl)
def mk (s:List UInt8) (e:Int):Dec:=⟨false,s,e⟩
theorem norm_small {s:List UInt8} {e:Int} (h:s=[49]∨s=[50]∨s=[49,49]∨s=[53]) (he : -400≤e∧e≤400):(normG false (lstrip s) e).1=mk s e∧decOk (mk s e)=true∧digits s=true:=by
 have key : ∀ t:List UInt8,t≠[]→lstrip t=t→zeros t=0→t.length≤2→numeral t=true→digits t=true→(normG false (lstrip t) e).1=mk t e∧decOk (mk t e)=true∧digits t=true:=by
  intro t h1 h2 h3 h4 h5 h6
  rw[h2]
  unfold normG decOk mk
  rw[if_neg h1,h3,if_neg (by omega),if_neg h1]
  refine ⟨?_,?_,h6⟩
  ·simp
  ·simp [h5,h3]
   omega
 rcases h with rfl | rfl | rfl | rfl
 all_goals exact key _ (by simp) (by decide) (by decide) (by simp) (by decide) (by decide)
theorem powD_run {s:List UInt8} {e:Int} (h:s=[49]∨s=[50]∨s=[49,49]∨s=[53]) (he : -400≤e∧e≤400):PRun CN 697 [.str s,.int .i64 e] (encDec (mk s e)):=by
 obtain ⟨h1,_,h3⟩:=norm_small h he
 have:=power_run s e (by rcases h with rfl | rfl | rfl | rfl<;>simp) h3 (by omega)
 rwa [h1] at this
theorem mk_val {s:List UInt8} {e:Int} (he : -400≤e):valD (mk s e)=fold10 s * T (e+400).toNat:=by
 unfold valD magD mk
 simp
theorem places_run (d:Dec) (h:decOk d=true):PRun CN 717 [encDec d] (.int .i64 (d.digits.length+d.exp)):=by
 obtain ⟨h1,h2,h3⟩:=decOk_facts h
 refine prun_of ac717 rfl ?_
 obtain ⟨neg,ds,exp⟩:=d
 simp only[encDec] at *
 (repeat' first|simp (disch:=omega) only[go_sem,ac717,enter]|(apply spl<;>intro h<;>try simp (disch:=omega) only[go_sem,ac717,enter,h]))
 all_goals (first|omega|rfl)
def unitD (d:Dec):Int:=if (d.digits.length:Int)+d.exp-120 < -400 then -400 else d.digits.length+d.exp-120
def stepsM (d:Dec):List Dec:=
 if d.neg=false then [mk [49] (unitD d),mk [50] (unitD d),mk [49,49] (unitD d)]
 else if unitD d ≤ -400 then [mk [49] (unitD d),mk [50] (unitD d)]
 else [mk [49] (unitD d-1),mk [49] (unitD d),mk [49,49] (unitD d-1),mk [50] (unitD d)]
def findM (d:Dec):List Dec→Dec × Bool
 | []=>(⟨false,[],0⟩,false)
 | s::l=>if (addM d s).2=0 then ((addM d s).1,true) else findM d l
def nextM (d:Dec):Dec × Bool:=if d.digits=[] then (mk [49] (-400),true) else findM d (stepsM d)
theorem findM_drop {d:Dec} {st:List Dec} {k:Nat} {s:Dec} (h:st[k]?=some s):findM d (st.drop k)=if (addM d s).2=0 then ((addM d s).1,true) else findM d (st.drop (k+1)):=by
 obtain ⟨h1,h2⟩:=List.getElem?_eq_some_iff.1 h
 rw[List.drop_eq_getElem_cons h1,h2,findM]
theorem next_run (d:Dec) (hd:decOk d=true):PRun CN 709 [encDec d] (.tup [encDec (nextM d).1,.bool (nextM d).2]):=by
 obtain ⟨f1,f2,f3⟩:=decOk_facts hd
 have hp:=places_run d hd
 unfold nextM
 by_cases hn:d.digits=[]
 ·rw[if_pos hn]
  have h1:=powD_run (s:=[49]) (e:=-400) (.inl rfl) (by omega)
  obtain ⟨nn,ds,ex⟩:=d
  simp only at hn
  subst hn
  simp only[encDec,mk] at *
  refine prun_of ac709 rfl ?_
  (repeat' first|simp (disch:=omega) only[go_sem,ac709,enter]|refine pure_of _ (h1) ?_|(apply spl<;>intro h<;>try simp (disch:=omega) only[go_sem,ac709,enter ,h]))
  all_goals (first|omega|rfl)
 ·rw[if_neg hn]
  obtain ⟨_,_,_,g4,g5⟩:=decOk_num hd hn
  have hu : -400≤unitD d∧unitD d≤400:=by unfold unitD; split<;>omega
  have hmax:(if (-400:Int)>(d.digits.length:Int)+d.exp-120 then (-400:Int) else (d.digits.length:Int)+d.exp-120)=unitD d:=by
   rfl
  have q1:=powD_run (s:=[49]) (e:=unitD d) (.inl rfl) hu
  have q2:=powD_run (s:=[50]) (e:=unitD d) (.inr (.inl rfl)) hu
  have q3:=powD_run (s:=[49,49]) (e:=unitD d) (.inr (.inr (.inl rfl))) hu
  have o1:=norm_small (s:=[49]) (e:=unitD d) (.inl rfl) hu
  have o2:=norm_small (s:=[50]) (e:=unitD d) (.inr (.inl rfl)) hu
  have o3:=norm_small (s:=[49,49]) (e:=unitD d) (.inr (.inr (.inl rfl))) hu
  have p1:=fun h : ¬ unitD d ≤ -400=>powD_run (s:=[49]) (e:=unitD d-1) (.inl rfl) (by omega)
  have p3:=fun h : ¬ unitD d ≤ -400=>powD_run (s:=[49,49]) (e:=unitD d-1) (.inr (.inr (.inl rfl))) (by omega)
  have r1:=fun h : ¬ unitD d ≤ -400=>norm_small (s:=[49]) (e:=unitD d-1) (.inl rfl) (by omega)
  have r3:=fun h : ¬ unitD d ≤ -400=>norm_small (s:=[49,49]) (e:=unitD d-1) (.inr (.inr (.inl rfl))) (by omega)
  have hsd:stepsM d=if d.neg=false then [mk [49] (unitD d),mk [50] (unitD d),mk [49,49] (unitD d)] else if unitD d ≤ -400 then [mk [49] (unitD d),mk [50] (unitD d)] else [mk [49] (unitD d-1),mk [49] (unitD d),mk [49,49] (unitD d-1),mk [50] (unitD d)]:=rfl
  rw[hsd]
  clear hsd
  generalize unitD d=u at *
  obtain ⟨nn,ds,ex⟩:=d
  simp only at *
  have hnb:(ds == ([]:List UInt8))=false:=by simp [hn]
  simp only[encDec] at hp q1 q2 q3 p1 p3 ⊢
  cases nn with
  | false=>
   rw[if_pos rfl]
   have hok : ∀ s,s∈[mk [49] u,mk [50] u,mk [49,49] u]→decOk s=true∧s.digits≠[]:=fun s hs=>by
    simp only[List.mem_cons,List.not_mem_nil,or_false] at hs
    rcases hs with rfl | rfl | rfl
    ·exact ⟨o1.2.1,by simp [mk]⟩
    ·exact ⟨o2.2.1,by simp [mk]⟩
    ·exact ⟨o3.2.1,by simp [mk]⟩
   simp only[mk] at q1 q2 q3
   refine prun_of ac709 rfl ?_
   (repeat' first|simp (disch:=omega) only[go_sem,ac709,enter,hnb,hmax]|refine pure_of _ (hp) ?_|refine pure_of _ (q1) ?_|refine pure_of _ (q2) ?_|refine pure_of _ (q3) ?_|(apply spl<;>intro h<;>try simp (disch:=omega) only[go_sem,ac709,enter,hnb,hmax ,h]))
   all_goals first | omega | skip
   obtain ⟨st,hst⟩ : ∃ st,[mk [49] u,mk [50] u,mk [49,49] u]=st:=⟨_,rfl⟩
   rw[hst] at hok ⊢
   refine loop_of (α:=Nat) (fun k=>{ tmps:=slots 67 [(1,.ptr 3 0 0 0),(2,.ptr 3 1 0 0),(45,.sref 3 2 0 st.length),(46,.int .i64 st.length),(47,.int .i64 k)],heap:=[.row 3 [.agg [.bool false,.str ds,.int .i64 ex]] false true 0,.row 3 [.agg [.bool false,.str [],.int .i64 0]] false true 1,.row 3 (st.map encDec) false true 2],base:=0 }) (fun k=>k≤st.length∧findM ⟨false,ds,ex⟩ st=findM ⟨false,ds,ex⟩ (st.drop k)) (fun k=>st.length-k) 0 (by rw[←hst]; rfl) ⟨Nat.zero_le _,rfl⟩ ?_
   rintro k ⟨hk,hf⟩
   have hst4:st.length≤4:=by rw[←hst]; simp
   by_cases hlt:k<st.length
   ·obtain ⟨s,hs⟩:=get_some hlt
    have hsm:=List.mem_of_getElem? hs
    obtain ⟨so,sn⟩:=hok s hsm
    have ha:=addD_run ⟨false,ds,ex⟩ s hd so
    have hs2:=map_get (g:=encDec) hs
    have hfd:=findM_drop (d:=⟨false,ds,ex⟩) hs
    rw[hfd] at hf
    generalize addM ⟨false,ds,ex⟩ s=r at *
    obtain ⟨sneg,sds,sexp⟩:=s
    simp only[encDec] at ha hs2 sn
    have snb:(sds == ([]:List UInt8))=false:=by simp [sn]
    by_cases h0:r.2=0
    ·rw[if_pos h0] at hf
     rw[hf]; rw[h0] at ha
     (repeat' first|simp (disch:=omega) only[go_sem,hs2,List.length_map,snb]|refine pure_of _ (ha) ?_|(apply spl<;>intro h<;>try simp (disch:=omega) only[go_sem,hs2,List.length_map,snb ,h]))
     all_goals (first|omega|rfl)
    ·rw[if_neg h0] at hf
     (repeat' first|simp (disch:=omega) only[go_sem,hs2,List.length_map,snb,h0]|refine pure_of _ (ha) ?_|(apply spl<;>intro h<;>try simp (disch:=omega) only[go_sem,hs2,List.length_map,snb,h0 ,h]))
     all_goals first | omega | skip
     exact ⟨k+1,rfl,⟨hlt,hf⟩,by omega⟩
   ·rw[List.drop_of_length_le (by omega),findM] at hf
    rw[hf]
    (repeat' first|simp (disch:=omega) only[go_sem,List.length_map]|(apply spl<;>intro h<;>try simp (disch:=omega) only[go_sem,List.length_map,h]))
    all_goals (first|omega|rfl)
  | true=>
   by_cases hu4:u ≤ -400
   ·rw[if_neg (by simp),if_pos hu4]
    have hok : ∀ s,s∈[mk [49] u,mk [50] u]→decOk s=true∧s.digits≠[]:=fun s hs=>by
     simp only[List.mem_cons,List.not_mem_nil,or_false] at hs
     rcases hs with rfl | rfl
     ·exact ⟨o1.2.1,by simp [mk]⟩
     ·exact ⟨o2.2.1,by simp [mk]⟩
    simp only[mk] at q1 q2 q3
    refine prun_of ac709 rfl ?_
    (repeat' first|simp (disch:=omega) only[go_sem,ac709,enter,hnb,hmax,hu4]|refine pure_of _ (hp) ?_|refine pure_of _ (q1) ?_|refine pure_of _ (q2) ?_|refine pure_of _ (q3) ?_|(apply spl<;>intro h<;>try simp (disch:=omega) only[go_sem,ac709,enter,hnb,hmax,hu4 ,h]))
    all_goals first | omega | skip
    obtain ⟨st,hst⟩ : ∃ st,[mk [49] u,mk [50] u]=st:=⟨_,rfl⟩
    rw[hst] at hok ⊢
    refine loop_of (α:=Nat) (fun k=>{ tmps:=slots 67 [(1,.ptr 3 0 0 0),(2,.ptr 3 1 0 0),(45,.sref 3 2 0 st.length),(46,.int .i64 st.length),(47,.int .i64 k)],heap:=[.row 3 [.agg [.bool true,.str ds,.int .i64 ex]] false true 0,.row 3 [.agg [.bool false,.str [],.int .i64 0]] false true 1,.row 3 (st.map encDec) false true 2],base:=0 }) (fun k=>k≤st.length∧findM ⟨true,ds,ex⟩ st=findM ⟨true,ds,ex⟩ (st.drop k)) (fun k=>st.length-k) 0 (by rw[←hst]; rfl) ⟨Nat.zero_le _,rfl⟩ ?_
    rintro k ⟨hk,hf⟩
    have hst4:st.length≤4:=by rw[←hst]; simp
    by_cases hlt:k<st.length
    ·obtain ⟨s,hs⟩:=get_some hlt
     have hsm:=List.mem_of_getElem? hs
     obtain ⟨so,sn⟩:=hok s hsm
     have ha:=addD_run ⟨true,ds,ex⟩ s hd so
     have hs2:=map_get (g:=encDec) hs
     have hfd:=findM_drop (d:=⟨true,ds,ex⟩) hs
     rw[hfd] at hf
     generalize addM ⟨true,ds,ex⟩ s=r at *
     obtain ⟨sneg,sds,sexp⟩:=s
     simp only[encDec] at ha hs2 sn
     have snb:(sds == ([]:List UInt8))=false:=by simp [sn]
     by_cases h0:r.2=0
     ·rw[if_pos h0] at hf
      rw[hf]; rw[h0] at ha
      (repeat' first|simp (disch:=omega) only[go_sem,hs2,List.length_map,snb]|refine pure_of _ (ha) ?_|(apply spl<;>intro h<;>try simp (disch:=omega) only[go_sem,hs2,List.length_map,snb ,h]))
      all_goals (first|omega|rfl)
     ·rw[if_neg h0] at hf
      (repeat' first|simp (disch:=omega) only[go_sem,hs2,List.length_map,snb,h0]|refine pure_of _ (ha) ?_|(apply spl<;>intro h<;>try simp (disch:=omega) only[go_sem,hs2,List.length_map,snb,h0 ,h]))
      all_goals first | omega | skip
      exact ⟨k+1,rfl,⟨hlt,hf⟩,by omega⟩
    ·rw[List.drop_of_length_le (by omega),findM] at hf
     rw[hf]
     (repeat' first|simp (disch:=omega) only[go_sem,List.length_map]|(apply spl<;>intro h<;>try simp (disch:=omega) only[go_sem,List.length_map,h]))
     all_goals (first|omega|rfl)
   ·rw[if_neg (by simp),if_neg hu4]
    have p1:=p1 hu4
    have p3:=p3 hu4
    have r1:=r1 hu4
    have r3:=r3 hu4
    have hu5 : ¬ u ≤ -400:=hu4
    have hok : ∀ s,s∈[mk [49] (u-1),mk [49] u,mk [49,49] (u-1),mk [50] u]→decOk s=true∧s.digits≠[]:=fun s hs=>by
     simp only[List.mem_cons,List.not_mem_nil,or_false] at hs
     rcases hs with rfl | rfl | rfl | rfl
     ·exact ⟨r1.2.1,by simp [mk]⟩
     ·exact ⟨o1.2.1,by simp [mk]⟩
     ·exact ⟨r3.2.1,by simp [mk]⟩
     ·exact ⟨o2.2.1,by simp [mk]⟩
    simp only[mk] at q1 q2 q3 p1 p3
    refine prun_of ac709 rfl ?_
    (repeat' first|simp (disch:=omega) only[go_sem,ac709,enter,hnb,hmax,hu5]|refine pure_of _ (hp) ?_|refine pure_of _ (q1) ?_|refine pure_of _ (q2) ?_|refine pure_of _ (q3) ?_|refine pure_of _ (p1) ?_|refine pure_of _ (p3) ?_|(apply spl<;>intro h<;>try simp (disch:=omega) only[go_sem,ac709,enter,hnb,hmax,hu5 ,h]))
    all_goals first | omega | skip
    obtain ⟨st,hst⟩ : ∃ st,[mk [49] (u-1),mk [49] u,mk [49,49] (u-1),mk [50] u]=st:=⟨_,rfl⟩
    rw[hst] at hok ⊢
    refine loop_of (α:=Nat) (fun k=>{ tmps:=slots 67 [(1,.ptr 3 0 0 0),(2,.ptr 3 1 0 0),(45,.sref 3 2 0 st.length),(46,.int .i64 st.length),(47,.int .i64 k)],heap:=[.row 3 [.agg [.bool true,.str ds,.int .i64 ex]] false true 0,.row 3 [.agg [.bool false,.str [],.int .i64 0]] false true 1,.row 3 (st.map encDec) false true 2],base:=0 }) (fun k=>k≤st.length∧findM ⟨true,ds,ex⟩ st=findM ⟨true,ds,ex⟩ (st.drop k)) (fun k=>st.length-k) 0 (by rw[←hst]; rfl) ⟨Nat.zero_le _,rfl⟩ ?_
    rintro k ⟨hk,hf⟩
    have hst4:st.length≤4:=by rw[←hst]; simp
    by_cases hlt:k<st.length
    ·obtain ⟨s,hs⟩:=get_some hlt
     have hsm:=List.mem_of_getElem? hs
     obtain ⟨so,sn⟩:=hok s hsm
     have ha:=addD_run ⟨true,ds,ex⟩ s hd so
     have hs2:=map_get (g:=encDec) hs
     have hfd:=findM_drop (d:=⟨true,ds,ex⟩) hs
     rw[hfd] at hf
     generalize addM ⟨true,ds,ex⟩ s=r at *
     obtain ⟨sneg,sds,sexp⟩:=s
     simp only[encDec] at ha hs2 sn
     have snb:(sds == ([]:List UInt8))=false:=by simp [sn]
     by_cases h0:r.2=0
     ·rw[if_pos h0] at hf
      rw[hf]; rw[h0] at ha
      (repeat' first|simp (disch:=omega) only[go_sem,hs2,List.length_map,snb]|refine pure_of _ (ha) ?_|(apply spl<;>intro h<;>try simp (disch:=omega) only[go_sem,hs2,List.length_map,snb ,h]))
      all_goals (first|omega|rfl)
     ·rw[if_neg h0] at hf
      (repeat' first|simp (disch:=omega) only[go_sem,hs2,List.length_map,snb,h0]|refine pure_of _ (ha) ?_|(apply spl<;>intro h<;>try simp (disch:=omega) only[go_sem,hs2,List.length_map,snb,h0 ,h]))
      all_goals first | omega | skip
      exact ⟨k+1,rfl,⟨hlt,hf⟩,by omega⟩
    ·rw[List.drop_of_length_le (by omega),findM] at hf
     rw[hf]
     (repeat' first|simp (disch:=omega) only[go_sem,List.length_map]|(apply spl<;>intro h<;>try simp (disch:=omega) only[go_sem,List.length_map,h]))
     all_goals (first|omega|rfl)
end Ago
set_option maxRecDepth 100000
set_option exponentiation.threshold 2000
set_option exponentiation.threshold 2000
namespace Ago
theorem mag_Pl {d:Dec} (hd:decOk d=true) (hn:d.digits≠[]):Pl (magD d) (d.digits.length+(d.exp+400).toNat):=by
 obtain ⟨h1,h2,h3,h4,h5⟩:=decOk_num hd hn
 have hp:=h1.pad (d.exp+400).toNat
 have e:magD d=fold10 (pad d.digits (d.exp+400).toNat):=by rw[fold10_pad]; rfl
 have hl:(pad d.digits (d.exp+400).toNat).length=d.digits.length+(d.exp+400).toNat:=by simp [pad]
 have hlen:=List.length_pos_iff.2 h1.ne
 have k1:=hp.low
 have k2:=(fold10_bound _ hp.dig).2
 rw[hl] at k1 k2
 rw[e]
 exact ⟨by omega,k1,k2⟩
theorem addV {d s:Dec} {v:Int} (hd:decOk d=true) (hs:decOk s=true) (hv:valD d+valD s=v):((addM d s).2=0∧decOk (addM d s).1=true∧valD (addM d s).1=v)∨((addM d s).2≠0∧¬ IsV v):=by
 obtain ⟨h1,h2⟩:=addM_val hd hs
 rw[hv] at h1 h2
 by_cases h:(addM d s).2=0
 ·exact .inl ⟨h,h1 h⟩
 ·exact .inr ⟨h,fun ⟨y,hy,e⟩=>(h2 h).2 y hy e⟩
def NextOk (d:Dec) (r:Dec × Bool):Prop:=
 (r.2=true→decOk r.1=true∧valD d<valD r.1∧∀ y,decOk y=true→valD d<valD y→valD r.1≤valD y)∧(r.2=false→r.1=⟨false,[],0⟩∧∀ y,decOk y=true→valD y≤valD d)
theorem nextOk_some {d x:Dec} {v:Int} (h1:decOk x=true) (h2:valD x=v) (h3:valD d<v) (h4 : ∀ n,IsV n→valD d<n→v≤n):NextOk d (x,true):=
 ⟨fun _=>⟨h1,by simp only; omega,fun y hy hlt=>by simp only; rw[h2]; exact h4 _ ⟨y,hy,rfl⟩ hlt⟩,fun h=>by cases h⟩
theorem unit_L {d:Dec} (hd:decOk d=true) (hn:d.digits≠[]):(unitD d+400).toNat=d.digits.length+(d.exp+400).toNat-120∧-400≤unitD d∧unitD d≤400∧(unitD d ≤ -400↔d.digits.length+(d.exp+400).toNat≤120)∧(¬ unitD d ≤ -400→(unitD d-1+400).toNat=d.digits.length+(d.exp+400).toNat-121):=by
 obtain ⟨h1,h2,h3,h4,h5⟩:=decOk_num hd hn
 have hlen:=List.length_pos_iff.2 h1.ne
 unfold unitD
 split<;>omega
theorem f49:fold10 [49]=1:=by decide
theorem f50:fold10 [50]=2:=by decide
theorem f11:fold10 [49,49]=11:=by decide
theorem nextM_law (d:Dec) (hd:decOk d=true):NextOk d (nextM d):=by
 unfold nextM
 by_cases hn:d.digits=[]
 ·rw[if_pos hn]
  have hv:valD d=0:=by
   unfold valD
   rw[magD_nil hn]
   split<;>rfl
  have hk:valD (mk [49] (-400))=1:=by rw[mk_val (by omega),f49]; rfl
  exact nextOk_some (norm_small (.inl rfl) (by omega)).2.1 hk (by omega) fun n _ h=>by omega
 rw[if_neg hn]
 have hP:=mag_Pl hd hn
 have hm0:=magD_pos hd hn
 obtain ⟨u1,u2,u3,u4,u5⟩:=unit_L hd hn
 generalize d.digits.length+(d.exp+400).toNat=L at *
 have hU:=T_pos (L-120)
 have k1:=norm_small (s:=[49]) (e:=unitD d) (.inl rfl) ⟨u2,u3⟩
 have k2:=norm_small (s:=[50]) (e:=unitD d) (.inr (.inl rfl)) ⟨u2,u3⟩
 have k3:=norm_small (s:=[49,49]) (e:=unitD d) (.inr (.inr (.inl rfl))) ⟨u2,u3⟩
 have v1:valD (mk [49] (unitD d))=T (L-120):=by rw[mk_val u2,f49,u1]; omega
 have v2:valD (mk [50] (unitD d))=2 * T (L-120):=by rw[mk_val u2,f50,u1]
 have v3:valD (mk [49,49] (unitD d))=11 * T (L-120):=by rw[mk_val u2,f11,u1]
 unfold stepsM
 cases hneg:d.neg with
 | false=>
  rw[if_pos rfl]
  have hv:valD d=magD d:=by unfold valD; rw[if_neg (by simp [hneg])]
  have hV:IsV (magD d):=⟨d,hd,hv⟩
  obtain ⟨s1,s2,s3,s4⟩:=succ_law hV hP
  rw[findM,findM,findM,findM]
  rw[←hv] at s1 s2 s3 s4
  rcases addV (v:=valD d+T (L-120)) hd k1.2.1 (by rw[v1]) with ⟨a,b,c⟩ | ⟨a,n1⟩
  ·rw[if_pos a]
   exact nextOk_some b c (by omega) (s1 ⟨_,b,c⟩)
  rw[if_neg a]
  rcases addV (v:=valD d+2 * T (L-120)) hd k2.2.1 (by rw[v2]) with ⟨a,b,c⟩ | ⟨a,n2⟩
  ·rw[if_pos a]
   exact nextOk_some b c (by omega) (s2 n1 ⟨_,b,c⟩)
  rw[if_neg a]
  rcases addV (v:=valD d+11 * T (L-120)) hd k3.2.1 (by rw[v3]) with ⟨a,b,c⟩ | ⟨a,n3⟩
  ·rw[if_pos a]
   exact nextOk_some b c (by omega) (s3 n1 n2 ⟨_,b,c⟩)
  rw[if_neg a]
  exact ⟨fun h=>(nomatch h),fun _=>⟨rfl,fun y hy=>s4 n1 n2 n3 _ ⟨y,hy,rfl⟩⟩⟩
 | true=>
  rw[if_neg (by simp)]
  have hv:valD d = - magD d:=by unfold valD; rw[if_pos hneg]
  have hV:IsV (magD d):=by
   have:=V_pos_neg (n:=valD d) ⟨d,hd,rfl⟩
   rwa [hv,Int.neg_neg] at this
  -- numbers above,from the other side of 0
  have flip : ∀ {b:Int} {x:Dec},decOk x=true→valD x=valD d+b→0<b→(∀ n,IsV n→n<magD d→n≤magD d-b)→NextOk d (x,true):=fun {b x} h1 h2 h3 h4=>by
   refine nextOk_some h1 h2 (by omega) fun n hn2 hlt=>?_
   have:=h4 (-n) (V_pos_neg hn2) (by omega)
   omega
  have neg_of : ∀ {b:Int},IsV (magD d-b)→IsV (valD d+b):=fun {b} h=>by
   have:=V_pos_neg h
   rwa [show -(magD d-b)=valD d+b by omega] at this
  have of_neg : ∀ {b:Int},IsV (valD d+b)→IsV (magD d-b):=fun {b} h=>by
   have:=V_pos_neg h
   rwa [show -(valD d+b)=magD d-b by omega] at this
  by_cases hu:unitD d ≤ -400
  ·rw[if_pos hu,findM]
   have hL:L≤120:=u4.1 hu
   have e1:T (L-120)=1:=by rw[show L-120=0 by omega]; rfl
   rcases addV (v:=valD d+1) hd k1.2.1 (by rw[v1,e1]) with ⟨a,b,c⟩ | ⟨a,n1⟩
   ·rw[if_pos a]
    exact flip b c (by omega) fun n _ h=>by omega
   ·exact absurd (neg_of (pred_small hV hP hL)) n1
  ·rw[if_neg hu]
   have hL:120<L:=by
    rcases Nat.lt_or_ge 120 L with h | h
    ·exact h
    ·exact absurd (u4.2 h) hu
   obtain ⟨s1,s2,s3,s4⟩:=pred_law hV hP hL
   have u5:=u5 hu
   have hW:=T_pos (L-121)
   have e10:T (L-120)=10 * T (L-121):=by rw[←T_succ]; congr 1; omega
   have k4:=norm_small (s:=[49]) (e:=unitD d-1) (.inl rfl) ⟨by omega,by omega⟩
   have k5:=norm_small (s:=[49,49]) (e:=unitD d-1) (.inr (.inr (.inl rfl))) ⟨by omega,by omega⟩
   have v4:valD (mk [49] (unitD d-1))=T (L-121):=by rw[mk_val (by omega),f49,u5]; omega
   have v5:valD (mk [49,49] (unitD d-1))=11 * T (L-121):=by rw[mk_val (by omega),f11,u5]
   rw[findM,findM,findM,findM,findM]
   rcases addV (v:=valD d+T (L-121)) hd k4.2.1 (by rw[v4]) with ⟨a,b,c⟩ | ⟨a,n1⟩
   ·rw[if_pos a]
    exact flip b c (by omega) (s1 (of_neg ⟨_,b,c⟩))
   rw[if_neg a]
   have n1:=fun h=>n1 (neg_of h)
   rcases addV (v:=valD d+T (L-120)) hd k1.2.1 (by rw[v1]) with ⟨a,b,c⟩ | ⟨a,n2⟩
   ·rw[if_pos a]
    exact flip b c (by omega) (s2 n1 (of_neg ⟨_,b,c⟩))
   rw[if_neg a]
   have n2:=fun h=>n2 (neg_of h)
   rcases addV (v:=valD d+11 * T (L-121)) hd k5.2.1 (by rw[v5]) with ⟨a,b,c⟩ | ⟨a,n3⟩
   ·rw[if_pos a]
    exact flip b c (by omega) (s3 n1 n2 (of_neg ⟨_,b,c⟩))
   rw[if_neg a]
   have n3:=fun h=>n3 (neg_of h)
   obtain ⟨s5,s6⟩:=s4 n1 n2 n3
   rcases addV (v:=valD d+2 * T (L-120)) hd k2.2.1 (by rw[v2]) with ⟨a,b,c⟩ | ⟨a,n4⟩
   ·rw[if_pos a]
    exact flip b c (by omega) s6
   ·exact absurd (neg_of s5) n4
end Ago
set_option maxRecDepth 100000
set_option exponentiation.threshold 2000
set_option maxHeartbeats 4000000
namespace Ago
open Go (IntKind)
theorem take_fold {a:List UInt8} {i:Nat} {c:UInt8} (h:a[i]?=some c):fold10 (a.take (i+1))=10 * fold10 (a.take i)+((c.toNat:Int)-48):=by
 rw[fold10_succ h]
 omega
theorem dg_cn {n:Int} (h:0≤n):Cn (dg n):=by
 by_cases h0:n=0
 ·rw[h0,dg_zero]
  exact .inl rfl
 ·exact .inr ((dg_ok h).2.2 h0)
theorem dg_app {R:Int} {c:UInt8} (h:0≤R) (hc:digit c=true):digits (dg R++[c])=true∧fold10 (dg R++[c])=10 * R+((c.toNat:Int)-48):=by
 obtain ⟨h1,h2,_⟩:=dg_ok h
 refine ⟨digits_append h1 (by simp [digits,hc]),?_⟩
 rw[fold10_append,h2]
 simp [fold10]
 omega
theorem divide_run (a b:List UInt8) (ha:digits a=true) (hb:Num b) (la:a.length<2^16) (lb:b.length<2^16) (hne:a≠[]):PRun CN 731 [.str a,.str b] (.tup [.str (dg (fold10 a / fold10 b)),.str (dg (fold10 a % fold10 b))]):=by
 have hB:=hb.pos
 have hbl:=fold10_bound b hb.dig
 refine prun_of ac731 rfl ?_
 obtain ⟨n,hn⟩ : ∃ n,a.length=n:=⟨_,rfl⟩
 have hn0 : ¬ ((n:Int)=0):=by have:=List.length_pos_iff.2 hne; omega
 (repeat' first|simp (disch:=omega) only[go_sem,ac731,enter,hn,hn0,Int.toNat_natCast]|(apply spl<;>intro h<;>try simp (disch:=omega) only[go_sem,ac731,enter,hn,hn0,Int.toNat_natCast,h]))
 all_goals first | omega | skip
 refine loop_of (α:=Nat × Int × List UInt8) (fun s=>{ tmps:=slots 44 [(0,.str a),(1,.str b),(6,.sref 1 0 0 n),(7,.str (dg s.2.1)),(14,.int .i64 n),(15,.int .i64 s.1)],heap:=[.row 1 (encB (s.2.2++List.replicate (n-s.1) 0)) false true 0],base:=0 })
  (fun s=>s.1≤n∧s.2.2.length=s.1∧0≤s.2.1∧s.2.1<fold10 b∧digits s.2.2=true∧fold10 (a.take s.1)=fold10 s.2.2 * fold10 b+s.2.1) (fun s=>n-s.1) (0,0,[]) (by
   unfold encB
   simp only[List.nil_append,Nat.sub_zero,List.map_replicate,dg_zero]
   rfl) ⟨Nat.zero_le _,rfl,Int.le_refl _,hB,rfl,by simp [fold10]⟩ ?_
 rintro ⟨i,R,Q⟩ ⟨hi,hQ,hR0,hRB,hdig,hsum⟩
 simp only at hi hQ hR0 hRB hdig hsum
 have hRl:=dg_len hR0 (show R<10^b.length by omega)
 by_cases hlt:i<n
 ·obtain ⟨c,hc⟩:=get_some (s:=a) (k:=i) (by omega)
  have hcd:digit c=true:=List.all_eq_true.1 ha c (List.mem_of_getElem? hc)
  obtain ⟨d1,d2⟩:=dg_app hR0 hcd
  have hst:=trimL_run (dg R++[c]) (by simp; omega)
  rw[lstrip_dg d1,d2] at hst
  have hsl:List.drop i (List.take (i+1) a)=[c]:=by
   rw[List.take_add_one,hc]
   exact List.drop_left' (by rw[List.length_take]; omega)
  have hft:=take_fold hc
  simp only[digit,decide_eq_true_eq] at hcd
  obtain ⟨x,hx⟩ : ∃ x:Int,(c.toNat:Int)-48=x:=⟨_,rfl⟩
  rw[hx] at hst hft
  have hx0:0≤x∧x≤9:=by omega
  have ei:((i:Int)+1).toNat=i+1:=by omega
  (repeat' first|simp (disch:=omega) only[go_sem,hn,hsl,ei,Int.toNat_natCast,List.length_cons,List.length_nil]|refine pure_of _ (hst) ?_|(apply spl<;>intro h<;>try simp (disch:=omega) only[go_sem,hn,hsl,ei,Int.toNat_natCast,List.length_cons,List.length_nil ,h]))
  all_goals first | omega | skip
  generalize hR1:10 * R+x=R1 at *
  have hR1B:R1<10 * fold10 b:=by omega
  refine loop_of (α:=Nat × Int) (fun s=>{ tmps:=slots 44 [(0,.str a),(1,.str b),(6,.sref 1 0 0 n),(7,.str (dg s.2)),(8,.int .i64 i),(9,.int .u8 (48+(s.1:Int))),(14,.int .i64 n),(15,.int .i64 i)],heap:=[.row 1 (encB (Q++List.replicate (n-i) 0)) false true 0],base:=0 })
   (fun s=>s.1≤9∧0≤s.2∧R1=(s.1:Int) * fold10 b+s.2) (fun s=>10-s.1) (0,R1) rfl ⟨by omega,by simp only; omega,by simp⟩ ?_
  rintro ⟨j,S⟩ ⟨hj,hS0,hjS⟩
  simp only at hj hS0 hjS
  have hSR:S≤R1:=by
   have:=Int.mul_nonneg (show (0:Int)≤(j:Int) by omega) (show 0≤fold10 b by omega)
   omega
  obtain ⟨s1,s2,_⟩:=dg_ok hS0
  have hSl:(dg S).length≤b.length+1:=dg_len hS0 (by rw[Int.pow_succ]; omega)
  have hcmp:=cmpI_run (dg S) b (by omega) (by omega)
  obtain ⟨g1,g2,g3⟩:=cmpS_ge (dg_cn hS0) (.inr hb)
  rw[s2] at g1
  by_cases hge:fold10 b≤S
  ·have hc0:=g1.2 hge
   have hmin:=minus_run (dg S) b s1 hb.dig (by omega) (g2 hc0) (by rw[s2]; exact hge)
   rw[s2] at hmin
   have hj8:j<9:=by
    rcases Nat.lt_or_ge j 9 with h | h
    ·exact h
    ·have e9:j=9:=by omega
     rw[e9] at hjS
     omega
   generalize cmpS (dg S) b=cc at *
   (repeat' first|simp (disch:=omega) only[go_sem,hc0]|refine pure_of _ (hcmp) ?_|refine pure_of _ (hmin) ?_|(apply spl<;>intro h<;>try simp (disch:=omega) only[go_sem,hc0 ,h]))
   all_goals first | omega | skip
   refine ⟨(j+1,S-fold10 b),rfl,⟨hj8,by simp only; omega,?_⟩,by simp only; omega⟩
   simp only
   rw[Int.natCast_add,Int.add_mul]
   simp
   omega
  ·have hc0 : ¬ 0≤cmpS (dg S) b:=fun h=>hge (g1.1 h)
   generalize cmpS (dg S) b=cc at *
   obtain ⟨ch,q1,q2,q3⟩:=digit_of (x:=(j:Int)) (by omega) (by omega)
   have q2':(48+(j:Int))=ch.toNat:=q2.symm
   have hset:(encB (Q++List.replicate (n-i) 0)).set i (.int .u8 ch.toNat)=encB ((Q++[ch])++List.replicate (n-(i+1)) 0):=by
    rw[encB_set]
    congr 1
    rw[List.set_append_right _ _ (by omega),hQ,Nat.sub_self,show n-i=n-(i+1)+1 by omega,List.replicate_succ,List.set_cons_zero,List.append_assoc]
    rfl
   obtain ⟨old,hold⟩:=encB_at (l:=Q++List.replicate (n-i) 0) (i:=i) (by simp; omega)
   have hrl:(encB (Q++List.replicate (n-i) 0)).length=n:=by rw[encB_length]; simp; omega
   generalize hRR:encB (Q++List.replicate (n-i) 0)=RR at *
   (repeat' first|simp (disch:=omega) only[go_sem,hc0,q2',hold,hrl,hset,Int.toNat_natCast]|refine pure_of _ (hcmp) ?_|(apply spl<;>intro h<;>try simp (disch:=omega) only[go_sem,hc0,q2',hold,hrl,hset,Int.toNat_natCast ,h]))
   all_goals first | omega | skip
   refine ⟨(i+1,S,Q++[ch]),rfl,⟨hlt,by simp [hQ],hS0,by simp only; omega,digits_append hdig (by simp [digits,q1]),?_⟩,by simp only; omega⟩
   simp only
   rw[hft,hsum,fold10_append]
   have e1:fold10 [ch]=(j:Int):=by simp [fold10]; omega
   rw[e1]
   simp only[List.length_cons,List.length_nil,Int.add_mul]
   have e2:fold10 Q * 10^(0+1) * fold10 b=10 * (fold10 Q * fold10 b):=by
    rw[show (10:Int)^(0+1)=10 from rfl,Int.mul_comm (fold10 Q) 10,Int.mul_assoc]
   rw[e2]
   omega
 ·have hin:i=n:=by omega
  subst hin
  rw[List.take_of_length_le (by omega)] at hsum
  have hA:fold10 a=R+fold10 Q * fold10 b:=by omega
  have k1:fold10 a / fold10 b=fold10 Q:=by
   rw[hA,Int.add_mul_ediv_right _ _ (by omega),Int.ediv_eq_zero_of_lt hR0 hRB]
   omega
  have k2:fold10 a % fold10 b=R:=by
   rw[hA,Int.add_mul_emod_self_right,Int.emod_eq_of_lt hR0 hRB]
  rw[k1,k2]
  have hr:=trimL_run Q (by omega)
  rw[lstrip_dg hdig] at hr
  rw[Nat.sub_self,List.replicate_zero,List.append_nil]
  have hel:(encB Q).length=i:=by rw[encB_length,hQ]
  have htk:List.take i (encB Q)=encB Q:=List.take_of_length_le (by omega)
  have hob:=omap_encB Q
  generalize encB Q=RR at *
  (repeat' first|simp (disch:=omega) only[go_sem,hel,htk,hob,List.drop_zero]|refine pure_of _ (hr) ?_|(apply spl<;>intro h<;>try simp (disch:=omega) only[go_sem,hel,htk,hob,List.drop_zero ,h]))
  all_goals (first|omega|rfl)
end Ago
