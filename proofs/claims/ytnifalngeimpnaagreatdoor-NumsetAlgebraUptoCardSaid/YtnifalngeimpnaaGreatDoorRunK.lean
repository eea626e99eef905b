/- A number of a part,of a set; the law NumsetEmpties. -/
import Derived.Test.YtnifalngeimpnaaGreatDoorRunJ
import Derived.Test.YtnifalngeimpnaaGreatDoorRunF
set_option linter.unusedSimpArgs false
set_option linter.unusedVariables false
set_option maxRecDepth 100000
set_option exponentiation.threshold 2000
set_option maxHeartbeats 4000000
set_option exponentiation.threshold 2000
namespace Ago
open Go (IntKind)
section
variable {R:Nat→List AV→Heap→AV→Heap→Prop} {PR:Nat→List AV→AV→Prop}
theorem draw2n {k:Nat} {a b:List AOper} {Q:Ex→St→Prop} {s:St} (s':St) (h1 : @withStI (s.keep k) ⟨awOps R PR a fun t=>t=s'⟩) (h2 : @withStI (s.keep k) ⟨awOps R PR b fun t=>t=s'⟩) (h : @withStI { s' with rb:=0 } ⟨Q .normal⟩):aw R PR (.draw k [a,b]) Q s:=by
 unfold withStI at h1 h2 h
 refine ⟨s',by simp,fun l hl=>?_,h⟩
 rcases List.mem_cons.1 hl with rfl | hl
 ·exact h1
 ·rw[List.mem_singleton.1 hl]
  exact h2
end
theorem least_run (p:Prt) (hp:prtOk p=true) (hs:p.lo.set=true):PRun CN 700 [encPrt p] (.tup [encDec (leastM p).1,.bool (leastM p).2]):=by
 obtain ⟨h1,h2,h3,h4⟩:=prt_bnds hp
 have hd:=bnd_num h1 hs
 have hw:=nextW_run p.lo.num p.lo.opn hd
 have hf:=nextF_run p.lo.num p.lo.opn hd
 have hx:=next_run p.lo.num hd
 unfold leastM
 generalize nextWM p.lo.num p.lo.opn=W at *
 generalize nextFM p.lo.num p.lo.opn=F at *
 generalize nextM p.lo.num=X at *
 clear hd h1 h2 hp hs
 obtain ⟨⟨s1,⟨n1,d1,e1⟩,o1⟩,⟨s2,⟨n2,d2,e2⟩,o2⟩,sort⟩:=p
 simp only[encPrt,encDec] at *
 refine prun_of ac700 rfl ?_
 by_cases k1:sort=1
 ·rw[if_pos k1]
  subst k1
  (repeat' first|simp (disch:=omega) only[go_sem,ac700,enter]|(apply spl<;>intro h<;>try simp (disch:=omega) only[go_sem,ac700,enter,h]))
  all_goals first | omega | skip
  refine draw2n ?s1 ?a1 ?b1 ?c1
  rotate_left
  case a1=>
   (repeat' first|simp (disch:=omega) only[go_sem,keep_mk]|(apply spl<;>intro h<;>try simp (disch:=omega) only[go_sem,keep_mk,h]))
   all_goals (first|omega|rfl)
  case b1=>
   (repeat' first|simp (disch:=omega) only[go_sem,keep_mk]|(apply spl<;>intro h<;>try simp (disch:=omega) only[go_sem,keep_mk,h]))
   all_goals (first|omega|rfl)
  (repeat' first|simp (disch:=omega) only[go_sem]|refine pure_of _ (hw) ?_|(apply spl<;>intro h<;>try simp (disch:=omega) only[go_sem,h]))
  all_goals (first|omega|rfl)
 ·rw[if_neg k1]
  by_cases k2:sort=2
  ·rw[if_pos k2]
   subst k2
   (repeat' first|simp (disch:=omega) only[go_sem,ac700,enter]|(apply spl<;>intro h<;>try simp (disch:=omega) only[go_sem,ac700,enter,h]))
   all_goals first | omega | skip
   refine draw2n ?s2 ?a2 ?b2 ?c2
   rotate_left
   case a2=>
    (repeat' first|simp (disch:=omega) only[go_sem,keep_mk]|(apply spl<;>intro h<;>try simp (disch:=omega) only[go_sem,keep_mk,h]))
    all_goals (first|omega|rfl)
   case b2=>
    (repeat' first|simp (disch:=omega) only[go_sem,keep_mk]|(apply spl<;>intro h<;>try simp (disch:=omega) only[go_sem,keep_mk,h]))
    all_goals (first|omega|rfl)
   (repeat' first|simp (disch:=omega) only[go_sem,k1]|refine pure_of _ (hf) ?_|(apply spl<;>intro h<;>try simp (disch:=omega) only[go_sem,k1 ,h]))
   all_goals (first|omega|rfl)
  ·rw[if_neg k2]
   cases o1 with
   | true=>
    rw[if_pos rfl]
    (repeat' first|simp (disch:=omega) only[go_sem,ac700,enter]|(apply spl<;>intro h<;>try simp (disch:=omega) only[go_sem,ac700,enter,h]))
    all_goals first | omega | skip
    refine draw2n ?s3 ?a3 ?b3 ?c3
    rotate_left
    case a3=>
     (repeat' first|simp (disch:=omega) only[go_sem,keep_mk]|(apply spl<;>intro h<;>try simp (disch:=omega) only[go_sem,keep_mk,h]))
     all_goals (first|omega|rfl)
    case b3=>
     (repeat' first|simp (disch:=omega) only[go_sem,keep_mk]|(apply spl<;>intro h<;>try simp (disch:=omega) only[go_sem,keep_mk,h]))
     all_goals (first|omega|rfl)
    (repeat' first|simp (disch:=omega) only[go_sem,k1,k2]|refine pure_of _ (hx) ?_|(apply spl<;>intro h<;>try simp (disch:=omega) only[go_sem,k1,k2 ,h]))
    all_goals (first|omega|rfl)
   | false=>
    rw[if_neg (by simp)]
    (repeat' first|simp (disch:=omega) only[go_sem,ac700,enter]|(apply spl<;>intro h<;>try simp (disch:=omega) only[go_sem,ac700,enter,h]))
    all_goals first | omega | skip
    refine draw2n ?s4 ?a4 ?b4 ?c4
    rotate_left
    case a4=>
     (repeat' first|simp (disch:=omega) only[go_sem,keep_mk]|(apply spl<;>intro h<;>try simp (disch:=omega) only[go_sem,keep_mk,h]))
     all_goals (first|omega|rfl)
    case b4=>
     (repeat' first|simp (disch:=omega) only[go_sem,keep_mk]|(apply spl<;>intro h<;>try simp (disch:=omega) only[go_sem,keep_mk,h]))
     all_goals (first|omega|rfl)
    (repeat' first|simp (disch:=omega) only[go_sem,k1,k2]|(apply spl<;>intro h<;>try simp (disch:=omega) only[go_sem,k1,k2,h]))
    all_goals (first|omega|rfl)
def negD (d:Dec):Dec:=if d.digits=[] then d else ⟨!d.neg,d.digits,d.exp⟩
theorem neg_run (d:Dec):PRun CN 699 [encDec d] (encDec (negD d)):=by
 unfold negD
 obtain ⟨nn,ds,ex⟩:=d
 simp only[encDec]
 refine prun_of ac699 rfl ?_
 by_cases hn:ds=[]
 ·subst hn
  (repeat' first|simp (disch:=omega) only[go_sem,ac699,enter]|(apply spl<;>intro h<;>try simp (disch:=omega) only[go_sem,ac699,enter,h]))
  all_goals (first|omega|rfl)
 ·have hnb:(ds == ([]:List UInt8))=false:=by simp [hn]
  rw[if_neg hn]
  cases nn
  all_goals
   (repeat' first|simp (disch:=omega) only[go_sem,ac699,enter,hnb]|(apply spl<;>intro h<;>try simp (disch:=omega) only[go_sem,ac699,enter,hnb,h]))
   all_goals (first|omega|rfl)
theorem negD_ok {d:Dec} (hd:decOk d=true):decOk (negD d)=true∧valD (negD d) = - valD d:=by
 unfold negD
 by_cases hn:d.digits=[]
 ·rw[if_pos hn]
  refine ⟨hd,?_⟩
  unfold valD
  rw[magD_nil hn]
  split<;>rfl
 ·rw[if_neg hn]
  refine ⟨?_,?_⟩
  ·unfold decOk at hd ⊢
   rw[if_neg hn] at hd ⊢
   exact hd
  ·unfold valD magD
   cases d.neg<;>simp
def mirB (b:Bnd):Bnd:=⟨b.set,negD b.num,b.opn⟩
theorem mir_run (b:Bnd):PRun CN 698 [encBnd b] (encBnd (mirB b)):=by
 have h:=neg_run b.num
 unfold mirB
 generalize negD b.num=q at *
 obtain ⟨s,⟨nn,ds,ex⟩,o⟩:=b
 simp only[encBnd,encDec] at *
 refine prun_of ac698 rfl ?_
 (repeat' first|simp (disch:=omega) only[go_sem,ac698,enter]|refine pure_of _ (h) ?_|(apply spl<;>intro h<;>try simp (disch:=omega) only[go_sem,ac698,enter ,h]))
 all_goals (first|omega|rfl)
def memL (p:Prt):Dec × Bool:=if (leastM p).2=true∧inM p (leastM p).1=true then ((leastM p).1,true) else (⟨false,[],0⟩,false)
def mirP (p:Prt):Prt:=⟨mirB p.hi,⟨false,⟨false,[],0⟩,false⟩,p.sort⟩
def memM (p:Prt):Dec × Bool:=
 if p.lo.set=true then memL p
 else if p.hi.set=true then (negD (memL (mirP p)).1,(memL (mirP p)).2)
 else if p.sort=2 then (mk [53] (-1),true) else (⟨false,[],0⟩,true)
def MemOk (p:Prt) (r:Dec × Bool):Prop:=(r.2=true→decOk r.1=true∧inM p r.1=true)∧(r.2=false→r.1=⟨false,[],0⟩∧∀ y,decOk y=true→inM p y=false)
theorem memL_law {p:Prt} (hp:prtOk p=true) (hs:p.lo.set=true):MemOk p (memL p):=by
 obtain ⟨k1,k2⟩:=leastM_law hp hs
 unfold memL
 have no : ∀ y,decOk y=true→¬ inM p y=true→inM p y=false:=fun y _ h=>by simpa using h
 by_cases h:(leastM p).2=true∧inM p (leastM p).1=true
 ·rw[if_pos h]
  exact ⟨fun _=>⟨(k1 h.1).1,h.2⟩,fun h=>(nomatch h)⟩
 ·rw[if_neg h]
  refine ⟨fun h=>(nomatch h),fun _=>⟨rfl,fun y hy=>no y hy fun hin=>?_⟩⟩
  obtain ⟨i1,i2,i3⟩:=(in_iff hp hy).1 hin
  cases hb:(leastM p).2 with
  | false=>exact k2 hb y hy ⟨i1 hs,i3⟩
  | true=>
   obtain ⟨g1,g2,g3⟩:=k1 hb
   apply h
   refine ⟨hb,(in_iff hp g1).2 ⟨fun _=>g2.1,fun hh=>?_,g2.2⟩⟩
   have h1:=i2 hh
   have h2:=g3 y hy ⟨i1 hs,i3⟩
   unfold Above at h1 ⊢
   split at h1<;>rename_i ho
   ·rw[if_pos ho]; omega
   ·rw[if_neg ho]; omega
theorem mirP_ok {p:Prt} (hp:prtOk p=true) (hs:p.hi.set=true):prtOk (mirP p)=true∧(mirP p).lo.set=true:=by
 obtain ⟨h1,h2,h3,h4⟩:=prt_bnds hp
 have hd:=bnd_num h2 hs
 refine ⟨?_,hs⟩
 unfold prtOk mirP mirB bndOk
 simp only[hs,if_true,(negD_ok hd).1,Bool.and_eq_true,decide_eq_true_eq]
 simp
 omega
theorem mir_in {p:Prt} (hp:prtOk p=true) (hl : ¬ p.lo.set=true) (hs:p.hi.set=true) {y:Dec} (hy:decOk y=true):inM (mirP p) (negD y)=inM p y:=by
 obtain ⟨h1,h2,h3,h4⟩:=prt_bnds hp
 have hd:=bnd_num h2 hs
 obtain ⟨n1,n2⟩:=negD_ok hy
 obtain ⟨m1,m2⟩:=negD_ok hd
 obtain ⟨p1,p2⟩:=mirP_ok hp hs
 have e:inM (mirP p) (negD y)=true↔inM p y=true:=by
  rw[in_iff p1 n1,in_iff hp hy]
  have a1:Above (valD (mirP p).lo.num) (mirP p).lo.opn (valD (negD y))↔Above (valD y) p.hi.opn (valD p.hi.num):=by
   show Above (valD (negD p.hi.num)) p.hi.opn (valD (negD y))↔_
   rw[n2,m2]
   unfold Above
   cases p.hi.opn<;>simp<;>omega
  have a2:SortOk (mirP p).sort (valD (negD y))↔SortOk p.sort (valD y):=by
   show SortOk p.sort _↔_
   rw[n2]
   unfold SortOk
   rw[Int.dvd_neg]
  rw[a1,a2]
  have a3:(mirP p).hi.set=true↔False:=by simp [mirP]
  simp [p2,hs,hl,a3]
 cases h5:inM p y with
 | true=>exact e.2 h5
 | false=>
  cases h6:inM (mirP p) (negD y) with
  | false=>rfl
  | true=>rw[e.1 h6] at h5; cases h5
theorem memM_law {p:Prt} (hp:prtOk p=true):MemOk p (memM p):=by
 unfold memM
 by_cases hl:p.lo.set=true
 ·rw[if_pos hl]
  exact memL_law hp hl
 rw[if_neg hl]
 by_cases hs:p.hi.set=true
 ·rw[if_pos hs]
  obtain ⟨p1,p2⟩:=mirP_ok hp hs
  obtain ⟨k1,k2⟩:=memL_law p1 p2
  have back : ∀ x:Dec,decOk x=true→inM p (negD x)=inM (mirP p) x:=fun x hx=>by
   have h:=mir_in hp hl hs (negD_ok hx).1
   rw[←h]
   congr 1
   unfold negD
   by_cases hn:x.digits=[]
   ·rw[if_pos hn,if_pos hn]
   ·rw[if_neg hn,if_neg hn]
    simp
  refine ⟨fun h=>?_,fun h=>?_⟩
  ·obtain ⟨g1,g2⟩:=k1 h
   exact ⟨(negD_ok g1).1,by rw[back _ g1]; exact g2⟩
  ·obtain ⟨g1,g2⟩:=k2 h
   refine ⟨by simp only; rw[g1]; rfl,fun y hy=>?_⟩
   rw[←mir_in hp hl hs hy]
   exact g2 _ (negD_ok hy).1
 ·rw[if_neg hs]
  have hin : ∀ y,decOk y=true→SortOk p.sort (valD y)→inM p y=true:=fun y hy h=>(in_iff hp hy).2 ⟨fun h=>absurd h hl,fun h=>absurd h hs,h⟩
  obtain ⟨h1,h2,h3,h4⟩:=prt_bnds hp
  by_cases s2:p.sort=2
  ·rw[if_pos s2]
   have hk:decOk (mk [53] (-1))=true:=by decide
   refine ⟨fun _=>⟨hk,hin _ hk (.inr (.inr ⟨s2,fun h=>?_⟩))⟩,fun h=>(nomatch h)⟩
   have:=(whole_iff hk).2 h
   simp [mk] at this
  ·rw[if_neg s2]
   have hz:decOk ⟨false,[],0⟩=true:=by decide
   refine ⟨fun _=>⟨hz,hin _ hz ?_⟩,fun h=>(nomatch h)⟩
   have hw:=(whole_iff hz).1 (by simp)
   rcases (show p.sort=0∨p.sort=1 by omega) with h | h
   ·exact .inl h
   ·exact .inr (.inl ⟨h,hw⟩)
end Ago
set_option maxRecDepth 100000
set_option exponentiation.threshold 2000
set_option maxHeartbeats 4000000
namespace Ago
open Go (IntKind)
theorem memberL_run (p:Prt) (hp:prtOk p=true) (hs:p.lo.set=true):PRun CN 692 [encPrt p] (.tup [encDec (memL p).1,.bool (memL p).2]):=by
 have hl:=least_run p hp hs
 obtain ⟨k1,k2⟩:=leastM_law hp hs
 have hi:=fun h:(leastM p).2=true=>inside_run p (leastM p).1 hp (k1 h).1
 unfold memL
 clear k1 k2
 generalize leastM p=L at *
 obtain ⟨⟨ln,ld,le⟩,lb⟩:=L
 simp only at hi
 generalize inM p ⟨ln,ld,le⟩=w at *
 clear hp
 obtain ⟨⟨s1,⟨n1,d1,e1⟩,o1⟩,⟨s2,⟨n2,d2,e2⟩,o2⟩,sort⟩:=p
 simp only at hs
 subst hs
 simp only[encPrt,encDec] at *
 cases lb with
 | false=>
  refine prun_of ac692 rfl ?_
  (repeat' first|simp (disch:=omega) only[go_sem,ac692,enter]|refine pure_of _ (hl) ?_|(apply spl<;>intro h<;>try simp (disch:=omega) only[go_sem,ac692,enter ,h]))
  all_goals (first|omega|rfl)
 | true=>
  have hi:=hi rfl
  cases w
  all_goals
   refine prun_of ac692 rfl ?_
   (repeat' first|simp (disch:=omega) only[go_sem,ac692,enter]|refine pure_of _ (hl) ?_|refine pure_of _ (hi) ?_|(apply spl<;>intro h<;>try simp (disch:=omega) only[go_sem,ac692,enter ,h]))
   all_goals (first|omega|rfl)
theorem member_run (p:Prt) (hp:prtOk p=true):PRun CN 692 [encPrt p] (.tup [encDec (memM p).1,.bool (memM p).2]):=by
 by_cases hl:p.lo.set=true
 ·have h:=memberL_run p hp hl
  unfold memM
  rw[if_pos hl]
  exact h
 ·unfold memM
  rw[if_neg hl]
  by_cases hs:p.hi.set=true
  ·rw[if_pos hs]
   obtain ⟨q1,q2⟩:=mirP_ok hp hs
   have hm:=mir_run p.hi
   have hr:=memberL_run (mirP p) q1 q2
   have hn:=neg_run (memL (mirP p)).1
   generalize hN:negD (memL (mirP p)).1=N at *
   generalize memL (mirP p)=R at *
   unfold mirP at hr
   generalize mirB p.hi=B at *
   clear q1 q2 hN hp
   obtain ⟨⟨rn,rd,re⟩,rb⟩:=R
   obtain ⟨⟨s1,⟨n1,d1,e1⟩,o1⟩,⟨s2,⟨n2,d2,e2⟩,o2⟩,sort⟩:=p
   obtain ⟨bs,⟨bn,bd,be⟩,bo⟩:=B
   simp only at hs hl
   subst hs
   have hl:s1=false:=by simpa using hl
   subst hl
   simp only[encPrt,encBnd,encDec] at *
   refine prun_of ac692 rfl ?_
   (repeat' first|simp (disch:=omega) only[go_sem,ac692,enter,keep_mk]|refine pure_of _ (hm) ?_|refine pure_of _ (hr) ?_|refine pure_of _ (hn) ?_|(apply spl<;>intro h<;>try simp (disch:=omega) only[go_sem,ac692,enter,keep_mk ,h]))
   all_goals (first|omega|rfl)
  ·rw[if_neg hs]
   have h5:=powD_run (s:=[53]) (e:=-1) (.inr (.inr (.inr rfl))) (by omega)
   clear hp
   obtain ⟨⟨s1,⟨n1,d1,e1⟩,o1⟩,⟨s2,⟨n2,d2,e2⟩,o2⟩,sort⟩:=p
   simp only at hs hl
   have hl:s1=false:=by simpa using hl
   have hs:s2=false:=by simpa using hs
   subst hl
   subst hs
   simp only[encPrt,encDec,mk] at *
   by_cases k2:sort=2
   ·rw[if_pos k2]
    refine prun_of ac692 rfl ?_
    (repeat' first|simp (disch:=omega) only[go_sem,ac692,enter,k2]|refine pure_of _ (h5) ?_|(apply spl<;>intro h<;>try simp (disch:=omega) only[go_sem,ac692,enter,k2 ,h]))
    all_goals (first|omega|rfl)
   ·rw[if_neg k2]
    refine prun_of ac692 rfl ?_
    (repeat' first|simp (disch:=omega) only[go_sem,ac692,enter,k2]|refine pure_of _ (h5) ?_|(apply spl<;>intro h<;>try simp (disch:=omega) only[go_sem,ac692,enter,k2 ,h]))
    all_goals (first|omega|rfl)
def findP:List Prt→Dec × Bool
 | []=>(⟨false,[],0⟩,false)
 | p::l=>if (memM p).2=true then ((memM p).1,true) else findP l
def pickM (l:List Prt):Dec × Bool:=if setOk l=true then findP l else (⟨false,[],0⟩,false)
theorem findP_drop {l:List Prt} {k:Nat} {p:Prt} (h:l[k]?=some p):findP (l.drop k)=if (memM p).2=true then ((memM p).1,true) else findP (l.drop (k+1)):=by
 obtain ⟨h1,h2⟩:=List.getElem?_eq_some_iff.1 h
 rw[List.drop_eq_getElem_cons h1,h2,findP]
theorem findP_law : ∀ (l:List Prt),(∀ p,p∈l→prtOk p=true)→((findP l).2=true→decOk (findP l).1=true∧anyIn l (findP l).1=true)∧((findP l).2=false→(findP l).1=⟨false,[],0⟩∧∀ y,decOk y=true→anyIn l y=false)
 | [],_=>⟨fun h=>(nomatch h),fun _=>⟨rfl,fun _ _=>rfl⟩⟩
 | p::l,hok=>by
  obtain ⟨m1,m2⟩:=memM_law (hok p (by simp))
  obtain ⟨i1,i2⟩:=findP_law l fun q hq=>hok q (List.mem_cons_of_mem _ hq)
  rw[findP]
  cases hb:(memM p).2 with
  | true=>
   rw[if_pos rfl]
   obtain ⟨g1,g2⟩:=m1 hb
   exact ⟨fun _=>⟨g1,by unfold anyIn; rw[List.any_cons,g2]; rfl⟩,fun h=>(nomatch h)⟩
  | false=>
   rw[if_neg (by simp)]
   refine ⟨fun h=>⟨(i1 h).1,?_⟩,fun h=>⟨(i2 h).1,fun y hy=>?_⟩⟩
   ·unfold anyIn
    rw[List.any_cons]
    have:=(i1 h).2
    unfold anyIn at this
    rw[this,Bool.or_true]
   ·unfold anyIn
    rw[List.any_cons,(m2 hb).2 y hy]
    exact (i2 h).2 y hy
theorem pick_run (l:List Prt) (hl:slimP l):PRun CN 673 [encNS l] (.tup [encDec (pickM l).1,.bool (pickM l).2]):=by
 have hv:=setI_run l hl
 have hl1:=hl.1
 unfold pickM
 cases hok:setOk l with
 | false=>
  rw[hok] at hv
  unfold encNS encDec at *
  rw[if_neg (by simp)]
  refine prun_of ac673 rfl ?_
  (repeat' first|simp (disch:=omega) only[go_sem,ac673,enter]|refine pure_of _ (hv) ?_|(apply spl<;>intro h<;>try simp (disch:=omega) only[go_sem,ac673,enter ,h]))
  all_goals (first|omega|rfl)
 | true=>
  rw[hok] at hv
  have hp:=setOk_all hok
  rw[if_pos rfl]
  generalize hR:findP l=R
  unfold encNS encDec at *
  refine prun_of ac673 rfl ?_
  (repeat' first|simp (disch:=omega) only[go_sem,ac673,enter,List.length_map]|refine pure_of _ (hv) ?_|(apply spl<;>intro h<;>try simp (disch:=omega) only[go_sem,ac673,enter,List.length_map ,h]))
  all_goals first | omega | skip
  refine loop_of (α:=Nat) (fun k=>{ tmps:=slots 28 [(2,.ptr 3 0 0 0),(13,.tsl 11 (l.map encPrt)),(14,.int .i64 l.length),(15,.int .i64 k)],heap:=[.row 3 [.agg [.bool false,.str [],.int .i64 0]] false true 0],base:=0 }) (fun k=>k≤l.length∧R=findP (l.drop k)) (fun k=>l.length-k) 0 rfl ⟨Nat.zero_le _,by rw[List.drop_zero,hR]⟩ ?_
  rintro k ⟨hk,hf⟩
  by_cases hlt:k<l.length
  ·obtain ⟨p,hpk⟩:=get_some hlt
   have hp2:=map_get (g:=encPrt) hpk
   have hr:=member_run p (hp p (List.mem_of_getElem? hpk))
   rw[findP_drop hpk] at hf
   generalize memM p=M at *
   obtain ⟨⟨mn,md,me⟩,mb⟩:=M
   simp only[encPrt,encDec] at hp2 hr
   cases mb with
   | true=>
    rw[if_pos rfl] at hf
    rw[hf]
    (repeat' first|simp (disch:=omega) only[go_sem,hp2,List.length_map]|refine pure_of _ (hr) ?_|(apply spl<;>intro h<;>try simp (disch:=omega) only[go_sem,hp2,List.length_map ,h]))
    all_goals (first|omega|rfl)
   | false=>
    rw[if_neg (by simp)] at hf
    (repeat' first|simp (disch:=omega) only[go_sem,hp2,List.length_map]|refine pure_of _ (hr) ?_|(apply spl<;>intro h<;>try simp (disch:=omega) only[go_sem,hp2,List.length_map ,h]))
    all_goals first | omega | skip
    exact ⟨k+1,rfl,⟨hlt,hf⟩,by omega⟩
  ·rw[List.drop_of_length_le (by omega),findP] at hf
   rw[hf]
   (repeat' first|simp (disch:=omega) only[go_sem,List.length_map]|(apply spl<;>intro h<;>try simp (disch:=omega) only[go_sem,List.length_map,h]))
   all_goals (first|omega|rfl)
theorem empty_run (l:List Prt) (hl:slimP l):PRun CN 674 [encNS l] (.bool (!(pickM l).2)):=by
 have h:=pick_run l hl
 generalize pickM l=R at *
 obtain ⟨⟨mn,md,me⟩,mb⟩:=R
 unfold encNS encDec at *
 refine prun_of ac674 rfl ?_
 cases mb
 all_goals
  (repeat' first|simp (disch:=omega) only[go_sem,ac674,enter]|refine pure_of _ (h) ?_|(apply spl<;>intro h<;>try simp (disch:=omega) only[go_sem,ac674,enter ,h]))
  all_goals (first|omega|rfl)
theorem pickM_law {l:List Prt} (h:setOk l=true):((pickM l).2=true→decOk (pickM l).1=true∧anyIn l (pickM l).1=true)∧((pickM l).2=false→(pickM l).1=⟨false,[],0⟩∧∀ y,decOk y=true→anyIn l y=false):=by
 unfold pickM
 rw[if_pos h]
 exact findP_law l (setOk_all h)
end Ago
