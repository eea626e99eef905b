/- A definition is looked up; keys that are there twice; the reference's check of nodes. -/
import Derived.Test.YtjeahlpkonkjiaaGreatDoorORunB
import Derived.Test.YtjeahlpkonkjiaaGreatDoorORunC
import Derived.Test.YtjeahlpkonkjiaaGreatDoorORunF
import Derived.Test.YtjeahlpkonkjiaaGreatDoorORunA
set_option linter.unusedSimpArgs false
set_option linter.unusedVariables false
set_option maxRecDepth 100000
set_option maxHeartbeats 8000000
namespace Ago
open Go (IntKind)
theorem Schs.dlen {s:Schs} {N:Nat} (hs:s.bulk≤N):s.defs.length<N∧∀ d,d∈s.defs→d.2.bulk<s.bulk∧d.1.length<N:=by
 have e:=s.bulk_eq
 have h1:=q1s (s.defs.map q2j)
 rw[Ka] at h1
 have:1≤s.root.bulk:=q1B _
 refine ⟨by omega,fun d hd=>?_⟩
 have:=q1L (Va (f:=q2j) hd)
 rw[q9w] at this
 have:1≤d.2.bulk:=q1B _
 omega
def qfj:AV:=.agg [.int .i64 0,.int .i64 0,.int .i64 0,.int .i64 0,.str [],.snil 11,.int .i64 0,.int .i64 0,.int .i64 0,.int .i64 0,.int .i64 0,.snil 6,.snil 13,.snil 17,.snil 15]
def lkM (s:Schs) (name:List UInt8):Sch × Bool:=match s.defs.find? fun d=>d.1 == name with
 | some d=>(d.2,true)
 | none=>(zeroX,false)
theorem qpD {α:Type} {p:α→Bool} {l:List α} {k:Nat} {y:α} (hy:l[k]?=some y) (ha:(l.take k).any p=false) (hp:p y=true):l.find? p=some y:=by
 have h1:l=l.take k++y::l.drop (k+1):=by rw[←q8S hy,K6]
 rw[h1,List.find?_append]
 have h2:(l.take k).find? p=none:=by
  rw[VR]
  intro x hx hpx
  have:=List.any_eq_true.2 ⟨x,hx,hpx⟩
  rw[ha] at this
  cases this
 rw[h2]
 simp [hp]
theorem ql2 {α:Type} {p:α→Bool} {l:List α} (ha:l.any p=false):l.find? p=none:=by
 rw[VR]
 intro x hx hpx
 have:=List.any_eq_true.2 ⟨x,hx,hpx⟩
 rw[ha] at this
 cases this
def qdt:List (List UInt8)→List (List UInt8)→Bool
 | _,[]=>false
 | seen,y::l=>seen.any (fun x=>x == y) || qdt (seen++[y]) l
def qqn (l:List (List UInt8)):Bool:=qdt [] l
theorem qbK {l:List (List UInt8)} {k:Nat} {y:List UInt8} (hy:l[k]?=some y):qdt (l.take k) (l.drop k)=((l.take k).any (fun x=>x == y) || qdt (l.take (k+1)) (l.drop (k+1))):=by
 rw[q8S hy]
 have:l.take (k+1)=l.take k++[y]:=by rw[KG,hy]; rfl
 rw[this]
 rfl
def q65 (s:Schs) (x:Sch):Int:=
 if q21 x=false then 1 else if x.s.op=7∧q5k x.s.name=false then 7 else if x.s.op=14∧(lkM s x.s.name).2=false then 7 else if qqn (x.p.map fun p=>p.1.key)=true then 8 else 0
def q2G (x:Sch):List (List UInt8):=x.p.map fun p=>p.1.key
theorem qhM (s:Schs) (name:List UInt8) (hs:s.bulk≤2^24):q0k CS 457 [q2P s,.str name] (.tup [q03 (if (lkM s name).2=true then q6n (2^24) (lkM s name).1 else zeroX),.bool (lkM s name).2]):=by
 have hd:=Schs.dlen hs
 obtain ⟨hd,hd2⟩:=hd
 refine q04 qlE rfl ?_
 rw[q19]
 (repeat' first|simp (disch:=omega) only[go_sem,qlE,enter,Ka]|(apply spl<;>intro h<;>try simp (disch:=omega) only[go_sem,h]))
 refine q07 (α:=Nat) (fun k=>{ tmps:=q0q 24 [(1,.str name),(4,.ptr 15 0 0 0),(9,.tsl 16 (s.defs.map q2j)),(10,.int .i64 s.defs.length),(11,.int .i64 k)],heap:=[.row 15 [qfj] false true 0],base:=0 }) (fun k=>k≤s.defs.length∧(s.defs.take k).any (fun d=>d.1 == name)=false) (fun k=>s.defs.length-k) 0 rfl ⟨Kp _,rfl⟩ ?_
 rintro k ⟨hk,ha⟩
 by_cases hlt:k<s.defs.length
 ·obtain ⟨d,hdk⟩:=q06 hlt
  have hdm:=Kc hdk
  have hde:=q0c (g:=q2j) hdk
  have hr:=qhE (2^24) d.2 (by have:=(hd2 d hdm).1; omega) (Ko _)
  rw[q4v] at hde
  cases hb:d.1 == name with
  | true=>
   have hf:=qpD hdk ha hb
   have hl:lkM s name=(d.2,true):=by unfold lkM; rw[hf]
   rw[hl,if_pos rfl]
   rw[q02 (q6n _ _)] at hr ⊢
   rw[q02] at hr
   (repeat' first|simp (disch:=omega) only[go_sem,hde,hb,Ka,qfj]|refine q00 _ (hr) ?_)
  | false=>
   (repeat' first|simp (disch:=omega) only[go_sem,hde,hb,Ka,qfj]|(apply spl<;>intro h<;>try simp (disch:=omega) only[go_sem,h]))
   all_goals try omega
   exact ⟨k+1,rfl,⟨hlt,qbV hdk ha hb⟩,by omega⟩
 ·rw[q1j hlt hk] at ha
  have hf:=ql2 ha
  have hl:lkM s name=(zeroX,false):=by unfold lkM; rw[hf]
  rw[hl,if_neg (by simp),q3g]
  (repeat' first|simp (disch:=omega) only[go_sem,Ka,qfj])
def q1U (l:List (List UInt8)):List (AV × AV):=l.map fun x=>(.str x,.int .i64 1)
theorem qbI (l:List (List UInt8)):qqx (.map (q1U l)):=qgf fun x hx=>by
 unfold q1U at hx
 obtain ⟨y,_,rfl⟩:=KQ.1 hx
 exact ⟨qcz y,q0z _ _⟩
theorem q2w (k:List UInt8) : ∀ (l:List (List UInt8)) (i:Nat),((l.any fun x=>x == k)=false→findKey (.one .str) (.str k) (q1U l) i=some none)∧((l.any fun x=>x == k)=true→∃ j,findKey (.one .str) (.str k) (q1U l) i=some (some (i+j,.int .i64 1))∧findKey (.one .str) (.str k) ((q1U l).set j (.str k,.int .i64 2)) i=some (some (i+j,.int .i64 2)))
 | [],i=>⟨fun _=>rfl,fun h=>by simp at h⟩
 | x::l,i=>by
  obtain ⟨h1,h2⟩:=q2w k l (i+1)
  by_cases he:x=k
  ·subst he
   refine ⟨fun h=>by simp at h,fun _=>⟨0,?_,?_⟩⟩<;>simp [q1U,findKey,q4U,q3X]
  ·have e1:(x == k)=false:=by simpa using he
   have e2:(k == x)=false:=by simpa using fun e=>he e.symm
   have e:findKey (.one .str) (.str k) (q1U (x::l)) i=findKey (.one .str) (.str k) (q1U l) (i+1):=by
    simp [q1U,findKey,q4U,q3X,e2]
   rw[e,List.any_cons,e1,VU]
   refine ⟨h1,fun h=>?_⟩
   obtain ⟨j,g1,g2⟩:=h2 h
   refine ⟨j+1,?_,?_⟩
   ·rw[g1,show i+1+j=i+(j+1) by omega]
   ·have e3:findKey (.one .str) (.str k) ((q1U (x::l)).set (j+1) (.str k,.int .i64 2)) i=findKey (.one .str) (.str k) ((q1U l).set j (.str k,.int .i64 2)) (i+1):=by
     simp [q1U,findKey,q4U,q3X,e2]
    rw[e3,g2,show i+1+j=i+(j+1) by omega]
end Ago
set_option maxRecDepth 100000
set_option maxHeartbeats 16000000
namespace Ago
open Go (IntKind)
theorem q9e (x:Sch):(q2G x).length=x.p.length:=Ka ..
theorem q8Z {x:Sch} {k:Nat} {y:PK × Sch} (hy:x.p[k]?=some y):(q2G x)[k]?=some y.1.key:=q0c (g:=fun p:PK × Sch=>p.1.key) hy
theorem qeP {l:List (List UInt8)} {k:Nat} (h:l.length≤k) (hd:qqn l=qdt (l.take k) (l.drop k)):qqn l=false:=by
 rw[hd,KU h]
 rfl
theorem qnL (s:Schs) (x:Sch) (hs:s.bulk≤2^24) (hx:x.bulk≤2^24):q0k CS 513 [q2P s,q03 x] (.int .i64 (q65 s x)):=by
 have L:=Sch.lens (N:=2^24) hx
 have l3:=L.props
 have hkn:q65 s x=if q21 x=false then 1 else if x.s.op=7∧q5k x.s.name=false then 7 else if x.s.op=14∧(lkM s x.s.name).2=false then 7 else if qqn (q2G x)=true then 8 else 0:=rfl
 have hf:=qmO x hx
 have hk:=qkO x.s.name
 have hl:=qhM s x.s.name hs
 refine q04 qbL rfl ?_
 rw[q02 (ite _ _ _)] at hl
 rw[q19] at hl ⊢
 cases hb:q21 x
 ·rw[hb] at hf
  rw[hkn,if_pos hb]
  rw[q02] at hf ⊢
  (repeat' first|simp (disch:=omega) only[go_sem,qbL,enter]|refine q00 _ (hf) ?_)
 rw[hb] at hf
 rw[if_neg (by rw[hb]; simp)] at hkn
 rw[q02 x] at hf ⊢
 by_cases c7:x.s.op=7∧q5k x.s.name=false
 ·rw[hkn,if_pos c7]
  obtain ⟨c7,c7'⟩:=c7
  rw[c7'] at hk
  (repeat' first|simp (disch:=omega) only[go_sem,qbL,enter]|refine q00 _ (hf) ?_|refine q00 _ (hk) ?_)
 rw[if_neg c7] at hkn
 by_cases c14:x.s.op=14∧(lkM s x.s.name).2=false
 ·rw[hkn,if_pos c14]
  obtain ⟨c14,c14'⟩:=c14
  rw[c14'] at hl
  (repeat' first|simp (disch:=omega) only[go_sem,qbL,enter]|refine q00 _ (hf) ?_|refine q00 _ (hk) ?_|refine q00 _ (hl) ?_)
 rw[if_neg c14] at hkn
 rw[hkn]
 have hkk:x.s.op=7→q5k x.s.name=true:=fun h=>by
  cases q:q5k x.s.name with
  | true=>rfl
  | false=>exact (c7 ⟨h,q⟩).elim
 have hll:x.s.op=14→(lkM s x.s.name).2=true:=fun h=>by
  cases q:(lkM s x.s.name).2 with
  | true=>rfl
  | false=>exact (c14 ⟨h,q⟩).elim
 by_cases h7:x.s.op=7
 ·rw[hkk h7] at hk
  (repeat' first|simp (disch:=omega) only[go_sem,qbL,enter,Ka]|refine q00 _ (hf) ?_|refine q00 _ (hk) ?_|refine q00 _ (hl) ?_|(apply spl<;>intro h<;>try simp (disch:=omega) only[go_sem,h]))
  refine q07 (α:=Nat) (fun k=>{ tmps:=q0q 55 [(7,.mref 0),(38,.tsl 17 (x.p.map q0i)),(39,.int .i64 x.p.length),(40,.int .i64 k)],heap:=[.map (q1U ((q2G x).take k))],base:=0 }) (fun k=>k≤x.p.length∧qqn (q2G x)=qdt ((q2G x).take k) ((q2G x).drop k)) (fun k=>x.p.length-k) 0 (by first | rfl | (simp only[Ka]; rfl)) ⟨Kp _,rfl⟩ ?_
  rintro k ⟨hk,hd⟩
  by_cases hlt:k<x.p.length
  ·obtain ⟨y,hy⟩:=q06 hlt
   have hy2:=q0c (g:=q0i) hy
   have hy3:=q8Z hy
   rw[q0o] at hy2
   rw[qbK hy3] at hd
   obtain ⟨f1,f2⟩:=q2w y.1.key ((q2G x).take k) 0
   cases hc:((q2G x).take k).any (fun z=>z == y.1.key) with
   | true=>
    obtain ⟨j,g1,g2⟩:=f2 hc
    rw[Vo] at g1 g2
    rw[hc,Bool.true_or] at hd
    rw[hd,if_pos rfl]
    (repeat' first|simp (disch:=omega) only[go_sem,hy2,Ka,g1,g2])
   | false=>
    have g1:=f1 hc
    rw[hc,VU] at hd
    have e:q1U ((q2G x).take k)++[(.str y.1.key,.int .i64 1)]=q1U ((q2G x).take (k+1)):=by
     rw[KG,hy3]
     simp [q1U]
    obtain ⟨j,g2,_⟩:=(q2w y.1.key ((q2G x).take (k+1)) 0).2 (by rw[KG,hy3]; simp)
    (repeat' first|simp (disch:=omega) only[go_sem,hy2,Ka,g1,e,g2]|(apply spl<;>intro h<;>try simp (disch:=omega) only[go_sem,h]))
    all_goals first | omega | skip
    exact ⟨k+1,(q6Q (.cons (qbI _) (.cons (q87 _ _ _) .nil))).trans rfl,⟨hlt,hd⟩,by omega⟩
  ·rw[qeP (by rw[q9e]; omega) hd,if_neg (by simp)]
   (repeat' first|simp (disch:=omega) only[go_sem,Ka])
 ·by_cases h14:x.s.op=14
  ·rw[hll h14] at hl
   (repeat' first|simp (disch:=omega) only[go_sem,qbL,enter,Ka]|refine q00 _ (hf) ?_|refine q00 _ (hk) ?_|refine q00 _ (hl) ?_|(apply spl<;>intro h<;>try simp (disch:=omega) only[go_sem,h]))
   refine q07 (α:=Nat) (fun k=>{ tmps:=q0q 55 [(7,.mref 0),(38,.tsl 17 (x.p.map q0i)),(39,.int .i64 x.p.length),(40,.int .i64 k)],heap:=[.map (q1U ((q2G x).take k))],base:=0 }) (fun k=>k≤x.p.length∧qqn (q2G x)=qdt ((q2G x).take k) ((q2G x).drop k)) (fun k=>x.p.length-k) 0 (by first | rfl | (simp only[Ka]; rfl)) ⟨Kp _,rfl⟩ ?_
   rintro k ⟨hk,hd⟩
   by_cases hlt:k<x.p.length
   ·obtain ⟨y,hy⟩:=q06 hlt
    have hy2:=q0c (g:=q0i) hy
    have hy3:=q8Z hy
    rw[q0o] at hy2
    rw[qbK hy3] at hd
    obtain ⟨f1,f2⟩:=q2w y.1.key ((q2G x).take k) 0
    cases hc:((q2G x).take k).any (fun z=>z == y.1.key) with
    | true=>
     obtain ⟨j,g1,g2⟩:=f2 hc
     rw[Vo] at g1 g2
     rw[hc,Bool.true_or] at hd
     rw[hd,if_pos rfl]
     (repeat' first|simp (disch:=omega) only[go_sem,hy2,Ka,g1,g2])
    | false=>
     have g1:=f1 hc
     rw[hc,VU] at hd
     have e:q1U ((q2G x).take k)++[(.str y.1.key,.int .i64 1)]=q1U ((q2G x).take (k+1)):=by
      rw[KG,hy3]
      simp [q1U]
     obtain ⟨j,g2,_⟩:=(q2w y.1.key ((q2G x).take (k+1)) 0).2 (by rw[KG,hy3]; simp)
     (repeat' first|simp (disch:=omega) only[go_sem,hy2,Ka,g1,e,g2]|(apply spl<;>intro h<;>try simp (disch:=omega) only[go_sem,h]))
     all_goals first | omega | skip
     exact ⟨k+1,(q6Q (.cons (qbI _) (.cons (q87 _ _ _) .nil))).trans rfl,⟨hlt,hd⟩,by omega⟩
   ·rw[qeP (by rw[q9e]; omega) hd,if_neg (by simp)]
    (repeat' first|simp (disch:=omega) only[go_sem,Ka])
  ·(repeat' first|simp (disch:=omega) only[go_sem,qbL,enter,Ka]|refine q00 _ (hf) ?_|refine q00 _ (hk) ?_|refine q00 _ (hl) ?_|(apply spl<;>intro h<;>try simp (disch:=omega) only[go_sem,h]))
   refine q07 (α:=Nat) (fun k=>{ tmps:=q0q 55 [(7,.mref 0),(38,.tsl 17 (x.p.map q0i)),(39,.int .i64 x.p.length),(40,.int .i64 k)],heap:=[.map (q1U ((q2G x).take k))],base:=0 }) (fun k=>k≤x.p.length∧qqn (q2G x)=qdt ((q2G x).take k) ((q2G x).drop k)) (fun k=>x.p.length-k) 0 (by first | rfl | (simp only[Ka]; rfl)) ⟨Kp _,rfl⟩ ?_
   rintro k ⟨hk,hd⟩
   by_cases hlt:k<x.p.length
   ·obtain ⟨y,hy⟩:=q06 hlt
    have hy2:=q0c (g:=q0i) hy
    have hy3:=q8Z hy
    rw[q0o] at hy2
    rw[qbK hy3] at hd
    obtain ⟨f1,f2⟩:=q2w y.1.key ((q2G x).take k) 0
    cases hc:((q2G x).take k).any (fun z=>z == y.1.key) with
    | true=>
     obtain ⟨j,g1,g2⟩:=f2 hc
     rw[Vo] at g1 g2
     rw[hc,Bool.true_or] at hd
     rw[hd,if_pos rfl]
     (repeat' first|simp (disch:=omega) only[go_sem,hy2,Ka,g1,g2])
    | false=>
     have g1:=f1 hc
     rw[hc,VU] at hd
     have e:q1U ((q2G x).take k)++[(.str y.1.key,.int .i64 1)]=q1U ((q2G x).take (k+1)):=by
      rw[KG,hy3]
      simp [q1U]
     obtain ⟨j,g2,_⟩:=(q2w y.1.key ((q2G x).take (k+1)) 0).2 (by rw[KG,hy3]; simp)
     (repeat' first|simp (disch:=omega) only[go_sem,hy2,Ka,g1,e,g2]|(apply spl<;>intro h<;>try simp (disch:=omega) only[go_sem,h]))
     all_goals first | omega | skip
     exact ⟨k+1,(q6Q (.cons (qbI _) (.cons (q87 _ _ _) .nil))).trans rfl,⟨hlt,hd⟩,by omega⟩
   ·rw[qeP (by rw[q9e]; omega) hd,if_neg (by simp)]
    (repeat' first|simp (disch:=omega) only[go_sem,Ka])
end Ago
set_option maxRecDepth 100000
set_option maxHeartbeats 16000000
namespace Ago
open Go (IntKind)
def q5Z:List Int→Int
 | []=>0
 | e::l=>if e=0 then q5Z l else e
theorem qcA {α:Type} {f:α→Int} : ∀ {l:List α} {k:Nat} {y:α},l[k]?=some y→(l.take k).all (fun z=>f z == 0)=true→f y≠0→q5Z (l.map f)=f y
 | [],_,_,h,_,_=>by simp at h
 | z::l,0,y,h,_,he=>by
  simp at h
  subst h
  simp [q5Z,he]
 | z::l,k+1,y,h,ha,he=>by
  simp only[List.take_succ_cons,K7,Kd,beq_iff_eq] at ha
  simp only[Km,q5Z]
  rw[if_pos ha.1]
  exact qcA (by simpa using h) ha.2 he
theorem q8T {α:Type} {f:α→Int} : ∀ {l:List α},l.all (fun z=>f z == 0)=true→q5Z (l.map f)=0
 | [],_=>rfl
 | z::l,ha=>by
  simp only[K7,Kd,beq_iff_eq] at ha
  simp only[Km,q5Z]
  rw[if_pos ha.1]
  exact q8T ha.2
def q15 (s:Schs):Nat→Sch→Int
 | 0,_=>0
 | d+1,x=>if q65 s x=0 then q5Z (x.kids.map (q15 s d)) else q65 s x
theorem qeI (s:Schs) (x:Sch):q15 s 0 x=0:=(rfl)
theorem q62 (s:Schs) (d:Nat) (x:Sch):q15 s (d+1) x=if q65 s x=0 then q5Z (x.kids.map (q15 s d)) else q65 s x:=(rfl)
def q3c:Nat→Sch→Bool
 | 0,_=>true
 | d+1,x=>x.kids.any (q3c d)
theorem q7a (x:Sch):q3c 0 x=true:=(rfl)
theorem q77 (d:Nat) (x:Sch):q3c (d+1) x=x.kids.any (q3c d):=(rfl)
theorem qfg (s:Schs) (hs:s.bulk≤2^24) : ∀ (d:Nat) (D:Int),D=49-d→d≤48→∀ x:Sch,x.bulk≤2^24→q0k CS 486 [q2P s,q03 x,.int .i64 D] (.tup [.bool (decide (q15 s d x=0) && q3c d x),.int .i64 (q15 s d x)]):=by
 intro d
 induction d with
 | zero=>
  intro D hD hd x hx
  refine q04 qei rfl ?_
  rw[q02,qeI,q7a,q19]
  (repeat' first|simp (disch:=omega) only[go_sem,qei,enter,Ka]|(apply spl<;>intro h<;>try simp (disch:=omega) only[go_sem,h]))
  all_goals omega
 | succ d ih=>
  intro D hD hd x hx
  have hn:=qnL s x hs hx
  have hp:=qd8 x hx
  have hkl:=q5A x
  rw[q62,q77]
  refine q04 qei rfl ?_
  have hse:=q19 s
  rw[q02] at hp hn ⊢
  rw[q19] at hn ⊢
  by_cases he:q65 s x=0
  ·rw[if_pos he]
   rw[he] at hn
   (repeat' first|simp (disch:=omega) only[go_sem,qei,enter,Ka]|refine q00 _ (hn) ?_|refine q00 _ (hp) ?_|(apply spl<;>intro h<;>try simp (disch:=omega) only[go_sem,h]))
   all_goals try omega
   refine q07 (α:=Nat) (fun k=>{ tmps:=q0q 46 [(2,.int .i64 D),(3,.ptr 16 0 0 0),(9,.bool ((x.kids.take k).any (q3c d))),(23,.tsl 15 (x.kids.map q03)),(24,.int .i64 x.kids.length),(25,.int .i64 k)],heap:=[.row 16 [q2P s] false true 0],base:=0 }) (fun k=>k≤x.kids.length∧(x.kids.take k).all (fun z=>q15 s d z == 0)=true) (fun k=>x.kids.length-k) 0 (by rw[q19]; rfl) ⟨Kp _,rfl⟩ ?_
   rintro k ⟨hk,ha⟩
   rw[q19]
   by_cases hlt:k<x.kids.length
   ·obtain ⟨y,hy⟩:=q06 hlt
    have hym:=Kc hy
    have hy2:=q0c (g:=q03) hy
    have hr:=ih (D+1) (by omega) (by omega) y (by have:=Sch.kids_bulk hym; omega)
    rw[q02] at hy2 hr
    rw[q19] at hr
    by_cases hc:q15 s d y=0
    ·rw[hc,decide_eq_true rfl,KH] at hr
     have hany:(x.kids.take (k+1)).any (q3c d)=((x.kids.take k).any (q3c d) || q3c d y):=by
      rw[KG,hy]
      simp
     cases hb:(x.kids.take k).any (q3c d)
     ·rw[hb,VU] at hany
      (repeat' first|simp (disch:=omega) only[go_sem,hy2,Ka]|refine q00 _ (hr) ?_|(apply spl<;>intro h<;>try simp (disch:=omega) only[go_sem,h]))
      all_goals try omega
      refine ⟨k+1,?_,⟨hlt,q0M hy ha (by simp [hc])⟩,by omega⟩
      simp only[hany]
      first | rfl | (rw[hse]; rfl)
     ·rw[hb,Bool.true_or] at hany
      (repeat' first|simp (disch:=omega) only[go_sem,hy2,Ka]|refine q00 _ (hr) ?_|(apply spl<;>intro h<;>try simp (disch:=omega) only[go_sem,h]))
      all_goals try omega
      refine ⟨k+1,?_,⟨hlt,q0M hy ha (by simp [hc])⟩,by omega⟩
      simp only[hany]
      first | rfl | (rw[hse]; rfl)
    ·rw[qcA hy ha hc,decide_eq_false hc,K2]
     (repeat' first|simp (disch:=omega) only[go_sem,hy2,Ka]|refine q00 _ (hr) ?_|(apply spl<;>intro h<;>try simp (disch:=omega) only[go_sem,h]))
     all_goals omega
   ·rw[q1j hlt hk] at ha ⊢
    rw[q8T ha,decide_eq_true rfl,KH]
    (repeat' first|simp (disch:=omega) only[go_sem,Ka]|(apply spl<;>intro h<;>try simp (disch:=omega) only[go_sem,h]))
  ·rw[if_neg he,decide_eq_false he,K2]
   (repeat' first|simp (disch:=omega) only[go_sem,qei,enter,Ka]|refine q00 _ (hn) ?_|refine q00 _ (hp) ?_|(apply spl<;>intro h<;>try simp (disch:=omega) only[go_sem,h]))
   all_goals omega
end Ago
set_option maxRecDepth 100000
set_option maxHeartbeats 16000000
namespace Ago
open Go (IntKind)
def q7h (n:List UInt8):Bool:=decide (1≤n.length∧n.length≤64) && utf n
def q9Z (s:Schs):List (List UInt8 × Sch)→List (List UInt8 × Sch)→Int
 | _,[]=>0
 | pre,d::l=>if q7h d.1=false then 1 else if (pre.any fun e=>e.1 == d.1)=true then 8 else if q15 s 48 d.2=0 then q9Z s (pre++[d]) l else q15 s 48 d.2
theorem qhS {s:Schs} {k:Nat} {d:List UInt8 × Sch} (hd:s.defs[k]?=some d):q9Z s (s.defs.take k) (s.defs.drop k)=if q7h d.1=false then 1 else if ((s.defs.take k).any fun e=>e.1 == d.1)=true then 8 else if q15 s 48 d.2=0 then q9Z s (s.defs.take (k+1)) (s.defs.drop (k+1)) else q15 s 48 d.2:=by
 rw[q8S hd]
 have:s.defs.take (k+1)=s.defs.take k++[d]:=by rw[KG,hd]; rfl
 rw[this]
 rfl
theorem qkW {s:Schs} {k:Nat} (h:s.defs.length≤k):q9Z s (s.defs.take k) (s.defs.drop k)=0:=by
 rw[KU h]
 rfl
def qfe (l:List (List UInt8 × Sch)):Nat:=(l.map fun d=>q7E 48 d.2).sum
def q71 (l:List (List UInt8 × Sch)):Bool:=l.any fun d=>q3c 48 d.2
def q5l (s:Schs) (g:Bool):Int:=
 if q9Z s [] s.defs=0 then
  (if q15 s 48 s.root=0 then
   (if (q71 s.defs || q3c 48 s.root)=true then 9 else if 1024<qfe s.defs+q7E 48 s.root∨64<s.defs.length then 10 else if g=false then 23 else 0)
  else q15 s 48 s.root)
 else q9Z s [] s.defs
theorem ql4 {s:Schs} {k:Nat} {d:List UInt8 × Sch} (hd:s.defs[k]?=some d):qfe (s.defs.take (k+1))=qfe (s.defs.take k)+q7E 48 d.2:=q6P _ _ _ _ hd
theorem qgC {s:Schs} {k:Nat} {d:List UInt8 × Sch} (hd:s.defs[k]?=some d):q71 (s.defs.take (k+1))=(q71 (s.defs.take k) || q3c 48 d.2):=by
 unfold q71
 rw[KG,hd]
 simp
theorem qqf (s:Schs) (k:Nat):qfe (s.defs.take k)+q7E 48 s.root≤s.bulk:=by
 have h1:qfe (s.defs.take k)≤qfe s.defs:=q3R _ _ _
 have h2:qfe s.defs≤AV.bulks (s.defs.map q2j):=by
  unfold qfe
  have : ∀ l:List (List UInt8 × Sch),(l.map fun d=>q7E 48 d.2).sum≤AV.bulks (l.map q2j):=by
   intro l
   induction l with
   | nil=>simp
   | cons d l ih=>
    have:=q7N 48 d.2
    have:=q9w d
    simp only[Km,List.sum_cons,AV.bulks]
    omega
  exact this _
 have:=q7N 48 s.root
 have:=s.bulk_eq
 omega
def qdU (s:Schs) (b:Bool) (n:Int):Heap:=[.row 16 [q2P s] false true 0,.row 1 [.bool b] false true 1,.row 1 [.int .i64 n] false true 2]
theorem qni (s:Schs) (hs:s.bulk≤2^24) (x:Sch) (hx:x.bulk≤2^24) (b:Bool) (n:Int) (hn:0≤n) (hn2:n≤2^40):q1u CS 485 [q03 x,.ptr 16 0 0 0,.ptr 1 1 0 0,.ptr 1 2 0 0] (qdU s b n) (.int .i64 (q15 s 48 x)) (qdU s (b || (decide (q15 s 48 x=0) && q3c 48 x)) (n+q7E 48 x)):=by
 have h1:=qfg s hs 48 1 rfl (by decide) x hx
 have h2:=qfE x hx
 have hc:=q7N 48 x
 refine q1o qdy rfl ?_
 unfold qdU
 rw[q02] at h1 h2 ⊢
 rw[q19] at h1 ⊢
 obtain ⟨m,hm⟩ : ∃ m,(decide (q15 s 48 x=0) && q3c 48 x)=m:=⟨_,rfl⟩
 rw[hm] at h1 ⊢
 cases b
 ·rw[VU]
  (repeat' first|simp (disch:=omega) only[go_sem,qdy,enter]|refine q00 _ (h1) ?_|refine q00 _ (h2) ?_|(apply spl<;>intro h<;>try simp (disch:=omega) only[go_sem,h]))
  exact q2d (.inr rfl) (.int .i64 (q15 s 48 x)) rfl rfl rfl
 ·rw[Bool.true_or]
  (repeat' first|simp (disch:=omega) only[go_sem,qdy,enter]|refine q00 _ (h1) ?_|refine q00 _ (h2) ?_|(apply spl<;>intro h<;>try simp (disch:=omega) only[go_sem,h]))
  exact q2d (.inr rfl) (.int .i64 (q15 s 48 x)) rfl rfl rfl
theorem qny (s:Schs) (hs:s.bulk≤2^24) (x:Sch) (hx:x.bulk≤2^24) (b:Bool) (n:Int) (hn:0≤n) (hn2:n≤2^40) (d:AV):q1u CS 485 [q03 x,.ptr 16 0 0 0,.ptr 1 1 0 0,.ptr 1 2 0 0] (qdU s b n++[.row 16 [d] false true 3]) (.int .i64 (q15 s 48 x)) (qdU s (b || (decide (q15 s 48 x=0) && q3c 48 x)) (n+q7E 48 x)++[.row 16 [d] false true 3]):=by
 have h1:=qfg s hs 48 1 rfl (by decide) x hx
 have h2:=qfE x hx
 have hc:=q7N 48 x
 refine q1o qdy rfl ?_
 unfold qdU
 rw[q02] at h1 h2 ⊢
 rw[q19] at h1 ⊢
 obtain ⟨m,hm⟩ : ∃ m,(decide (q15 s 48 x=0) && q3c 48 x)=m:=⟨_,rfl⟩
 rw[hm] at h1 ⊢
 cases b
 ·rw[VU]
  (repeat' first|simp (disch:=omega) only[go_sem,qdy,enter]|refine q00 _ (h1) ?_|refine q00 _ (h2) ?_|(apply spl<;>intro h<;>try simp (disch:=omega) only[go_sem,h]))
  exact q2d (.inr rfl) (.int .i64 (q15 s 48 x)) rfl rfl rfl
 ·rw[Bool.true_or]
  (repeat' first|simp (disch:=omega) only[go_sem,qdy,enter]|refine q00 _ (h1) ?_|refine q00 _ (h2) ?_|(apply spl<;>intro h<;>try simp (disch:=omega) only[go_sem,h]))
  exact q2d (.inr rfl) (.int .i64 (q15 s 48 x)) rfl rfl rfl
end Ago
set_option maxRecDepth 100000
set_option maxHeartbeats 16000000
namespace Ago
open Go (IntKind)
theorem qgt {n:List UInt8} (h : ¬ (1≤n.length∧n.length≤64)∨utf n=false):q7h n=false:=by
 unfold q7h
 rcases h with h | h
 ·rw[decide_eq_false h]; rfl
 ·rw[h,Vq]
theorem qd1 (s:Schs) (hs:s.bulk≤2^24) (w:List UInt8) (g:Bool) (hg:q0k CS 459 [q2P s] (.tup [.str w,.bool g])):q0k CS 454 [q2P s] (.int .i64 (q5l s g)):=by
 obtain ⟨hd1,hd2⟩:=Schs.dlen hs
 have hrb:s.root.bulk≤2^24:=by
  have:=s.bulk_eq
  omega
 have hse:=q19 s
 refine q04 qoi rfl ?_
 rw[q19] at hg ⊢
 (repeat' first|simp (disch:=omega) only[go_sem,qoi,enter,Ka]|(apply spl<;>intro h<;>try simp (disch:=omega) only[go_sem,h]))
 refine q07 (α:=Nat) (fun k=>{ tmps:=q0q 85 [(1,.ptr 16 0 0 0),(3,.ptr 1 1 0 0),(4,.ptr 1 2 0 0),(5,.fn 485 [.ptr 16 0 0 0,.ptr 1 1 0 0,.ptr 1 2 0 0]),(16,.tsl 16 (s.defs.map q2j)),(17,.int .i64 s.defs.length),(18,.int .i64 k)],heap:=qdU s (q71 (s.defs.take k)) (qfe (s.defs.take k):Nat),base:=0 }) (fun k=>k≤s.defs.length∧q9Z s [] s.defs=q9Z s (s.defs.take k) (s.defs.drop k)) (fun k=>s.defs.length-k) 0 (by unfold qdU; rw[hse]; rfl) ⟨Kp _,rfl⟩ ?_
 rintro k ⟨hk,he⟩
 have hsm:=qqf s k
 by_cases hlt:k<s.defs.length
 ·obtain ⟨d,hdk⟩:=q06 hlt
  have hdm:=Kc hdk
  have hde:=q0c (g:=q2j) hdk
  obtain ⟨hdb,hdn⟩:=hd2 d hdm
  rw[qhS hdk] at he
  have hu:=upS (q8h d.1 (by omega))
  rw[q4v] at hde
  by_cases c1:1≤d.1.length∧d.1.length≤64
  case neg=>
   rw[if_pos (qgt (.inl c1))] at he
   have hR:q5l s g=1:=by unfold q5l; rw[he]; rfl
   rw[hR]
   unfold qdU
   rw[hse]
   (repeat' first|simp (disch:=omega) only[go_sem,hde,Ka]|refine q00 _ (hu) ?_|(apply spl<;>intro h<;>try simp (disch:=omega) only[go_sem,h]))
   all_goals omega
  cases c2:utf d.1
  case false=>
   rw[if_pos (qgt (.inr c2))] at he
   have hR:q5l s g=1:=by unfold q5l; rw[he]; rfl
   rw[hR]
   rw[c2] at hu
   unfold qdU
   rw[hse]
   (repeat' first|simp (disch:=omega) only[go_sem,hde,Ka]|refine q00 _ (hu) ?_)
   all_goals omega
  rw[c2] at hu
  have hnm:q7h d.1=true:=by unfold q7h; rw[decide_eq_true c1,c2]; rfl
  rw[if_neg (by rw[hnm]; simp)] at he
  have hlk:((s.defs.map q2j).take k).length=k:=by rw[Vi,Ka]; omega
  have hR : ∃ r,q5l s g=r:=⟨_,rfl⟩
  unfold qdU
  rw[hse]
  (repeat' first|simp (disch:=omega) only[go_sem,hde,Ka,hlk]|refine q00 _ (hu) ?_|(apply spl<;>intro h<;>try simp (disch:=omega) only[go_sem,h]))
  all_goals try omega
  refine q07 (α:=Nat) (fun j=>{ tmps:=q0q 85 [(1,.ptr 16 0 0 0),(3,.ptr 1 1 0 0),(4,.ptr 1 2 0 0),(5,.fn 485 [.ptr 16 0 0 0,.ptr 1 1 0 0,.ptr 1 2 0 0]),(7,.ptr 16 3 0 0),(16,.tsl 16 (s.defs.map q2j)),(17,.int .i64 s.defs.length),(18,.int .i64 k),(42,.tsl 16 ((s.defs.map q2j).take k)),(43,.int .i64 k),(44,.int .i64 j)],heap:=qdU s (q71 (s.defs.take k)) (qfe (s.defs.take k):Nat)++[.row 16 [q2j d] false true 3],base:=0 }) (fun j=>j≤k∧((s.defs.take k).take j).any (fun e=>e.1 == d.1)=false) (fun j=>k-j) 0 (by unfold qdU; rw[hse,q4v]; rfl) ⟨Kp _,rfl⟩ ?_
  rintro j ⟨hj,haj⟩
  have hkl:(s.defs.take k).length=k:=by rw[Vi]; omega
  by_cases hjl:j<k
  ·obtain ⟨e,hej⟩ : ∃ e,(s.defs.take k)[j]?=some e:=q06 (by omega)
   have hee:((s.defs.map q2j).take k)[j]?=some (q2j e):=by
    rw[←List.map_take]
    exact q0c hej
   rw[q4v] at hee
   unfold qdU
   rw[hse,q4v d]
   cases hb:e.1 == d.1 with
   | true=>
    rw[if_pos (qpa hej hb)] at he
    have hR:q5l s g=8:=by unfold q5l; rw[he]; rfl
    rw[hR]
    (repeat' first|simp (disch:=omega) only[go_sem,hee,hlk,hb,Ka])
   | false=>
    (repeat' first|simp (disch:=omega) only[go_sem,hee,hlk,hb,Ka]|(apply spl<;>intro h<;>try simp (disch:=omega) only[go_sem,h]))
    all_goals try omega
    refine ⟨j+1,?_,⟨hjl,qbV hej haj hb⟩,by omega⟩
    first | rfl | (rw[hse]; rfl)
  ·rw[q1j (by omega) (by omega)] at haj
   rw[if_neg (by rw[haj]; simp)] at he
   have hone:=qny s hs d.2 (by omega) (q71 (s.defs.take k)) (qfe (s.defs.take k):Nat) (by omega) (by omega) (q2j d)
   unfold qdU at hone ⊢
   rw[hse,q4v d] at hone ⊢
   rw[q02] at hone
   simp only[Kr,Kv] at hone
   by_cases hz:q15 s 48 d.2=0
   ·rw[if_pos hz] at he
    rw[hz,decide_eq_true rfl,KH,←qgC hdk,←Int.natCast_add,←ql4 hdk] at hone
    (repeat' first|simp (disch:=omega) only[go_sem,hlk,Ka]|(refine q0f _ _ hone ?_)|(apply spl<;>intro h<;>try simp (disch:=omega) only[go_sem,h]))
    all_goals try omega
    refine ⟨k+1,?_,⟨hlt,he⟩,by omega⟩
    first | rfl | (rw[hse]; rfl)
   ·rw[if_neg hz] at he
    have hR:q5l s g=q15 s 48 d.2:=by unfold q5l; rw[he,if_neg hz]
    rw[hR]
    (repeat' first|simp (disch:=omega) only[go_sem,hlk,Ka]|(refine q0f _ _ hone ?_))
    all_goals omega
 ·have hk2:k=s.defs.length:=by omega
  subst hk2
  rw[qkW (Ko _)] at he
  rw[Kz] at hsm ⊢
  have hone:=qni s hs s.root hrb (q71 s.defs) (qfe s.defs:Nat) (by omega) (by omega)
  unfold qdU at hone ⊢
  rw[hse] at hone ⊢
  rw[q02] at hone
  have hR:q5l s g=if q15 s 48 s.root=0 then (if (q71 s.defs || q3c 48 s.root)=true then 9 else if 1024<qfe s.defs+q7E 48 s.root∨64<s.defs.length then 10 else if g=false then 23 else 0) else q15 s 48 s.root:=by
   unfold q5l
   rw[he]
   rfl
  rw[hR]
  by_cases hz:q15 s 48 s.root=0
  ·rw[if_pos hz]
   rw[hz,decide_eq_true rfl,KH] at hone
   cases hdp:(q71 s.defs || q3c 48 s.root)
   ·rw[hdp] at hone
    rw[if_neg (by simp)]
    by_cases hsz:1024<qfe s.defs+q7E 48 s.root∨64<s.defs.length
    ·rw[if_pos hsz]
     (repeat' first|simp (disch:=omega) only[go_sem,Ka]|refine q00 _ (hg) ?_|(refine q0f _ _ hone ?_)|(apply spl<;>intro h<;>try simp (disch:=omega) only[go_sem,h]))
     all_goals omega
    ·rw[if_neg hsz]
     cases g
     ·rw[if_pos rfl]
      (repeat' first|simp (disch:=omega) only[go_sem,Ka]|refine q00 _ (hg) ?_|(refine q0f _ _ hone ?_))
      all_goals omega
     ·rw[if_neg (by simp)]
      (repeat' first|simp (disch:=omega) only[go_sem,Ka]|refine q00 _ (hg) ?_|(refine q0f _ _ hone ?_))
      all_goals omega
   ·rw[hdp] at hone
    rw[if_pos rfl]
    (repeat' first|simp (disch:=omega) only[go_sem,Ka]|refine q00 _ (hg) ?_|(refine q0f _ _ hone ?_))
    all_goals omega
  ·rw[if_neg hz]
   (repeat' first|simp (disch:=omega) only[go_sem,Ka]|refine q00 _ (hg) ?_|(refine q0f _ _ hone ?_))
   all_goals omega
end Ago
