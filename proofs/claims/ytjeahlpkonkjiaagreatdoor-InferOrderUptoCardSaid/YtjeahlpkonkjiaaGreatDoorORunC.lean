/- Copies of patterns and schemas; Lookup. -/
import Derived.Test.YtjeahlpkonkjiaaGreatDoorORunY
import Derived.Test.YtjeahlpkonkjiaaGreatDoorORunG
set_option linter.unusedSimpArgs false
set_option linter.unusedVariables false
set_option maxRecDepth 100000
set_option maxHeartbeats 8000000
namespace Ago
open Go (IntKind)
theorem q8Y {f n b:Nat} (h:qf7 f=some (n,b)) (hb:b≤232) (H:Heap) (y:AV) (l:List AV) (hl:l.length<2^24):q1u CS f [.tsl n (y::l)] H (.sref n (H.length+1) 0 (l.length+1)) (H++[.gone,.row n (y::l) false true (H.length+1)]):=by
 refine .prim (Or.inl ⟨(n,b),_,h,rfl,?_⟩)
 have:(l.length+1) * b≤2^24 * 232:=Nat.mul_le_mul (by omega) hb
 simp [q3a,Heap.elems,Heap.append,lim,q3x,Heap.flatOf]
 omega
theorem q7o {f n b:Nat} (h:qf7 f=some (n,b)) (H:Heap):q1u CS f [.tsl n []] H (.snil n) (H++[.gone]):=by
 refine .prim (Or.inl ⟨(n,b),_,h,rfl,?_⟩)
 simp [q3a,Heap.elems,Heap.append,lim,q3x]
def qfz {α:Type} (f g:α→AV) (l:List α) (k:Nat):List AV:=(l.take k).map g++(l.drop k).map f
section
variable {α:Type} {f g:α→AV} {l:List α}
theorem q7z (k:Nat):(qfz f g l k).length=l.length:=by
 simp [qfz]
 omega
theorem qb2:qfz f g l 0=l.map f:=by simp [qfz]
theorem qeO {k:Nat} (h:l.length≤k):qfz f g l k=l.map g:=by
 unfold qfz
 rw[KJ h,KU h]
 simp
theorem qeM {k:Nat} {y:α} (h:l[k]?=some y):(qfz f g l k)[k]?=some (f y):=by
 obtain ⟨h1,h2⟩:=Ky.1 h
 unfold qfz
 rw[VB (by simp; omega)]
 have:k-((l.take k).map g).length=0:=by simp; omega
 rw[this,q8S h]
 rfl
theorem qfa {k:Nat} {y:α} (h:l[k]?=some y):(qfz f g l k).set k (g y)=qfz f g l (k+1):=by
 obtain ⟨h1,h2⟩:=Ky.1 h
 unfold qfz
 rw[q8S h,KG,h]
 have e:((l.take k).map g).length=k:=by simp; omega
 rw[List.set_append_right _ _ (by omega),e]
 simp
end
theorem qdz (p:Pat):1≤p.bulk:=by
 have:=p.bulk_eq
 omega
def qij:AV:=.agg [.int .i64 0,.int .i64 0,.int .i64 0,.int .i64 0,.int .i64 0,.snil 6]
theorem qcq : ∀ (n:Nat) (p:Pat),p.bulk≤n→n≤2^24→q0k CS 517 [q0G p] (q0G p):=by
 intro n
 induction n with
 | zero=>
  intro p h1 h2
  have:=qdz p
  omega
 | succ n ih=>
  intro p h1 h2
  have L:=Pat.lens (p:=p) (N:=2^24) (by omega)
  have hal:=L.args
  refine q04 qki rfl ?_
  rw[q0r]
  by_cases ha:p.a=[]
  ·rw[ha,Kx]
   (repeat' first|simp (disch:=omega) only[go_sem,qki,enter]|(refine q0f _ _ (q7o (b:=64) rfl _) ?_)|(apply spl<;>intro h<;>try simp (disch:=omega) only[go_sem,h]))
   refine q07 (α:=Unit) (fun _=>{ tmps:=q0q 26 [(1,.ptr 6 0 0 0),(2,.ptr 6 1 0 0),(10,.int .i64 0),(11,.int .i64 0)],heap:=[.row 6 [.agg [.int .i64 p.s.op,.int .i64 p.s.lo,.int .i64 p.s.hi,.int .i64 p.s.min,.int .i64 p.s.max,.snil 6]] false true 0,.row 6 [qij] false true 1],base:=0 }) (fun _=>True) (fun _=>0) () rfl trivial ?_
   intro _ _
   (repeat' first|simp (disch:=omega) only[go_sem,qij]|(apply spl<;>intro h<;>try simp (disch:=omega) only[go_sem,h]))
  ·obtain ⟨z,zs,hz⟩ : ∃ z zs,p.a.map q0G=z::zs:=by
    cases h:p.a with
    | nil=>exact (ha h).elim
    | cons a b=>exact ⟨_,_,rfl⟩
   have hzl:zs.length+1=p.a.length:=by
    have:=congrArg List.length hz
    simp at this
    omega
   rw[hz]
   (repeat' first|simp (disch:=omega) only[go_sem,qki,enter]|(refine q0f _ _ (q8Y (b:=64) rfl (by decide) _ _ _ (by omega)) ?_)|(apply spl<;>intro h<;>try simp (disch:=omega) only[go_sem,h]))
   refine q07 (α:=Nat) (fun k=>{ tmps:=q0q 26 [(1,.ptr 6 0 0 0),(2,.ptr 6 2 0 0),(10,.int .i64 (zs.length+1)),(11,.int .i64 k)],heap:=[.row 6 [.agg [.int .i64 p.s.op,.int .i64 p.s.lo,.int .i64 p.s.hi,.int .i64 p.s.min,.int .i64 p.s.max,.sref 6 1 0 (zs.length+1)]] false false 0,.row 6 (z::zs) false true 1,.row 6 [qij] false true 2],base:=0 }) (fun k=>k≤p.a.length) (fun k=>p.a.length-k) 0 rfl (Kp _) ?_
   intro k hk
   by_cases hlt:k<p.a.length
   ·obtain ⟨y,hy⟩:=q06 hlt
    have hym:=Kc hy
    have hy2:=q0c (g:=q0G) hy
    have hr:=ih y (by have:=L.kids y hym; omega) (by omega)
    have hst:(z::zs).set k (q0G y)=z::zs:=by
     rw[←hz]
     obtain ⟨q1,q2⟩:=Ky.1 hy2
     rw[←q2]
     exact List.set_getElem_self q1
    rw[hz] at hy2
    rw[q0r] at hy2 hr hst
    (repeat' first|simp (disch:=omega) only[go_sem,hy2,hst,qij]|refine q00 _ (hr) ?_|(apply spl<;>intro h<;>try simp (disch:=omega) only[go_sem,h]))
    all_goals first | omega | skip
    refine ⟨k+1,?_,hlt,by omega⟩
    rfl
   ·(repeat' first|simp (disch:=omega) only[go_sem,qij,Kz]|(apply spl<;>intro h<;>try simp (disch:=omega) only[go_sem,h]))
    all_goals first | omega | skip

def qdm:Nat→List (Nat × Bool × List AV)→List AV × Heap
 | _,[]=>([],[])
 | b,(n,true,_)::l=>(.snil n::(qdm b l).1,(qdm b l).2)
 | b,(n,false,els)::l=>(.sref n b 0 els.length::(qdm (b+1) l).1,.row n els false true b::(qdm (b+1) l).2)
theorem q2r (b:Nat):qdm b []=([],[]):=(rfl)
theorem q53 (b n:Nat) (e:List AV) (l:List (Nat × Bool × List AV)):qdm b ((n,true,e)::l)=(.snil n::(qdm b l).1,(qdm b l).2):=(rfl)
theorem q4Z (b n:Nat) (e:List AV) (l:List (Nat × Bool × List AV)):qdm b ((n,false,e)::l)=(.sref n b 0 e.length::(qdm (b+1) l).1,.row n e false true b::(qdm (b+1) l).2):=(rfl)
def qe5:AV:=.agg [.int .i64 0,.int .i64 0,.int .i64 0,.int .i64 0,.str [],.snil 11,.int .i64 0,.int .i64 0,.int .i64 0,.int .i64 0,.int .i64 0,.snil 6,.snil 13,.snil 17,.snil 15]
def q2N (x:Sch) (p v q a:AV):List AV:=[.int .i64 x.s.op,.int .i64 x.s.mask,.int .i64 x.s.min,.int .i64 x.s.max,.str x.s.name,p,.int .i64 x.s.pat.s.op,.int .i64 x.s.pat.s.lo,.int .i64 x.s.pat.s.hi,.int .i64 x.s.pat.s.min,.int .i64 x.s.pat.s.max,.tsl 6 (x.s.pat.a.map q0G),v,q,a]
def q6n:Nat→Sch→Sch
 | 0,x=>x
 | n+1,x=>.mk { x.s with vals:=x.s.vals.map (qc0 65536) } (x.p.map fun k=>(k.1,q6n n k.2)) (x.a.map (q6n n))
def clX (n:Nat) (x:Sch):AV:=q03 (q6n n x)
def qm5 (n:Nat) (k:PK × Sch):AV:=q0i (k.1,q6n n k.2)
theorem quK (n:Nat) (k:PK × Sch):qm5 n k = .agg (.str k.1.key :: .bool k.1.req::(clX n k.2).cells):=(rfl)
theorem qme (n:Nat) (x:Sch):q03 (q6n (n+1) x) = .agg (q2N x (.tsl 11 (x.s.parts.map q0m)) (.tsl 13 (x.s.vals.map (qa0 65536))) (.tsl 17 (x.p.map (qm5 n))) (.tsl 15 (x.a.map (clX n)))):=by
 rw[q02]
 simp only[q6n,Sch.s,Sch.p,Sch.a,Vv]
 rfl
def qmG (t:List (Nat × AV)) (pre:List (Nat × Bool × List AV)) (cells:List AV→List AV):St:=
 { tmps:=q0q 82 ([(1,.ptr 15 0 0 0),(2,.ptr 15 ((qdm 1 pre).2.length+1) 0 0)]++t),heap:=.row 15 [.agg (cells (qdm 1 pre).1)] false (pre.all fun p=>p.2.1) 0::(qdm 1 pre).2++[.row 15 [qe5] false true ((qdm 1 pre).2.length+1)],base:=0 }
end Ago
set_option maxRecDepth 100000
set_option maxHeartbeats 32000000
namespace Ago
open Go (IntKind)
theorem q5t {α:Type} (f:α→AV) (l:List α):(l.map f=[]∧(l.map f).isEmpty=true∧l.length=0)∨∃ z zs,l.map f=z::zs∧(l.map f).isEmpty=false∧l.length=zs.length+1:=by
 cases l with
 | nil=>exact .inl ⟨rfl,rfl,rfl⟩
 | cons z zs=>exact .inr ⟨f z,zs.map f,rfl,rfl,by simp⟩
theorem qhE : ∀ (n:Nat) (x:Sch),x.bulk≤n→n≤2^24→q0k CS 490 [q03 x] (q03 (q6n n x)):=by
 intro n
 induction n with
 | zero=>
  intro x h1 h2
  have:1≤x.bulk:=q1B _
  omega
 | succ n ih=>
  intro x h1 h2
  have L:=Sch.lens (v:=x) (N:=2^24) (by omega)
  have l1:=L.parts
  have l2:=L.vals
  have l3:=L.props
  have l4:=L.args
  have hpat:=qcq (2^24) x.s.pat (by have:=L.pat; omega) (Ko _)
  have tv:(x.s.vals.map (qa0 65536)).take x.s.vals.length=x.s.vals.map (qa0 65536):=KJ (by simp)
  have tq:(x.p.map (qm5 n)).take x.p.length=x.p.map (qm5 n):=KJ (by simp)
  have ta:(x.a.map (clX n)).take x.a.length=x.a.map (clX n):=KJ (by simp)
  have c1:=fun (H:Heap) (z:AV) (zs:List AV) (h:zs.length<2^24)=>q8Y (f:=216) (n:=11) (b:=104) rfl (by decide) H z zs h
  have c2:=fun (H:Heap) (z:AV) (zs:List AV) (h:zs.length<2^24)=>q8Y (f:=518) (n:=13) (b:=168) rfl (by decide) H z zs h
  have c3:=fun (H:Heap) (z:AV) (zs:List AV) (h:zs.length<2^24)=>q8Y (f:=519) (n:=17) (b:=232) rfl (by decide) H z zs h
  have c4:=fun (H:Heap) (z:AV) (zs:List AV) (h:zs.length<2^24)=>q8Y (f:=520) (n:=15) (b:=208) rfl (by decide) H z zs h
  have d1:=fun (H:Heap)=>q7o (f:=216) (n:=11) (b:=104) rfl H
  have d2:=fun (H:Heap)=>q7o (f:=518) (n:=13) (b:=168) rfl H
  have d3:=fun (H:Heap)=>q7o (f:=519) (n:=17) (b:=232) rfl H
  have d4:=fun (H:Heap)=>q7o (f:=520) (n:=15) (b:=208) rfl H
  have ml1:(x.s.parts.map q0m).length=x.s.parts.length:=Ka ..
  have ml2:(x.s.vals.map q0u).length=x.s.vals.length:=Ka ..
  have ml3:(x.p.map q0i).length=x.p.length:=Ka ..
  have ml4:(x.a.map q03).length=x.a.length:=Ka ..
  rw[q0r] at hpat
  rw[qme]
  unfold q2N
  refine q04 qmk rfl ?_
  rw[q02]
  rcases q5t q0m x.s.parts with ⟨hp,ep,np⟩ | ⟨p0,ps,hp,ep,np⟩<;>rcases q5t q0u x.s.vals with ⟨hv,ev,nv⟩ | ⟨v0,vs,hv,ev,nv⟩
  all_goals
   rw[hp,hv]
   (repeat' first|simp (disch:=omega) only[go_sem,qmk,enter]|refine q00 _ (hpat) ?_|(refine q0f _ _ (d1 _) ?_)|(refine q0f _ _ (d2 _) ?_)|(refine q0f _ _ (c1 _ _ _ (by omega)) ?_)|(refine q0f _ _ (c2 _ _ _ (by omega)) ?_)|(apply spl<;>intro h<;>try simp (disch:=omega) only[go_sem,h]))
   refine q07 (α:=Nat) (fun k=>qmG [(22,.int .i64 x.s.vals.length),(23,.int .i64 k)] [(11,(x.s.parts.map q0m).isEmpty,x.s.parts.map q0m),(13,(x.s.vals.map q0u).isEmpty,qfz q0u (qa0 65536) x.s.vals k)] fun c=>q2N x (c.getD 0 .dead) (c.getD 1 .dead) (.tsl 17 (x.p.map q0i)) (.tsl 15 (x.a.map q03))) (fun k=>k≤x.s.vals.length) (fun k=>x.s.vals.length-k) 0 (by
    simp only[qmG,qb2,hp,hv,KA,Ku,q2r,q53,q4Z,Kb,Kg,nv]
    rfl) (Kp _) ?_
   intro k hk
   simp only[qmG,q2N,hp,ev,KA,Ku,q2r,q53,q4Z,q7z,Kb,Kg,VH,VI,K7,VV,VG,Vq,KH,Kr,Kv]
   by_cases hlt:k<x.s.vals.length
   ·first
     | (exfalso; omega)
     | (
      obtain ⟨y,hy⟩:=q06 hlt
      have hym:=Kc hy
      have hy2:=qeM (f:=q0u) (g:=qa0 65536) hy
      have hst:=qfa (f:=q0u) (g:=qa0 65536) hy
      have hr:q0k CS 26 [q0u y] (qa0 65536 y):=upS (qev y (by have:=L.val y hym; omega))
      rw[q8G] at hr hst
      rw[q08] at hy2 hr
      (repeat' first|simp (disch:=omega) only[go_sem,hy2,hst,q7z,qe5]|refine q00 _ (hr) ?_|(apply spl<;>intro h<;>try simp (disch:=omega) only[go_sem,h]))
      all_goals first | omega | skip
      exact ⟨k+1,rfl,hlt,by omega⟩)
   ·have hk2:k=x.s.vals.length:=by omega
    subst hk2
    try rw[qeO (Ko _)]
    rcases q5t q0i x.p with ⟨hq,eq,nq⟩ | ⟨q0,qs,hq,eq,nq⟩
    all_goals
     rw[hq]
     (repeat' first|simp (disch:=omega) only[go_sem,qe5]|(refine q0f _ _ (d3 _) ?_)|(refine q0f _ _ (c3 _ _ _ (by omega)) ?_)|(apply spl<;>intro h<;>try simp (disch:=omega) only[go_sem,h]))
     refine q07 (α:=Nat) (fun k=>qmG [(43,.int .i64 x.p.length),(44,.int .i64 k)] [(11,(x.s.parts.map q0m).isEmpty,x.s.parts.map q0m),(13,(x.s.vals.map q0u).isEmpty,x.s.vals.map (qa0 65536)),(17,(x.p.map q0i).isEmpty,qfz q0i (qm5 n) x.p k)] fun c=>q2N x (c.getD 0 .dead) (c.getD 1 .dead) (c.getD 2 .dead) (.tsl 15 (x.a.map q03))) (fun k=>k≤x.p.length) (fun k=>x.p.length-k) 0 (by
      simp only[qmG,qb2,hp,ev,hq,KA,Ku,q2r,q53,q4Z,Kb,Kg,Ka,nq]
      rfl) (Kp _) ?_
     clear hlt hk
     intro k hk
     simp only[qmG,q2N,eq,hp,ep,ev,KA,Ku,q2r,q53,q4Z,q7z,Kb,Kg,Ka,VH,VI,K7,VV,VG,Vq,KH,K2,Kr,Kv]
     by_cases hlt:k<x.p.length
     ·first
       | (exfalso; omega)
       | (
        obtain ⟨y,hy⟩:=q06 hlt
        have hym:=Kc hy
        have hy2:=qeM (f:=q0i) (g:=qm5 n) hy
        have hst:=qfa (f:=q0i) (g:=qm5 n) hy
        have hr:q0k CS 490 [q03 y.2] (clX n y.2):=ih y.2 (by have:=(L.pkids y hym).1; omega) (by omega)
        rw[quK] at hst
        obtain ⟨cs,hcs⟩ : ∃ cs,clX n y.2=q03 cs:=⟨_,rfl⟩
        rw[hcs,q02] at hst hr
        simp only[AV.cells] at hst
        rw[q0o] at hy2
        rw[q02] at hr
        (repeat' first|simp (disch:=omega) only[go_sem,hy2,hst,q7z,qe5]|refine q00 _ (hr) ?_|(apply spl<;>intro h<;>try simp (disch:=omega) only[go_sem,h]))
        all_goals first | omega | skip
        exact ⟨k+1,rfl,hlt,by omega⟩)
     ·have hk2:k=x.p.length:=by omega
      subst hk2
      try rw[qeO (Ko _)]
      rcases q5t q03 x.a with ⟨ha,ea,na⟩ | ⟨a0,as_,ha,ea,na⟩
      all_goals
       rw[ha]
       (repeat' first|simp (disch:=omega) only[go_sem,qe5]|(refine q0f _ _ (d4 _) ?_)|(refine q0f _ _ (c4 _ _ _ (by omega)) ?_)|(apply spl<;>intro h<;>try simp (disch:=omega) only[go_sem,h]))
       refine q07 (α:=Nat) (fun k=>qmG [(66,.int .i64 x.a.length),(67,.int .i64 k)] [(11,(x.s.parts.map q0m).isEmpty,x.s.parts.map q0m),(13,(x.s.vals.map q0u).isEmpty,x.s.vals.map (qa0 65536)),(17,(x.p.map q0i).isEmpty,x.p.map (qm5 n)),(15,(x.a.map q03).isEmpty,qfz q03 (clX n) x.a k)] fun c=>q2N x (c.getD 0 .dead) (c.getD 1 .dead) (c.getD 2 .dead) (c.getD 3 .dead)) (fun k=>k≤x.a.length) (fun k=>x.a.length-k) 0 (by
        simp only[qmG,qb2,hp,ev,eq,ha,KA,Ku,q2r,q53,q4Z,Kb,Kg,Ka,na]
        rfl) (Kp _) ?_
       clear hlt hk
       intro k hk
       simp only[qmG,q2N,eq,ea,hp,ep,ev,KA,Ku,q2r,q53,q4Z,q7z,Kb,Kg,Ka,VH,VI,K7,VV,VG,Vq,KH,K2,Kr,Kv]
       by_cases hlt:k<x.a.length
       ·first
         | (exfalso; omega)
         | (
          obtain ⟨y,hy⟩:=q06 hlt
          have hym:=Kc hy
          have hy2:=qeM (f:=q03) (g:=clX n) hy
          have hst:=qfa (f:=q03) (g:=clX n) hy
          have hr:q0k CS 490 [q03 y] (clX n y):=ih y (by have:=L.kids y hym; omega) (by omega)
          obtain ⟨cs,hcs⟩ : ∃ cs,clX n y=q03 cs:=⟨_,rfl⟩
          rw[hcs,q02] at hst hr
          rw[q02] at hy2 hr
          (repeat' first|simp (disch:=omega) only[go_sem,hy2,hst,q7z,qe5]|refine q00 _ (hr) ?_|(apply spl<;>intro h<;>try simp (disch:=omega) only[go_sem,h]))
          all_goals first | omega | skip
          exact ⟨k+1,rfl,hlt,by omega⟩)
       ·have hk2:k=x.a.length:=by omega
        subst hk2
        try rw[qeO (Ko _)]
        try rw[show x.s.vals.map (qa0 65536)=[] from List.map_eq_nil_iff.2 (KX.1 (by omega))]
        try rw[show x.p.map (qm5 n)=[] from List.map_eq_nil_iff.2 (KX.1 (by omega))]
        try rw[show x.a.map (clX n)=[] from List.map_eq_nil_iff.2 (KX.1 (by omega))]
        (repeat' first|simp (disch:=omega) only[go_sem,qe5,tv,tq,ta,Kz,Ka]|(apply spl<;>intro h<;>try simp (disch:=omega) only[go_sem,h]))
def zeroX:Sch:=.mk ⟨0,0,0,0,[],[],.mk ⟨0,0,0,0,0⟩ [],[]⟩ [] []
theorem q3g:q03 zeroX = .agg [.int .i64 0,.int .i64 0,.int .i64 0,.int .i64 0,.str [],.tsl 11 [],.int .i64 0,.int .i64 0,.int .i64 0,.int .i64 0,.int .i64 0,.tsl 6 [],.tsl 13 [],.tsl 17 [],.tsl 15 []]:=by
 rw[q02]
 rfl
end Ago
