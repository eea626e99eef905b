/- Copies of patterns and schemas; Lookup. -/
import Derived.Test.YtahoajoopdphhaaGreatDoorRunY
import Derived.Test.YtahoajoopdphhaaGreatDoorRunG
set_option linter.unusedSimpArgs false
set_option linter.unusedVariables false
set_option maxRecDepth 100000
set_option maxHeartbeats 8000000
namespace Ago
open Go (IntKind)
theorem qdZ {f n b:Nat} (h:qiW f=some (n,b)) (hb:b≤232) (H:Heap) (y:AV) (l:List AV) (hl:l.length<2^24):q1z CS f [.tsl n (y::l)] H (.sref n (H.length+1) 0 (l.length+1)) (H++[.gone,.row n (y::l) false true (H.length+1)]):=by
 refine .prim (Or.inl ⟨(n,b),_,h,rfl,?_⟩)
 have:(l.length+1) * b≤2^24 * 232:=Nat.mul_le_mul (by omega) hb
 simp [q2D,Heap.elems,Heap.append,lim,q3t,Heap.flatOf]
 omega
theorem q9w {f n b:Nat} (h:qiW f=some (n,b)) (H:Heap):q1z CS f [.tsl n []] H (.snil n) (H++[.gone]):=by
 refine .prim (Or.inl ⟨(n,b),_,h,rfl,?_⟩)
 simp [q2D,Heap.elems,Heap.append,lim,q3t]
def qgt {α:Type} (f g:α→AV) (l:List α) (k:Nat):List AV:=(l.take k).map g++(l.drop k).map f
section
variable {α:Type} {f g:α→AV} {l:List α}
theorem q8k (k:Nat):(qgt f g l k).length=l.length:=by
 simp [qgt]
 omega
theorem qdd:qgt f g l 0=l.map f:=by simp [qgt]
theorem qfi {k:Nat} (h:l.length≤k):qgt f g l k=l.map g:=by
 unfold qgt
 rw[Kz h,KX h]
 simp
theorem qf3 {k:Nat} {y:α} (h:l[k]?=some y):(qgt f g l k)[k]?=some (f y):=by
 obtain ⟨h1,h2⟩:=Ks.1 h
 unfold qgt
 rw[KJ (by simp; omega)]
 have:k-((l.take k).map g).length=0:=by simp; omega
 rw[this,qiE h]
 rfl
theorem qfw {k:Nat} {y:α} (h:l[k]?=some y):(qgt f g l k).set k (g y)=qgt f g l (k+1):=by
 obtain ⟨h1,h2⟩:=Ks.1 h
 unfold qgt
 rw[qiE h,KD,h]
 have e:((l.take k).map g).length=k:=by simp; omega
 rw[List.set_append_right _ _ (by omega),e]
 simp
end
theorem qe6 (p:Pat):1≤p.bulk:=by
 have:=p.bulk_eq
 omega
def qjX:AV:=.agg [.int .i64 0,.int .i64 0,.int .i64 0,.int .i64 0,.int .i64 0,.snil 6]
theorem qeK : ∀ (n:Nat) (p:Pat),p.bulk≤n→n≤2^24→q0m CS 517 [q04 p] (q04 p):=by
 intro n
 induction n with
 | zero=>
  intro p h1 h2
  have:=qe6 p
  omega
 | succ n ih=>
  intro p h1 h2
  have L:=Pat.lens (p:=p) (N:=2^24) (by omega)
  have hal:=L.args
  refine q05 qlf rfl ?_
  rw[q0e]
  by_cases ha:p.a=[]
  ·rw[ha,Kl]
   (repeat' first|simp (disch:=omega) only[go_sem,qlf,enter]|(refine q0b _ _ (q9w (b:=64) rfl _) ?_)|(apply spl<;>intro h<;>try simp (disch:=omega) only[go_sem,h]))
   refine q0a (α:=Unit) (fun _=>{ tmps:=q0i 26 [(1,.ptr 6 0 0 0),(2,.ptr 6 1 0 0),(10,.int .i64 0),(11,.int .i64 0)],heap:=[.row 6 [.agg [.int .i64 p.s.op,.int .i64 p.s.lo,.int .i64 p.s.hi,.int .i64 p.s.min,.int .i64 p.s.max,.snil 6]] false true 0,.row 6 [qjX] false true 1],base:=0 }) (fun _=>True) (fun _=>0) () rfl trivial ?_
   intro _ _
   (repeat' first|simp (disch:=omega) only[go_sem,qjX]|(apply spl<;>intro h<;>try simp (disch:=omega) only[go_sem,h]))
  ·obtain ⟨z,zs,hz⟩ : ∃ z zs,p.a.map q04=z::zs:=by
    cases h:p.a with
    | nil=>exact (ha h).elim
    | cons a b=>exact ⟨_,_,rfl⟩
   have hzl:zs.length+1=p.a.length:=by
    have:=congrArg List.length hz
    simp at this
    omega
   rw[hz]
   (repeat' first|simp (disch:=omega) only[go_sem,qlf,enter]|(refine q0b _ _ (qdZ (b:=64) rfl (by decide) _ _ _ (by omega)) ?_)|(apply spl<;>intro h<;>try simp (disch:=omega) only[go_sem,h]))
   refine q0a (α:=Nat) (fun k=>{ tmps:=q0i 26 [(1,.ptr 6 0 0 0),(2,.ptr 6 2 0 0),(10,.int .i64 (zs.length+1)),(11,.int .i64 k)],heap:=[.row 6 [.agg [.int .i64 p.s.op,.int .i64 p.s.lo,.int .i64 p.s.hi,.int .i64 p.s.min,.int .i64 p.s.max,.sref 6 1 0 (zs.length+1)]] false false 0,.row 6 (z::zs) false true 1,.row 6 [qjX] false true 2],base:=0 }) (fun k=>k≤p.a.length) (fun k=>p.a.length-k) 0 rfl (Kn _) ?_
   intro k hk
   by_cases hlt:k<p.a.length
   ·obtain ⟨y,hy⟩:=q08 hlt
    have hym:=Kc hy
    have hy2:=q0d (g:=q04) hy
    have hr:=ih y (by have:=L.kids y hym; omega) (by omega)
    have hst:(z::zs).set k (q04 y)=z::zs:=by
     rw[←hz]
     obtain ⟨q1,q2⟩:=Ks.1 hy2
     rw[←q2]
     exact List.set_getElem_self q1
    rw[hz] at hy2
    rw[q0e] at hy2 hr hst
    (repeat' first|simp (disch:=omega) only[go_sem,hy2,hst,qjX]|refine q00 _ (hr) ?_|(apply spl<;>intro h<;>try simp (disch:=omega) only[go_sem,h]))
    all_goals first | omega | skip
    refine ⟨k+1,?_,hlt,by omega⟩
    rfl
   ·(repeat' first|simp (disch:=omega) only[go_sem,qjX,Ky]|(apply spl<;>intro h<;>try simp (disch:=omega) only[go_sem,h]))
    all_goals first | omega | skip

def qf7:Nat→List (Nat × Bool × List AV)→List AV × Heap
 | _,[]=>([],[])
 | b,(n,true,_)::l=>(.snil n::(qf7 b l).1,(qf7 b l).2)
 | b,(n,false,els)::l=>(.sref n b 0 els.length::(qf7 (b+1) l).1,.row n els false true b::(qf7 (b+1) l).2)
theorem q65 (b:Nat):qf7 b []=([],[]):=(rfl)
theorem qbP (b n:Nat) (e:List AV) (l:List (Nat × Bool × List AV)):qf7 b ((n,true,e)::l)=(.snil n::(qf7 b l).1,(qf7 b l).2):=(rfl)
theorem qbB (b n:Nat) (e:List AV) (l:List (Nat × Bool × List AV)):qf7 b ((n,false,e)::l)=(.sref n b 0 e.length::(qf7 (b+1) l).1,.row n e false true b::(qf7 (b+1) l).2):=(rfl)
def qfq:AV:=.agg [.int .i64 0,.int .i64 0,.int .i64 0,.int .i64 0,.str [],.snil 11,.int .i64 0,.int .i64 0,.int .i64 0,.int .i64 0,.int .i64 0,.snil 6,.snil 13,.snil 17,.snil 15]
def q5E (x:Sch) (p v q a:AV):List AV:=[.int .i64 x.s.op,.int .i64 x.s.mask,.int .i64 x.s.min,.int .i64 x.s.max,.str x.s.name,p,.int .i64 x.s.pat.s.op,.int .i64 x.s.pat.s.lo,.int .i64 x.s.pat.s.hi,.int .i64 x.s.pat.s.min,.int .i64 x.s.pat.s.max,.tsl 6 (x.s.pat.a.map q04),v,q,a]
def q7L:Nat→Sch→Sch
 | 0,x=>x
 | n+1,x=>.mk { x.s with vals:=x.s.vals.map (qbU 65536) } (x.p.map fun k=>(k.1,q7L n k.2)) (x.a.map (q7L n))
def clX (n:Nat) (x:Sch):AV:=q06 (q7L n x)
def qnA (n:Nat) (k:PK × Sch):AV:=q1k (k.1,q7L n k.2)
theorem qsg (n:Nat) (k:PK × Sch):qnA n k = .agg (.str k.1.key :: .bool k.1.req::(clX n k.2).cells):=(rfl)
theorem qm5 (n:Nat) (x:Sch):q06 (q7L (n+1) x) = .agg (q5E x (.tsl 11 (x.s.parts.map q0p)) (.tsl 13 (x.s.vals.map (qbd 65536))) (.tsl 17 (x.p.map (qnA n))) (.tsl 15 (x.a.map (clX n)))):=by
 rw[q02]
 simp only[q7L,Sch.s,Sch.p,Sch.a,Vn]
 rfl
def qnr (t:List (Nat × AV)) (pre:List (Nat × Bool × List AV)) (cells:List AV→List AV):St:=
 { tmps:=q0i 82 ([(1,.ptr 15 0 0 0),(2,.ptr 15 ((qf7 1 pre).2.length+1) 0 0)]++t),heap:=.row 15 [.agg (cells (qf7 1 pre).1)] false (pre.all fun p=>p.2.1) 0::(qf7 1 pre).2++[.row 15 [qfq] false true ((qf7 1 pre).2.length+1)],base:=0 }
end Ago
set_option maxRecDepth 100000
set_option maxHeartbeats 32000000
namespace Ago
open Go (IntKind)
theorem q7A {α:Type} (f:α→AV) (l:List α):(l.map f=[]∧(l.map f).isEmpty=true∧l.length=0)∨∃ z zs,l.map f=z::zs∧(l.map f).isEmpty=false∧l.length=zs.length+1:=by
 cases l with
 | nil=>exact .inl ⟨rfl,rfl,rfl⟩
 | cons z zs=>exact .inr ⟨f z,zs.map f,rfl,rfl,by simp⟩
theorem qhX : ∀ (n:Nat) (x:Sch),x.bulk≤n→n≤2^24→q0m CS 490 [q06 x] (q06 (q7L n x)):=by
 intro n
 induction n with
 | zero=>
  intro x h1 h2
  have:1≤x.bulk:=q46 _
  omega
 | succ n ih=>
  intro x h1 h2
  have L:=Sch.lens (v:=x) (N:=2^24) (by omega)
  have l1:=L.parts
  have l2:=L.vals
  have l3:=L.props
  have l4:=L.args
  have hpat:=qeK (2^24) x.s.pat (by have:=L.pat; omega) (Kr _)
  have tv:(x.s.vals.map (qbd 65536)).take x.s.vals.length=x.s.vals.map (qbd 65536):=Kz (by simp)
  have tq:(x.p.map (qnA n)).take x.p.length=x.p.map (qnA n):=Kz (by simp)
  have ta:(x.a.map (clX n)).take x.a.length=x.a.map (clX n):=Kz (by simp)
  have c1:=fun (H:Heap) (z:AV) (zs:List AV) (h:zs.length<2^24)=>qdZ (f:=216) (n:=11) (b:=104) rfl (by decide) H z zs h
  have c2:=fun (H:Heap) (z:AV) (zs:List AV) (h:zs.length<2^24)=>qdZ (f:=518) (n:=13) (b:=168) rfl (by decide) H z zs h
  have c3:=fun (H:Heap) (z:AV) (zs:List AV) (h:zs.length<2^24)=>qdZ (f:=519) (n:=17) (b:=232) rfl (by decide) H z zs h
  have c4:=fun (H:Heap) (z:AV) (zs:List AV) (h:zs.length<2^24)=>qdZ (f:=520) (n:=15) (b:=208) rfl (by decide) H z zs h
  have d1:=fun (H:Heap)=>q9w (f:=216) (n:=11) (b:=104) rfl H
  have d2:=fun (H:Heap)=>q9w (f:=518) (n:=13) (b:=168) rfl H
  have d3:=fun (H:Heap)=>q9w (f:=519) (n:=17) (b:=232) rfl H
  have d4:=fun (H:Heap)=>q9w (f:=520) (n:=15) (b:=208) rfl H
  have ml1:(x.s.parts.map q0p).length=x.s.parts.length:=Ka ..
  have ml2:(x.s.vals.map q0g).length=x.s.vals.length:=Ka ..
  have ml3:(x.p.map q1k).length=x.p.length:=Ka ..
  have ml4:(x.a.map q06).length=x.a.length:=Ka ..
  rw[q0e] at hpat
  rw[qm5]
  unfold q5E
  refine q05 qo5 rfl ?_
  rw[q02]
  rcases q7A q0p x.s.parts with ⟨hp,ep,np⟩ | ⟨p0,ps,hp,ep,np⟩<;>rcases q7A q0g x.s.vals with ⟨hv,ev,nv⟩ | ⟨v0,vs,hv,ev,nv⟩
  all_goals
   rw[hp,hv]
   (repeat' first|simp (disch:=omega) only[go_sem,qo5,enter]|refine q00 _ (hpat) ?_|(refine q0b _ _ (d1 _) ?_)|(refine q0b _ _ (d2 _) ?_)|(refine q0b _ _ (c1 _ _ _ (by omega)) ?_)|(refine q0b _ _ (c2 _ _ _ (by omega)) ?_)|(apply spl<;>intro h<;>try simp (disch:=omega) only[go_sem,h]))
   refine q0a (α:=Nat) (fun k=>qnr [(22,.int .i64 x.s.vals.length),(23,.int .i64 k)] [(11,(x.s.parts.map q0p).isEmpty,x.s.parts.map q0p),(13,(x.s.vals.map q0g).isEmpty,qgt q0g (qbd 65536) x.s.vals k)] fun c=>q5E x (c.getD 0 .dead) (c.getD 1 .dead) (.tsl 17 (x.p.map q1k)) (.tsl 15 (x.a.map q06))) (fun k=>k≤x.s.vals.length) (fun k=>x.s.vals.length-k) 0 (by
    simp only[qnr,qdd,hp,hv,K9,KO,q65,qbP,qbB,List.length_cons,List.length_nil,nv]
    rfl) (Kn _) ?_
   intro k hk
   simp only[qnr,q5E,hp,ev,K9,KO,q65,qbP,qbB,q8k,List.length_cons,List.length_nil,Vx,Vr,Vy,List.all_nil,Bool.and_true,Wa,Vt,Kf,Kh]
   by_cases hlt:k<x.s.vals.length
   ·first
     | (exfalso; omega)
     | (
      obtain ⟨y,hy⟩:=q08 hlt
      have hym:=Kc hy
      have hy2:=qf3 (f:=q0g) (g:=qbd 65536) hy
      have hst:=qfw (f:=q0g) (g:=qbd 65536) hy
      have hr:q0m CS 26 [q0g y] (qbd 65536 y):=upS (q9Q y (by have:=L.val y hym; omega))
      rw[q9M] at hr hst
      rw[q07] at hy2 hr
      (repeat' first|simp (disch:=omega) only[go_sem,hy2,hst,q8k,qfq]|refine q00 _ (hr) ?_|(apply spl<;>intro h<;>try simp (disch:=omega) only[go_sem,h]))
      all_goals first | omega | skip
      exact ⟨k+1,rfl,hlt,by omega⟩)
   ·have hk2:k=x.s.vals.length:=by omega
    subst hk2
    try rw[qfi (Kr _)]
    rcases q7A q1k x.p with ⟨hq,eq,nq⟩ | ⟨q0,qs,hq,eq,nq⟩
    all_goals
     rw[hq]
     (repeat' first|simp (disch:=omega) only[go_sem,qfq]|(refine q0b _ _ (d3 _) ?_)|(refine q0b _ _ (c3 _ _ _ (by omega)) ?_)|(apply spl<;>intro h<;>try simp (disch:=omega) only[go_sem,h]))
     refine q0a (α:=Nat) (fun k=>qnr [(43,.int .i64 x.p.length),(44,.int .i64 k)] [(11,(x.s.parts.map q0p).isEmpty,x.s.parts.map q0p),(13,(x.s.vals.map q0g).isEmpty,x.s.vals.map (qbd 65536)),(17,(x.p.map q1k).isEmpty,qgt q1k (qnA n) x.p k)] fun c=>q5E x (c.getD 0 .dead) (c.getD 1 .dead) (c.getD 2 .dead) (.tsl 15 (x.a.map q06))) (fun k=>k≤x.p.length) (fun k=>x.p.length-k) 0 (by
      simp only[qnr,qdd,hp,ev,hq,K9,KO,q65,qbP,qbB,List.length_cons,List.length_nil,Ka,nq]
      rfl) (Kn _) ?_
     clear hlt hk
     intro k hk
     simp only[qnr,q5E,eq,hp,ep,ev,K9,KO,q65,qbP,qbB,q8k,List.length_cons,List.length_nil,Ka,Vx,Vr,Vy,List.all_nil,Bool.and_true,Wa,Vt,VL,Kf,Kh]
     by_cases hlt:k<x.p.length
     ·first
       | (exfalso; omega)
       | (
        obtain ⟨y,hy⟩:=q08 hlt
        have hym:=Kc hy
        have hy2:=qf3 (f:=q1k) (g:=qnA n) hy
        have hst:=qfw (f:=q1k) (g:=qnA n) hy
        have hr:q0m CS 490 [q06 y.2] (clX n y.2):=ih y.2 (by have:=(L.pkids y hym).1; omega) (by omega)
        rw[qsg] at hst
        obtain ⟨cs,hcs⟩ : ∃ cs,clX n y.2=q06 cs:=⟨_,rfl⟩
        rw[hcs,q02] at hst hr
        simp only[AV.cells] at hst
        rw[q2g] at hy2
        rw[q02] at hr
        (repeat' first|simp (disch:=omega) only[go_sem,hy2,hst,q8k,qfq]|refine q00 _ (hr) ?_|(apply spl<;>intro h<;>try simp (disch:=omega) only[go_sem,h]))
        all_goals first | omega | skip
        exact ⟨k+1,rfl,hlt,by omega⟩)
     ·have hk2:k=x.p.length:=by omega
      subst hk2
      try rw[qfi (Kr _)]
      rcases q7A q06 x.a with ⟨ha,ea,na⟩ | ⟨a0,as_,ha,ea,na⟩
      all_goals
       rw[ha]
       (repeat' first|simp (disch:=omega) only[go_sem,qfq]|(refine q0b _ _ (d4 _) ?_)|(refine q0b _ _ (c4 _ _ _ (by omega)) ?_)|(apply spl<;>intro h<;>try simp (disch:=omega) only[go_sem,h]))
       refine q0a (α:=Nat) (fun k=>qnr [(66,.int .i64 x.a.length),(67,.int .i64 k)] [(11,(x.s.parts.map q0p).isEmpty,x.s.parts.map q0p),(13,(x.s.vals.map q0g).isEmpty,x.s.vals.map (qbd 65536)),(17,(x.p.map q1k).isEmpty,x.p.map (qnA n)),(15,(x.a.map q06).isEmpty,qgt q06 (clX n) x.a k)] fun c=>q5E x (c.getD 0 .dead) (c.getD 1 .dead) (c.getD 2 .dead) (c.getD 3 .dead)) (fun k=>k≤x.a.length) (fun k=>x.a.length-k) 0 (by
        simp only[qnr,qdd,hp,ev,eq,ha,K9,KO,q65,qbP,qbB,List.length_cons,List.length_nil,Ka,na]
        rfl) (Kn _) ?_
       clear hlt hk
       intro k hk
       simp only[qnr,q5E,eq,ea,hp,ep,ev,K9,KO,q65,qbP,qbB,q8k,List.length_cons,List.length_nil,Ka,Vx,Vr,Vy,List.all_nil,Bool.and_true,Wa,Vt,VL,Kf,Kh]
       by_cases hlt:k<x.a.length
       ·first
         | (exfalso; omega)
         | (
          obtain ⟨y,hy⟩:=q08 hlt
          have hym:=Kc hy
          have hy2:=qf3 (f:=q06) (g:=clX n) hy
          have hst:=qfw (f:=q06) (g:=clX n) hy
          have hr:q0m CS 490 [q06 y] (clX n y):=ih y (by have:=L.kids y hym; omega) (by omega)
          obtain ⟨cs,hcs⟩ : ∃ cs,clX n y=q06 cs:=⟨_,rfl⟩
          rw[hcs,q02] at hst hr
          rw[q02] at hy2 hr
          (repeat' first|simp (disch:=omega) only[go_sem,hy2,hst,q8k,qfq]|refine q00 _ (hr) ?_|(apply spl<;>intro h<;>try simp (disch:=omega) only[go_sem,h]))
          all_goals first | omega | skip
          exact ⟨k+1,rfl,hlt,by omega⟩)
       ·have hk2:k=x.a.length:=by omega
        subst hk2
        try rw[qfi (Kr _)]
        try rw[show x.s.vals.map (qbd 65536)=[] from List.map_eq_nil_iff.2 (VO.1 (by omega))]
        try rw[show x.p.map (qnA n)=[] from List.map_eq_nil_iff.2 (VO.1 (by omega))]
        try rw[show x.a.map (clX n)=[] from List.map_eq_nil_iff.2 (VO.1 (by omega))]
        (repeat' first|simp (disch:=omega) only[go_sem,qfq,tv,tq,ta,Ky,Ka]|(apply spl<;>intro h<;>try simp (disch:=omega) only[go_sem,h]))
def qlF:Sch:=.mk ⟨0,0,0,0,[],[],.mk ⟨0,0,0,0,0⟩ [],[]⟩ [] []
theorem qgk:q06 qlF = .agg [.int .i64 0,.int .i64 0,.int .i64 0,.int .i64 0,.str [],.tsl 11 [],.int .i64 0,.int .i64 0,.int .i64 0,.int .i64 0,.int .i64 0,.tsl 6 [],.tsl 13 [],.tsl 17 [],.tsl 15 []]:=by
 rw[q02]
 rfl
end Ago
