/- Copies of patterns and schemas; Lookup. -/
import Derived.Test.YtkibapblgbdhmaaGreatDoorRunF
import Derived.Test.YtkibapblgbdhmaaGreatDoorRunG
set_option linter.unusedSimpArgs false
set_option linter.unusedVariables false
set_option maxRecDepth 100000
set_option maxHeartbeats 8000000
namespace Ago
open Go (IntKind)
theorem q7J {f n b:Nat} (h:qd3 f=some (n,b)) (hb:b≤232) (H:Heap) (y:AV) (l:List AV) (hl:l.length<2^24):q1M CS f [.tsl n (y::l)] H (.sref n (H.length+1) 0 (l.length+1)) (H++[.gone,.row n (y::l) false true (H.length+1)]):=by
 refine .prim (Or.inl ⟨(n,b),_,h,rfl,?_⟩)
 have:(l.length+1) * b≤2^24 * 232:=Nat.mul_le_mul (by omega) hb
 simp [q2B,Heap.elems,Heap.append,lim,q37,Heap.flatOf]
 omega
theorem q6x {f n b:Nat} (h:qd3 f=some (n,b)) (H:Heap):q1M CS f [.tsl n []] H (.snil n) (H++[.gone]):=by
 refine .prim (Or.inl ⟨(n,b),_,h,rfl,?_⟩)
 simp [q2B,Heap.elems,Heap.append,lim,q37]
def qeL {α:Type} (f g:α→AV) (l:List α) (k:Nat):List AV:=(l.take k).map g++(l.drop k).map f
section
variable {α:Type} {f g:α→AV} {l:List α}
theorem q6n (k:Nat):(qeL f g l k).length=l.length:=by
 simp [qeL]
 omega
theorem q9Q:qeL f g l 0=l.map f:=by simp [qeL]
theorem qdk {k:Nat} (h:l.length≤k):qeL f g l k=l.map g:=by
 unfold qeL
 rw[List.take_of_length_le h,List.drop_of_length_le h]
 simp
theorem qd7 {k:Nat} {y:α} (h:l[k]?=some y):(qeL f g l k)[k]?=some (f y):=by
 obtain ⟨h1,h2⟩:=List.getElem?_eq_some_iff.1 h
 unfold qeL
 rw[List.getElem?_append_right (by simp; omega)]
 have:k-((l.take k).map g).length=0:=by simp; omega
 rw[this,q70 h]
 rfl
theorem qdb {k:Nat} {y:α} (h:l[k]?=some y):(qeL f g l k).set k (g y)=qeL f g l (k+1):=by
 obtain ⟨h1,h2⟩:=List.getElem?_eq_some_iff.1 h
 unfold qeL
 rw[q70 h,List.take_add_one,h]
 have e:((l.take k).map g).length=k:=by simp; omega
 rw[List.set_append_right _ _ (by omega),e]
 simp
end
theorem qaZ (p:Pat):1≤p.bulk:=by
 have:=p.bulk_eq
 omega
def qhL:AV:=.agg [.int .i64 0,.int .i64 0,.int .i64 0,.int .i64 0,.int .i64 0,.snil 6]
theorem qbr : ∀ (n:Nat) (p:Pat),p.bulk≤n→n≤2^24→q0f CS 517 [q0v p] (q0v p):=by
 intro n
 induction n with
 | zero=>
  intro p h1 h2
  have:=qaZ p
  omega
 | succ n ih=>
  intro p h1 h2
  have L:=Pat.lens (p:=p) (N:=2^24) (by omega)
  have hal:=L.args
  refine q04 qgI rfl ?_
  rw[q0e]
  by_cases ha:p.a=[]
  ·rw[ha,List.map_nil]
   (repeat' first|simp (disch:=omega) only[go_sem,qgI,enter]|(refine q0l _ _ (q6x (b:=64) rfl _) ?_)|(apply spl<;>intro h<;>try simp (disch:=omega) only[go_sem,h]))
   refine q08 (α:=Unit) (fun _=>{ tmps:=q0i 26 [(1,.ptr 6 0 0 0),(2,.ptr 6 1 0 0),(10,.int .i64 0),(11,.int .i64 0)],heap:=[.row 6 [.agg [.int .i64 p.s.op,.int .i64 p.s.lo,.int .i64 p.s.hi,.int .i64 p.s.min,.int .i64 p.s.max,.snil 6]] false true 0,.row 6 [qhL] false true 1],base:=0 }) (fun _=>True) (fun _=>0) () rfl trivial ?_
   intro _ _
   (repeat' first|simp (disch:=omega) only[go_sem,qhL]|(apply spl<;>intro h<;>try simp (disch:=omega) only[go_sem,h]))
  ·obtain ⟨z,zs,hz⟩ : ∃ z zs,p.a.map q0v=z::zs:=by
    cases h:p.a with
    | nil=>exact (ha h).elim
    | cons a b=>exact ⟨_,_,rfl⟩
   have hzl:zs.length+1=p.a.length:=by
    have:=congrArg List.length hz
    simp at this
    omega
   rw[hz]
   (repeat' first|simp (disch:=omega) only[go_sem,qgI,enter]|(refine q0l _ _ (q7J (b:=64) rfl (by decide) _ _ _ (by omega)) ?_)|(apply spl<;>intro h<;>try simp (disch:=omega) only[go_sem,h]))
   refine q08 (α:=Nat) (fun k=>{ tmps:=q0i 26 [(1,.ptr 6 0 0 0),(2,.ptr 6 2 0 0),(10,.int .i64 (zs.length+1)),(11,.int .i64 k)],heap:=[.row 6 [.agg [.int .i64 p.s.op,.int .i64 p.s.lo,.int .i64 p.s.hi,.int .i64 p.s.min,.int .i64 p.s.max,.sref 6 1 0 (zs.length+1)]] false false 0,.row 6 (z::zs) false true 1,.row 6 [qhL] false true 2],base:=0 }) (fun k=>k≤p.a.length) (fun k=>p.a.length-k) 0 rfl (Nat.zero_le _) ?_
   intro k hk
   by_cases hlt:k<p.a.length
   ·obtain ⟨y,hy⟩:=q06 hlt
    have hym:=List.mem_of_getElem? hy
    have hy2:=q09 (g:=q0v) hy
    have hr:=ih y (by have:=L.kids y hym; omega) (by omega)
    have hst:(z::zs).set k (q0v y)=z::zs:=by
     rw[←hz]
     obtain ⟨q1,q2⟩:=List.getElem?_eq_some_iff.1 hy2
     rw[←q2]
     exact List.set_getElem_self q1
    rw[hz] at hy2
    rw[q0e] at hy2 hr hst
    (repeat' first|simp (disch:=omega) only[go_sem,hy2,hst,qhL]|refine q00 _ (hr) ?_|(apply spl<;>intro h<;>try simp (disch:=omega) only[go_sem,h]))
    all_goals first | omega | skip
    refine ⟨k+1,?_,hlt,by omega⟩
    rfl
   ·(repeat' first|simp (disch:=omega) only[go_sem,qhL,List.take_length]|(apply spl<;>intro h<;>try simp (disch:=omega) only[go_sem,h]))
    all_goals first | omega | skip

def qa7:Nat→List (Nat × Bool × List AV)→List AV × Heap
 | _,[]=>([],[])
 | b,(n,true,_)::l=>(.snil n::(qa7 b l).1,(qa7 b l).2)
 | b,(n,false,els)::l=>(.sref n b 0 els.length::(qa7 (b+1) l).1,.row n els false true b::(qa7 (b+1) l).2)
theorem q1c (b:Nat):qa7 b []=([],[]):=(rfl)
theorem q2v (b n:Nat) (e:List AV) (l:List (Nat × Bool × List AV)):qa7 b ((n,true,e)::l)=(.snil n::(qa7 b l).1,(qa7 b l).2):=(rfl)
theorem q2P (b n:Nat) (e:List AV) (l:List (Nat × Bool × List AV)):qa7 b ((n,false,e)::l)=(.sref n b 0 e.length::(qa7 (b+1) l).1,.row n e false true b::(qa7 (b+1) l).2):=(rfl)
def qcP:AV:=.agg [.int .i64 0,.int .i64 0,.int .i64 0,.int .i64 0,.str [],.snil 11,.int .i64 0,.int .i64 0,.int .i64 0,.int .i64 0,.int .i64 0,.snil 6,.snil 13,.snil 17,.snil 15]
def q2r (x:Sch) (p v q a:AV):List AV:=[.int .i64 x.s.op,.int .i64 x.s.mask,.int .i64 x.s.min,.int .i64 x.s.max,.str x.s.name,p,.int .i64 x.s.pat.s.op,.int .i64 x.s.pat.s.lo,.int .i64 x.s.pat.s.hi,.int .i64 x.s.pat.s.min,.int .i64 x.s.pat.s.max,.tsl 6 (x.s.pat.a.map q0v),v,q,a]
def q5L:Nat→Sch→Sch
 | 0,x=>x
 | n+1,x=>.mk { x.s with vals:=x.s.vals.map (qaG 65536) } (x.p.map fun k=>(k.1,q5L n k.2)) (x.a.map (q5L n))
def clX (n:Nat) (x:Sch):AV:=q03 (q5L n x)
def qjd (n:Nat) (k:PK × Sch):AV:=q0h (k.1,q5L n k.2)
theorem qop (n:Nat) (k:PK × Sch):qjd n k = .agg (.str k.1.key :: .bool k.1.req::(clX n k.2).cells):=(rfl)
theorem qkK (n:Nat) (x:Sch):q03 (q5L (n+1) x) = .agg (q2r x (.tsl 11 (x.s.parts.map q0p)) (.tsl 13 (x.s.vals.map (q8G 65536))) (.tsl 17 (x.p.map (qjd n))) (.tsl 15 (x.a.map (clX n)))):=by
 rw[q01]
 simp only[q5L,Sch.s,Sch.p,Sch.a,List.map_map]
 rfl
def qkx (t:List (Nat × AV)) (pre:List (Nat × Bool × List AV)) (cells:List AV→List AV):St:=
 { tmps:=q0i 82 ([(1,.ptr 15 0 0 0),(2,.ptr 15 ((qa7 1 pre).2.length+1) 0 0)]++t),heap:=.row 15 [.agg (cells (qa7 1 pre).1)] false (pre.all fun p=>p.2.1) 0::(qa7 1 pre).2++[.row 15 [qcP] false true ((qa7 1 pre).2.length+1)],base:=0 }
end Ago
set_option maxRecDepth 100000
set_option maxHeartbeats 32000000
namespace Ago
open Go (IntKind)
theorem q4t {α:Type} (f:α→AV) (l:List α):(l.map f=[]∧(l.map f).isEmpty=true∧l.length=0)∨∃ z zs,l.map f=z::zs∧(l.map f).isEmpty=false∧l.length=zs.length+1:=by
 cases l with
 | nil=>exact .inl ⟨rfl,rfl,rfl⟩
 | cons z zs=>exact .inr ⟨f z,zs.map f,rfl,rfl,by simp⟩
theorem qg5 : ∀ (n:Nat) (x:Sch),x.bulk≤n→n≤2^24→q0f CS 490 [q03 x] (q03 (q5L n x)):=by
 intro n
 induction n with
 | zero=>
  intro x h1 h2
  have:1≤x.bulk:=q1b _
  omega
 | succ n ih=>
  intro x h1 h2
  have L:=Sch.lens (v:=x) (N:=2^24) (by omega)
  have l1:=L.parts
  have l2:=L.vals
  have l3:=L.props
  have l4:=L.args
  have hpat:=qbr (2^24) x.s.pat (by have:=L.pat; omega) (Nat.le_refl _)
  have tv:(x.s.vals.map (q8G 65536)).take x.s.vals.length=x.s.vals.map (q8G 65536):=List.take_of_length_le (by simp)
  have tq:(x.p.map (qjd n)).take x.p.length=x.p.map (qjd n):=List.take_of_length_le (by simp)
  have ta:(x.a.map (clX n)).take x.a.length=x.a.map (clX n):=List.take_of_length_le (by simp)
  have c1:=fun (H:Heap) (z:AV) (zs:List AV) (h:zs.length<2^24)=>q7J (f:=216) (n:=11) (b:=104) rfl (by decide) H z zs h
  have c2:=fun (H:Heap) (z:AV) (zs:List AV) (h:zs.length<2^24)=>q7J (f:=518) (n:=13) (b:=168) rfl (by decide) H z zs h
  have c3:=fun (H:Heap) (z:AV) (zs:List AV) (h:zs.length<2^24)=>q7J (f:=519) (n:=17) (b:=232) rfl (by decide) H z zs h
  have c4:=fun (H:Heap) (z:AV) (zs:List AV) (h:zs.length<2^24)=>q7J (f:=520) (n:=15) (b:=208) rfl (by decide) H z zs h
  have d1:=fun (H:Heap)=>q6x (f:=216) (n:=11) (b:=104) rfl H
  have d2:=fun (H:Heap)=>q6x (f:=518) (n:=13) (b:=168) rfl H
  have d3:=fun (H:Heap)=>q6x (f:=519) (n:=17) (b:=232) rfl H
  have d4:=fun (H:Heap)=>q6x (f:=520) (n:=15) (b:=208) rfl H
  have ml1:(x.s.parts.map q0p).length=x.s.parts.length:=List.length_map ..
  have ml2:(x.s.vals.map q0j).length=x.s.vals.length:=List.length_map ..
  have ml3:(x.p.map q0h).length=x.p.length:=List.length_map ..
  have ml4:(x.a.map q03).length=x.a.length:=List.length_map ..
  rw[q0e] at hpat
  rw[qkK]
  unfold q2r
  refine q04 qka rfl ?_
  rw[q01]
  rcases q4t q0p x.s.parts with ⟨hp,ep,np⟩ | ⟨p0,ps,hp,ep,np⟩<;>rcases q4t q0j x.s.vals with ⟨hv,ev,nv⟩ | ⟨v0,vs,hv,ev,nv⟩
  all_goals
   rw[hp,hv]
   (repeat' first|simp (disch:=omega) only[go_sem,qka,enter]|refine q00 _ (hpat) ?_|(refine q0l _ _ (d1 _) ?_)|(refine q0l _ _ (d2 _) ?_)|(refine q0l _ _ (c1 _ _ _ (by omega)) ?_)|(refine q0l _ _ (c2 _ _ _ (by omega)) ?_)|(apply spl<;>intro h<;>try simp (disch:=omega) only[go_sem,h]))
   refine q08 (α:=Nat) (fun k=>qkx [(22,.int .i64 x.s.vals.length),(23,.int .i64 k)] [(11,(x.s.parts.map q0p).isEmpty,x.s.parts.map q0p),(13,(x.s.vals.map q0j).isEmpty,qeL q0j (q8G 65536) x.s.vals k)] fun c=>q2r x (c.getD 0 .dead) (c.getD 1 .dead) (.tsl 17 (x.p.map q0h)) (.tsl 15 (x.a.map q03))) (fun k=>k≤x.s.vals.length) (fun k=>x.s.vals.length-k) 0 (by
    simp only[qkx,q9Q,hp,hv,List.isEmpty_nil,List.isEmpty_cons,q1c,q2v,q2P,List.length_cons,List.length_nil,nv]
    rfl) (Nat.zero_le _) ?_
   intro k hk
   simp only[qkx,q2r,hp,ev,List.isEmpty_nil,List.isEmpty_cons,q1c,q2v,q2P,q6n,List.length_cons,List.length_nil,List.getD_cons_zero,List.getD_cons_succ,List.all_cons,List.all_nil,Bool.and_true,Bool.and_false,Bool.true_and,List.cons_append,List.nil_append]
   by_cases hlt:k<x.s.vals.length
   ·first
     | (exfalso; omega)
     | (
      obtain ⟨y,hy⟩:=q06 hlt
      have hym:=List.mem_of_getElem? hy
      have hy2:=qd7 (f:=q0j) (g:=q8G 65536) hy
      have hst:=qdb (f:=q0j) (g:=q8G 65536) hy
      have hr:q0f CS 26 [q0j y] (q8G 65536 y):=upS (qd1 y (by have:=L.val y hym; omega))
      rw[q8A] at hr hst
      rw[q07] at hy2 hr
      (repeat' first|simp (disch:=omega) only[go_sem,hy2,hst,q6n,qcP]|refine q00 _ (hr) ?_|(apply spl<;>intro h<;>try simp (disch:=omega) only[go_sem,h]))
      all_goals first | omega | skip
      exact ⟨k+1,rfl,hlt,by omega⟩)
   ·have hk2:k=x.s.vals.length:=by omega
    subst hk2
    try rw[qdk (Nat.le_refl _)]
    rcases q4t q0h x.p with ⟨hq,eq,nq⟩ | ⟨q0,qs,hq,eq,nq⟩
    all_goals
     rw[hq]
     (repeat' first|simp (disch:=omega) only[go_sem,qcP]|(refine q0l _ _ (d3 _) ?_)|(refine q0l _ _ (c3 _ _ _ (by omega)) ?_)|(apply spl<;>intro h<;>try simp (disch:=omega) only[go_sem,h]))
     refine q08 (α:=Nat) (fun k=>qkx [(43,.int .i64 x.p.length),(44,.int .i64 k)] [(11,(x.s.parts.map q0p).isEmpty,x.s.parts.map q0p),(13,(x.s.vals.map q0j).isEmpty,x.s.vals.map (q8G 65536)),(17,(x.p.map q0h).isEmpty,qeL q0h (qjd n) x.p k)] fun c=>q2r x (c.getD 0 .dead) (c.getD 1 .dead) (c.getD 2 .dead) (.tsl 15 (x.a.map q03))) (fun k=>k≤x.p.length) (fun k=>x.p.length-k) 0 (by
      simp only[qkx,q9Q,hp,ev,hq,List.isEmpty_nil,List.isEmpty_cons,q1c,q2v,q2P,List.length_cons,List.length_nil,List.length_map,nq]
      rfl) (Nat.zero_le _) ?_
     clear hlt hk
     intro k hk
     simp only[qkx,q2r,eq,hp,ep,ev,List.isEmpty_nil,List.isEmpty_cons,q1c,q2v,q2P,q6n,List.length_cons,List.length_nil,List.length_map,List.getD_cons_zero,List.getD_cons_succ,List.all_cons,List.all_nil,Bool.and_true,Bool.and_false,Bool.true_and,Bool.false_and,List.cons_append,List.nil_append]
     by_cases hlt:k<x.p.length
     ·first
       | (exfalso; omega)
       | (
        obtain ⟨y,hy⟩:=q06 hlt
        have hym:=List.mem_of_getElem? hy
        have hy2:=qd7 (f:=q0h) (g:=qjd n) hy
        have hst:=qdb (f:=q0h) (g:=qjd n) hy
        have hr:q0f CS 490 [q03 y.2] (clX n y.2):=ih y.2 (by have:=(L.pkids y hym).1; omega) (by omega)
        rw[qop] at hst
        obtain ⟨cs,hcs⟩ : ∃ cs,clX n y.2=q03 cs:=⟨_,rfl⟩
        rw[hcs,q01] at hst hr
        simp only[AV.cells] at hst
        rw[q0m] at hy2
        rw[q01] at hr
        (repeat' first|simp (disch:=omega) only[go_sem,hy2,hst,q6n,qcP]|refine q00 _ (hr) ?_|(apply spl<;>intro h<;>try simp (disch:=omega) only[go_sem,h]))
        all_goals first | omega | skip
        exact ⟨k+1,rfl,hlt,by omega⟩)
     ·have hk2:k=x.p.length:=by omega
      subst hk2
      try rw[qdk (Nat.le_refl _)]
      rcases q4t q03 x.a with ⟨ha,ea,na⟩ | ⟨a0,as_,ha,ea,na⟩
      all_goals
       rw[ha]
       (repeat' first|simp (disch:=omega) only[go_sem,qcP]|(refine q0l _ _ (d4 _) ?_)|(refine q0l _ _ (c4 _ _ _ (by omega)) ?_)|(apply spl<;>intro h<;>try simp (disch:=omega) only[go_sem,h]))
       refine q08 (α:=Nat) (fun k=>qkx [(66,.int .i64 x.a.length),(67,.int .i64 k)] [(11,(x.s.parts.map q0p).isEmpty,x.s.parts.map q0p),(13,(x.s.vals.map q0j).isEmpty,x.s.vals.map (q8G 65536)),(17,(x.p.map q0h).isEmpty,x.p.map (qjd n)),(15,(x.a.map q03).isEmpty,qeL q03 (clX n) x.a k)] fun c=>q2r x (c.getD 0 .dead) (c.getD 1 .dead) (c.getD 2 .dead) (c.getD 3 .dead)) (fun k=>k≤x.a.length) (fun k=>x.a.length-k) 0 (by
        simp only[qkx,q9Q,hp,ev,eq,ha,List.isEmpty_nil,List.isEmpty_cons,q1c,q2v,q2P,List.length_cons,List.length_nil,List.length_map,na]
        rfl) (Nat.zero_le _) ?_
       clear hlt hk
       intro k hk
       simp only[qkx,q2r,eq,ea,hp,ep,ev,List.isEmpty_nil,List.isEmpty_cons,q1c,q2v,q2P,q6n,List.length_cons,List.length_nil,List.length_map,List.getD_cons_zero,List.getD_cons_succ,List.all_cons,List.all_nil,Bool.and_true,Bool.and_false,Bool.true_and,Bool.false_and,List.cons_append,List.nil_append]
       by_cases hlt:k<x.a.length
       ·first
         | (exfalso; omega)
         | (
          obtain ⟨y,hy⟩:=q06 hlt
          have hym:=List.mem_of_getElem? hy
          have hy2:=qd7 (f:=q03) (g:=clX n) hy
          have hst:=qdb (f:=q03) (g:=clX n) hy
          have hr:q0f CS 490 [q03 y] (clX n y):=ih y (by have:=L.kids y hym; omega) (by omega)
          obtain ⟨cs,hcs⟩ : ∃ cs,clX n y=q03 cs:=⟨_,rfl⟩
          rw[hcs,q01] at hst hr
          rw[q01] at hy2 hr
          (repeat' first|simp (disch:=omega) only[go_sem,hy2,hst,q6n,qcP]|refine q00 _ (hr) ?_|(apply spl<;>intro h<;>try simp (disch:=omega) only[go_sem,h]))
          all_goals first | omega | skip
          exact ⟨k+1,rfl,hlt,by omega⟩)
       ·have hk2:k=x.a.length:=by omega
        subst hk2
        try rw[qdk (Nat.le_refl _)]
        try rw[show x.s.vals.map (q8G 65536)=[] from List.map_eq_nil_iff.2 (List.length_eq_zero_iff.1 (by omega))]
        try rw[show x.p.map (qjd n)=[] from List.map_eq_nil_iff.2 (List.length_eq_zero_iff.1 (by omega))]
        try rw[show x.a.map (clX n)=[] from List.map_eq_nil_iff.2 (List.length_eq_zero_iff.1 (by omega))]
        (repeat' first|simp (disch:=omega) only[go_sem,qcP,tv,tq,ta,List.take_length,List.length_map]|(apply spl<;>intro h<;>try simp (disch:=omega) only[go_sem,h]))
def zeroX:Sch:=.mk ⟨0,0,0,0,[],[],.mk ⟨0,0,0,0,0⟩ [],[]⟩ [] []
theorem q1k:q03 zeroX = .agg [.int .i64 0,.int .i64 0,.int .i64 0,.int .i64 0,.str [],.tsl 11 [],.int .i64 0,.int .i64 0,.int .i64 0,.int .i64 0,.int .i64 0,.tsl 6 [],.tsl 13 [],.tsl 17 [],.tsl 15 []]:=by
 rw[q01]
 rfl
end Ago
