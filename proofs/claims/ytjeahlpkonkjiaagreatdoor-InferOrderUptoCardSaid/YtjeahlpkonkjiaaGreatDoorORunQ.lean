/- Decimals of the reference: Sum,Less,normal,Add,Sub. -/
import Derived.Test.YtjeahlpkonkjiaaGreatDoorORunI
import Derived.Test.YtjeahlpkonkjiaaGreatDoorORunP
import Derived.Test.YtjeahlpkonkjiaaGreatDoorORunH
import Derived.Test.YtjeahlpkonkjiaaGreatDoorORunN
import Derived.Test.YtjeahlpkonkjiaaGreatDoorORunO
set_option linter.unusedSimpArgs false
set_option linter.unusedVariables false
set_option maxRecDepth 100000
set_option exponentiation.threshold 2000
set_option maxHeartbeats 4000000
namespace Ago
open Go (IntKind)
end Ago
set_option maxRecDepth 100000
set_option exponentiation.threshold 2000
set_option maxHeartbeats 4000000
namespace Ago
open Go (IntKind)
def qp0 (p:Prt):Bool:=p.lo.set && p.hi.set && !p.lo.opn && !p.hi.opn && decide (q2V p.lo.num p.hi.num≤0) && (if p.sort=1 then decide (0≤p.lo.num.exp) && decide (0≤p.hi.num.exp) else decide (p.sort=0) && quD p.lo.num p.hi.num)
def qx8:List Prt→Bool
 | [p]=>qp0 p
 | _=>false
end Ago
set_option maxRecDepth 100000
set_option exponentiation.threshold 2000
set_option maxHeartbeats 4000000
namespace Ago
open Go (IntKind)
inductive Nod:Sch→Prop where
 | mk (x:Sch) (h:q21 x=true) (hk : ∀ y,y∈x.kids→Nod y):Nod x
theorem qjS {s:Schs} {x:Sch} (h:q65 s x=0):q21 x=true:=by
 cases hb:q21 x with
 | true=>rfl
 | false=>
  unfold q65 at h
  rw[if_pos hb] at h
  cases h
theorem qp4 (s:Schs) : ∀ (d:Nat) (x:Sch),q15 s d x=0→q3c d x=false→Nod x
 | 0,x,_,h2=>by rw[q7a] at h2; cases h2
 | d+1,x,h1,h2=>by
  rw[q62] at h1
  rw[q77] at h2
  have hn:q65 s x=0:=by
   by_cases hn:q65 s x=0
   ·exact hn
   ·rw[if_neg hn] at h1
    exact h1
  rw[if_pos hn] at h1
  refine .mk x (qjS hn) fun y hy=>qp4 s d y (q7C h1 y hy) ?_
  have:=List.any_eq_false.1 h2 y hy
  simpa using this
theorem Nod.form {x:Sch} (h:Nod x):q21 x=true:=by
 cases h with
 | mk _ h _=>exact h
theorem Nod.kid {x:Sch} (h:Nod x) : ∀ y,y∈x.kids→Nod y:=by
 cases h with
 | mk _ _ h=>exact h
theorem Nod.blank {x:Sch} (h:Nod x):q1Q x=true:=by
 have:=h.form
 unfold q21 at this
 rw[Kd,Kd] at this
 exact this.1.2
theorem Nod.arg {x:Sch} (h:Nod x) (ho:x.s.op=9∨x.s.op=10) : ∃ e,x.a=[e]∧Nod e∧qlj x=e:=by
 have hb:=h.blank
 unfold q1Q at hb
 rw[Kd,Kd] at hb
 have hb:=of_decide_eq_true hb.1.1
 have h1:x.a.length=1:=by omega
 match ha:x.a,h1 with
 | [e],_=>exact ⟨e,rfl,h.kid e (by unfold Sch.kids; rw[ha]; simp),by unfold qlj; rw[ha]; rfl⟩
theorem Nod.set {x:Sch} (h:Nod x) (ho:x.s.op=4):q7W x.s.parts=true:=by
 have:=h.form
 unfold q21 at this
 rw[Kd] at this
 have:=this.2
 rw[if_neg (by omega),if_pos ho] at this
 exact this
def q7p (f:Sch→Bool):Option (List UInt8)→List (PK × Sch)→Bool
 | _,[]=>true
 | k,p::l=>(match k with
  | none=>true
  | some k0=>Go.Op.bytesLess k0 p.1.key) && f p.2 && q7p f (some p.1.key) l
def qbh (f:Sch→Bool) (x:Sch):Bool:=
 if x.s.op=4 then qx8 x.s.parts
 else if x.s.op=5 then decide (0≤x.s.max)
 else if x.s.op=9 then (if x.s.max=0 then decide ((qlj x).s.op=2) else decide (0<x.s.max) && f (qlj x))
 else if x.s.op=10 then q7p f none x.p && decide ((qlj x).s.op=2)
 else true
def q6C (f:Sch→Bool):Int→List Sch→Bool
 | _,[]=>true
 | k,a::l=>!decide (q0p a≤k) && qbh f a && q6C f (q0p a) l
def qdW:Nat→Sch→Bool
 | 0,_=>false
 | n+1,x=>decide (x.s.op=12) && q6C (qdW n) (-1) x.a
theorem qkG (x:Sch):qdW 0 x=false:=(rfl)
theorem q9z (n:Nat) (x:Sch):qdW (n+1) x=(decide (x.s.op=12) && q6C (qdW n) (-1) x.a):=(rfl)
def qvh (g:Nat) (n:Nat):Prop:=∀ x:Sch,x.bulk≤n→Nod x→q0k CI g [q03 x] (.bool (qdW n x))
def qeU (l:List (PK × Sch)):Nat→Option (List UInt8)
 | 0=>none
 | i+1=>(l[i]?).map fun p=>p.1.key
theorem qaE {l:List Prt} (h:q7W l=true):l.length≤256∧∀ p,p∈l→q3o p=true:=by
 unfold q7W at h
 rw[Kd] at h
 exact ⟨of_decide_eq_true h.1,fun p hp=>Ki.1 h.2 p hp⟩
theorem qhz (x:Sch) (ho:x.s.op=4) (hs:q7W x.s.parts=true):q0k CI 997 [q03 x] (.bool (qx8 x.s.parts)):=by
 obtain ⟨hl,hok⟩:=qaE hs
 obtain ⟨R,hR⟩ : ∃ R,qx8 x.s.parts=R:=⟨_,rfl⟩
 rw[hR]
 refine q04 q3Y rfl ?_
 rw[q02,ho]
 generalize x.s.parts=l at *
 by_cases h1:l.length=1
 ·match l,h1 with
  | [p],_=>
  have hp:=hok p (KR.2 rfl)
  have hlo:=qjc hp
  have hhi:=qiQ hp
  have w1:=qll (q3E p.lo.num)
  have w2:=qll (q3E p.hi.num)
  have k1:=fun a b=>qll (q4J p.lo.num p.hi.num (hlo a) (hhi b))
  have kf:=fun a b=>qll (qhJ p.lo.num p.hi.num (hlo a) (hhi b))
  have ko:=fun (a:p.lo.set=true) (b:p.hi.set=true)=>qll (qpR ⟨true,p.lo.num,false⟩ ⟨true,p.hi.num,false⟩ 2 (by have:=q11 (hlo a); show p.lo.num.digits.length<_; omega) (by have:=q11 (hhi b); show p.hi.num.digits.length<_; omega))
  have ke:=fun a b (h:q2V p.lo.num p.hi.num≤0)=>qfm (hlo a) (hhi b) (by
   have:=q1R (hlo a) (hhi b)
   have:=qo0 (hlo a) (hhi b)
   omega)
  have kp:=fun a b=>q89 (lo:=p.lo.num) (hi:=p.hi.num) (hlo a) (hhi b)
  have hR:qp0 p=R:=hR
  clear hlo hhi hp hok hs
  obtain ⟨⟨s1,d1,o1⟩,⟨s2,d2,o2⟩,sort⟩:=p
  simp only[q0m,Km,Kx] at *
  cases s1 with
  | false=>
   have hR:false=R:=hR
   subst hR
   (repeat' first|simp (disch:=omega) only[go_sem,q3Y,enter,Kb,Kg])
   all_goals first | omega | rfl
  | true=>
  cases s2 with
  | false=>
   have hR:false=R:=hR
   subst hR
   (repeat' first|simp (disch:=omega) only[go_sem,q3Y,enter,Kb,Kg])
   all_goals first | omega | rfl
  | true=>
  cases o1 with
  | true=>
   have hR:false=R:=hR
   subst hR
   (repeat' first|simp (disch:=omega) only[go_sem,q3Y,enter,Kb,Kg])
   all_goals first | omega | rfl
  | false=>
  cases o2 with
  | true=>
   have hR:false=R:=hR
   subst hR
   (repeat' first|simp (disch:=omega) only[go_sem,q3Y,enter,Kb,Kg])
   all_goals first | omega | rfl
  | false=>
   have k1:=k1 rfl rfl
   have kf:=kf rfl rfl
   have ko:=ko rfl rfl
   have ke:=ke rfl rfl
   have kp:=kp rfl rfl
   rw[show qvy ⟨⟨true,d1,false⟩,⟨true,d2,false⟩,2⟩=([q4x d1 d2],0) by unfold qvy; rw[show (⟨⟨true,d1,false⟩,⟨true,d2,false⟩,2⟩:Prt)=q4x d1 d2 from rfl,if_pos kp]] at ko
   clear kp
   have hv : ∀ b,(if sort=1 then decide (0≤d1.exp) && decide (0≤d2.exp) else decide (sort=0) && quD d1 d2)=b→q2V d1 d2≤0→b=R:=fun b h1 h2=>by
    rw[←hR,←h1]
    unfold qp0
    simp [h2]
   have hv0 : ¬ q2V d1 d2≤0→false=R:=fun h2=>by
    rw[←hR]
    unfold qp0
    simp [h2]
   clear hR
   generalize q2V d1 d2=x1 at *
   by_cases hx:x1≤0
   ·rw[ke hx] at kf
    clear ke
    generalize quD d1 d2=mx at *
    unfold qqN q81 q4x q0h at *
    simp only[q0m,Km,Kx,q5j] at kf ko
    have hx2 : ¬ 0<x1:=by omega
    by_cases hs:sort=1
    ·subst hs
     by_cases z1:0≤d1.exp<;>by_cases z2:0≤d2.exp
     all_goals
      have hv:=hv _ rfl hx
      simp only[z1,z2,decide_true,decide_false,if_true,Bool.and_self,Vq,VG,K2] at w1 w2 hv
      subst hv
      (repeat' first|simp (disch:=omega) only[go_sem,q3Y,enter,Kb,Kg,hx2]|refine q00 _ (k1) ?_|refine q00 _ (w1) ?_|refine q00 _ (w2) ?_)
      all_goals first | omega | rfl
    ·by_cases hs0:sort=0
     ·subst hs0
      have hv:mx=R:=hv _ (by simp) hx
      subst hv
      (repeat' first|simp (disch:=omega) only[go_sem,q3Y,enter,Kb,Kg,hx2]|refine q00 _ (k1) ?_|refine q00 _ (ko) ?_|refine q00 _ (kf) ?_|(apply spl<;>intro h<;>try simp (disch:=omega) only[go_sem,h]))
      all_goals first | omega | rfl | (cases mx<;>rfl)
     ·have hv:false=R:=hv _ (by simp [hs,hs0]) hx
      subst hv
      (repeat' first|simp (disch:=omega) only[go_sem,q3Y,enter,Kb,Kg,hx2,hs,hs0]|refine q00 _ (k1) ?_)
      all_goals first | omega | rfl
   ·have hv:=hv0 hx
    subst hv
    unfold q0h at *
    have hx2:0<x1:=by omega
    (repeat' first|simp (disch:=omega) only[go_sem,q3Y,enter,Kb,Kg,hx2]|refine q00 _ (k1) ?_)
    all_goals first | omega | rfl
 ·have hn:false=R:=by
   match l,h1,hR with
   | [],_,h=>exact h
   | [_],h,_=>exact absurd rfl h
   | _::_::_,_,h=>exact h
  subst hn
  have h1' : ¬ (l.length:Int)=1:=by omega
  (repeat' first|simp (disch:=omega) only[go_sem,q3Y,enter,Ka,h1'])
  all_goals first | omega | rfl
end Ago
set_option maxRecDepth 100000
set_option exponentiation.threshold 2000
set_option maxHeartbeats 4000000
namespace Ago
open Go (IntKind)
theorem qd3 (l:List (PK × Sch)):qeU l 0=none:=(rfl)
theorem qm2 {l:List (PK × Sch)} {i:Nat} {q:PK × Sch} (hi:0<i) (h:l[i-1]?=some q):qeU l i=some q.1.key:=by
 obtain ⟨k,rfl⟩ : ∃ k,i=k+1:=⟨i-1,by omega⟩
 show (l[k]?).map _=_
 rw[show l[k]?=some q from h]
 rfl
theorem q7t (f:Sch→Bool) (k:Option (List UInt8)) (p:PK × Sch) (l:List (PK × Sch)):q7p f k (p::l)=((match k with
  | none=>true
  | some k0=>Go.Op.bytesLess k0 p.1.key) && f p.2 && q7p f (some p.1.key) l):=by
 cases k<;>rfl
theorem qhA {f:Sch→Bool} {l:List (PK × Sch)} {i:Nat} {p:PK × Sch} (h:l[i]?=some p):q7p f (qeU l i) (l.drop i)=((match qeU l i with
  | none=>true
  | some k0=>Go.Op.bytesLess k0 p.1.key) && f p.2 && q7p f (qeU l (i+1)) (l.drop (i+1))):=by
 rw[q8S h,q7t,show qeU l (i+1)=some p.1.key by show (l[i]?).map _=_; rw[h]; rfl]
theorem qh6 {f:Sch→Bool} {l:List Sch} {i:Nat} {k:Int} {a:Sch} (h:l[i]?=some a):q6C f k (l.drop i)=(!decide (q0p a≤k) && qbh f a && q6C f (q0p a) (l.drop (i+1))):=by
 rw[q8S h,q6C]
theorem qhB (f:Sch→Bool) (x:Sch) (hb:x.bulk≤2^24) (hx:Nod x) (ho:x.s.op=10) (hf : ∀ p,p∈x.p→q0k CI 983 [q03 p.2] (.bool (f p.2))):q0k CI 997 [q03 x] (.bool (q7p f none x.p && decide ((qlj x).s.op=2))):=by
 have L:=Sch.lens hb
 have hpl:=L.props
 obtain ⟨e,he,_,he2⟩:=hx.arg (.inr ho)
 rw[he2]
 refine q04 q3Y rfl ?_
 obtain ⟨R,hR⟩ : ∃ R,q7p f none x.p=R:=⟨_,rfl⟩
 rw[hR,q02,ho]
 (repeat' first|simp (disch:=omega) only[go_sem,q3Y,enter,Ka]|(apply spl<;>intro h<;>try simp (disch:=omega) only[go_sem,h]))
 all_goals first | omega | skip
 refine q07 (α:=Nat) (fun i=>{ tmps:=q0q 150 [(1,.ptr 15 0 0 0),(116,.tsl 17 (x.p.map q0i)),(117,.int .i64 x.p.length),(118,.int .i64 i)],heap:=[.row 15 [q03 x] false true 0],base:=0 }) (fun i=>i≤x.p.length∧q7p f (qeU x.p i) (x.p.drop i)=R) (fun i=>x.p.length-i) 0 (by rw[q02,ho]; rfl) ⟨Kp _,by rw[qd3,VF,hR]⟩ ?_
 rintro i ⟨hi,hk⟩
 by_cases hlt:i<x.p.length
 ·obtain ⟨p,hp⟩:=q06 hlt
  have hp2:=q0c (g:=q0i) hp
  have hfp:=hf p (Kc hp)
  rw[qhA hp] at hk
  rw[q02] at hfp
  rw[q0o] at hp2
  obtain ⟨b,hfb⟩ : ∃ b,f p.2=b:=⟨_,rfl⟩
  rw[hfb] at hfp hk
  by_cases h0:i=0
  ·subst h0
   have h00 : ¬ (0:Int)<((0:Nat):Int):=by decide
   rw[qd3] at hk
   simp only[KH] at hk
   cases b with
   | false=>
    rw[K2] at hk
    rw[←hk,q02,ho]
    (repeat' first|simp (disch:=omega) only[go_sem,hp2,Ka,h00]|refine q00 _ (hfp) ?_)
    all_goals first | omega | rfl
   | true=>
    rw[KH] at hk
    rw[q02,ho]
    (repeat' first|simp (disch:=omega) only[go_sem,hp2,Ka,h00]|refine q00 _ (hfp) ?_|(apply spl<;>intro h<;>try simp (disch:=omega) only[go_sem,h]))
    all_goals first | omega | skip
    exact ⟨1,by first | rfl | (rw[q02,ho]; rfl),⟨by omega,hk⟩,by omega⟩
  ·obtain ⟨q,hq⟩:=q06 (s:=x.p) (k:=i-1) (by omega)
   have hq2:=q0c (g:=q0i) hq
   rw[q0o] at hq2
   rw[qm2 (by omega) hq] at hk
   have e1:((i:Int)-1).toNat=i-1:=by omega
   have h00:(0:Int)<i:=by omega
   simp only at hk
   obtain ⟨c,hc⟩ : ∃ c,Go.Op.bytesLess q.1.key p.1.key=c:=⟨_,rfl⟩
   rw[hc] at hk
   cases c with
   | false=>
    rw[K2,K2] at hk
    rw[←hk,q02,ho]
    (repeat' first|simp (disch:=omega) only[go_sem,hp2,hq2,Ka,h00,e1,hc])
    all_goals first | omega | rfl
   | true=>
    cases b with
    | false=>
     rw[KH,K2] at hk
     rw[←hk,q02,ho]
     (repeat' first|simp (disch:=omega) only[go_sem,hp2,hq2,Ka,h00,e1,hc]|refine q00 _ (hfp) ?_)
     all_goals first | omega | rfl
    | true=>
     rw[KH,KH] at hk
     rw[q02,ho]
     (repeat' first|simp (disch:=omega) only[go_sem,hp2,hq2,Ka,h00,e1,hc]|refine q00 _ (hfp) ?_|(apply spl<;>intro h<;>try simp (disch:=omega) only[go_sem,h]))
     all_goals first | omega | skip
     exact ⟨i+1,by first | rfl | (rw[q02,ho]; rfl),⟨by omega,hk⟩,by omega⟩
 ·rw[Vn (by omega),q7p] at hk
  rw[←hk,KH,q02,ho,he,Km,Kx,q02 e]
  (repeat' first|simp (disch:=omega) only[go_sem,Ka,Kb,Kg]|(apply spl<;>intro h<;>try simp (disch:=omega) only[go_sem,h]))
  all_goals first | omega | rfl
theorem qi3 (f:Sch→Bool) (x:Sch) (hb:x.bulk≤2^24) (hx:Nod x) (hkd:0≤q0p x) (hf : ∀ y,y∈x.kids→q0k CI 983 [q03 y] (.bool (f y))):q0k CI 997 [q03 x] (.bool (qbh f x)):=by
 unfold qbh
 by_cases h4:x.s.op=4
 ·rw[if_pos h4]
  exact qhz x h4 (hx.set h4)
 rw[if_neg h4]
 by_cases h5:x.s.op=5
 ·rw[if_pos h5]
  refine q04 q3Y rfl ?_
  rw[q02,h5]
  (repeat' first|simp (disch:=omega) only[go_sem,q3Y,enter])
  all_goals first | omega | rfl
 rw[if_neg h5]
 by_cases h9:x.s.op=9
 ·rw[if_pos h9]
  obtain ⟨e,he,_,he2⟩:=hx.arg (.inl h9)
  have hfe:=hf e (by unfold Sch.kids; rw[he]; simp)
  rw[he2]
  refine q04 q3Y rfl ?_
  rw[q02] at hfe
  rw[q02,h9,he,Km,Kx,q02 e]
  by_cases hm:x.s.max=0
  ·rw[if_pos hm,hm]
   by_cases h2:e.s.op=2
   ·rw[h2] at hfe ⊢
    (repeat' first|simp (disch:=omega) only[go_sem,q3Y,enter,Kb,Kg]|refine q00 _ (hfe) ?_)
    all_goals first | omega | rfl
   ·(repeat' first|simp (disch:=omega) only[go_sem,q3Y,enter,Kb,Kg,h2]|refine q00 _ (hfe) ?_)
    all_goals first | omega | rfl | simp [h2]
  ·rw[if_neg hm]
   by_cases hp:0<x.s.max
   ·(repeat' first|simp (disch:=omega) only[go_sem,q3Y,enter,Kb,Kg,hm,hp]|refine q00 _ (hfe) ?_)
    all_goals first | omega | rfl | simp [hp]
   ·(repeat' first|simp (disch:=omega) only[go_sem,q3Y,enter,Kb,Kg,hm,hp]|refine q00 _ (hfe) ?_)
    all_goals first | omega | rfl | simp [hp]
 rw[if_neg h9]
 by_cases h10:x.s.op=10
 ·rw[if_pos h10]
  exact qhB f x hb hx h10 fun p hp=>hf p.2 (by unfold Sch.kids; exact List.mem_append_left _ (Va hp))
 rw[if_neg h10]
 have hr:=qdX x
 refine q04 q3Y rfl ?_
 rw[q02] at hr ⊢
 (repeat' first|simp (disch:=omega) only[go_sem,q3Y,enter,h4,h5,h9,h10])
 all_goals first | omega | rfl | simp [hkd]
theorem qim : ∀ n,n≤2^24→qvh 983 n
 | 0,_,x,hb,_=>by
  have:=x.bulk_eq
  omega
 | n+1,hn,x,hb,hx=>by
  have ih:=qim n (by omega)
  have L:=Sch.lens (KZ hb hn)
  have hal:=L.args
  rw[q9z]
  refine q04 qkj rfl ?_
  by_cases h12:x.s.op=12
  ·rw[decide_eq_true h12,KH]
   obtain ⟨R,hR⟩ : ∃ R,q6C (qdW n) (-1) x.a=R:=⟨_,rfl⟩
   rw[hR,q02,h12]
   (repeat' first|simp (disch:=omega) only[go_sem,qkj,enter,Ka]|(apply spl<;>intro h<;>try simp (disch:=omega) only[go_sem,h]))
   all_goals first | omega | skip
   refine q07 (α:=Nat × Int) (fun a=>{ tmps:=q0q 29 [(3,.int .i64 a.2),(11,.tsl 15 (x.a.map q03)),(12,.int .i64 x.a.length),(13,.int .i64 a.1)],heap:=[],base:=0 }) (fun a=>a.1≤x.a.length∧-1≤a.2∧q6C (qdW n) a.2 (x.a.drop a.1)=R) (fun a=>x.a.length-a.1) (0,-1) (by rfl) ⟨Kp _,VZ _,hR⟩ ?_
   rintro ⟨i,k⟩ ⟨hi,hk1,hk⟩
   simp only at hi hk1 hk
   by_cases hlt:i<x.a.length
   ·obtain ⟨a,ha⟩:=q06 hlt
    have ha2:=q0c (g:=q03) ha
    have ham:=Kc ha
    have hab:=L.kids a ham
    have hna:=hx.kid a (by unfold Sch.kids; exact List.mem_append_right _ ham)
    have hkr:=q7H a
    rw[qh6 ha] at hk
    have hm:=fun h0=>qi3 (qdW n) a (by omega) hna h0 fun y hy=>ih y (by have:=Sch.kids_bulk hy; omega) (hna.kid y hy)
    rw[q02] at ha2 hkr hm
    obtain ⟨kk,hkk⟩ : ∃ kk,q0p a=kk:=⟨_,rfl⟩
    rw[hkk] at hk hkr hm
    by_cases hle:kk≤k
    ·rw[decide_eq_true hle] at hk
     rw[←hk]
     (repeat' first|simp (disch:=omega) only[go_sem,ha2,Ka,hle]|refine q00 _ (hkr) ?_)
     all_goals first | omega | rfl
    ·rw[decide_eq_false hle] at hk
     have hm:=hm (by omega)
     obtain ⟨b,hb2⟩ : ∃ b,qbh (qdW n) a=b:=⟨_,rfl⟩
     rw[hb2] at hk hm
     cases b with
     | false=>
      simp only[VM,KH,K2] at hk
      rw[←hk]
      (repeat' first|simp (disch:=omega) only[go_sem,ha2,Ka,hle]|refine q00 _ (hkr) ?_|refine q00 _ (hm) ?_)
      all_goals first | omega | rfl
     | true=>
      simp only[VM,KH] at hk
      (repeat' first|simp (disch:=omega) only[go_sem,ha2,Ka,hle]|refine q00 _ (hkr) ?_|refine q00 _ (hm) ?_|(apply spl<;>intro h<;>try simp (disch:=omega) only[go_sem,h]))
      all_goals first | omega | skip
      exact ⟨(i+1,kk),by rfl,⟨by simp only; omega,by simp only; omega,hk⟩,by simp only; omega⟩
   ·rw[Vn (by omega),q6C] at hk
    rw[←hk]
    (repeat' first|simp (disch:=omega) only[go_sem,Ka])
    all_goals first | omega | rfl
  ·rw[decide_eq_false h12,K2,q02]
   (repeat' first|simp (disch:=omega) only[go_sem,qkj,enter,h12])
   all_goals first | omega | rfl
end Ago
set_option maxRecDepth 100000
set_option exponentiation.threshold 2000
set_option maxHeartbeats 4000000
namespace Ago
open Go (IntKind)
theorem qq6 {p:Pat} (h:q1Y p=true):p=qe2:=by
 unfold q1Y at h
 have hp:=of_decide_eq_true h
 obtain ⟨⟨o,lo,hi,mi,ma⟩,pa⟩:=p
 simp only[Pat.s,Pat.a] at hp
 obtain ⟨p1,p2,p3,p4,p5,p6⟩:=hp
 have p6:=KX.1 p6
 subst p1 p2 p3 p4 p5 p6
 rfl
theorem q7g {x:Sch} (h:q1Q x=true) (ho:x.s.op≠6∧x.s.op≠7∧x.s.op≠8∧x.s.op≠14) :
  x = .mk ⟨x.s.op,x.s.mask,x.s.min,x.s.max,[],x.s.parts,qe2,[]⟩ x.p x.a∧(x.s.op≠3→x.s.mask=0)∧(x.s.op≠5→x.s.op≠9→x.s.min=0∧x.s.max=0)∧(x.s.op≠4→x.s.parts=[])∧(x.s.op≠10→x.p=[]) ∧
   (x.s.op<9→x.a=[]):=by
 obtain ⟨⟨op,mask,min,max,name,parts,pat,vals⟩,p,a⟩:=x
 unfold q1Q at h
 rw[Kd,Kd,KM,KM] at h
 obtain ⟨⟨hb,hn⟩,hp⟩:=h
 have hb:=of_decide_eq_true hb
 simp only[Sch.s,Sch.p,Sch.a] at hb hn hp ho ⊢
 obtain ⟨b1,b2,b3,b4,b5,b6⟩:=hb
 have hname:name=[]:=by
  rcases hn with hn | hn
  ·have:=of_decide_eq_true hn
   omega
  ·simpa using hn
 have hpat:pat=qe2:=by
  rcases hp with hp | hp
  ·have:=of_decide_eq_true hp
   omega
  ·exact qq6 hp
 have c4:=KX.1 (show vals.length=0 by omega)
 subst hname hpat c4
 exact ⟨rfl,fun h=>by omega,fun h1 h2=>by omega,fun h=>KX.1 (by omega),fun h=>KX.1 (by omega),fun h=>KX.1 (by omega)⟩
theorem qdn {x:Sch} (h:Nod x) (ho:x.s.op=2):x=noneX:=by
 obtain ⟨e,h1,h2,h3,h4,h5⟩:=q7g h.blank (by omega)
 rw[e,h1 (by omega),(h2 (by omega) (by omega)).1,(h2 (by omega) (by omega)).2,h3 (by omega),h4 (by omega),h5 (by omega),ho]
 rfl
theorem qlH {x:Sch} (h:0≤q0p x):x.s.op=3∨x.s.op=4∨x.s.op=5∨x.s.op=9∨x.s.op=10:=by
 unfold q0p at h
 by_cases h3:x.s.op=3
 ·exact .inl h3
 ·rw[if_neg h3] at h
  by_cases h4:x.s.op=4
  ·exact .inr (.inl h4)
  ·rw[if_neg h4] at h
   by_cases h5:x.s.op=5
   ·exact .inr (.inr (.inl h5))
   ·rw[if_neg h5] at h
    by_cases h9:x.s.op=9
    ·exact .inr (.inr (.inr (.inl h9)))
    ·rw[if_neg h9] at h
     by_cases h10:x.s.op=10
     ·exact .inr (.inr (.inr (.inr h10)))
     ·rw[if_neg h10] at h
      omega
theorem qdb {f:Sch→Bool} : ∀ {k:Option (List UInt8)} {l:List (PK × Sch)},q7p f k l=true→∀ p,p∈l→f p.2=true
 | _,[],_,p,hp=>by cases hp
 | k,q::l,h,p,hp=>by
  rw[q7t,Kd,Kd] at h
  rcases Ks.1 hp with rfl | hp
  ·exact h.1.2
  ·exact qdb h.2 p hp
theorem qiG {f:Sch→Bool} (hf : ∀ y,Nod y→f y=true→FamF y) {x:Sch} (hx:Nod x) (hk:0≤q0p x) (h:qbh f x=true):MemF x:=by
 have ho:=qlH hk
 obtain ⟨e,h1,h2,h3,h4,h5⟩:=q7g hx.blank (by omega)
 unfold qbh at h
 rcases ho with ho | ho | ho | ho | ho
 ·rw[e,(h2 (by omega) (by omega)).1,(h2 (by omega) (by omega)).2,h3 (by omega),h4 (by omega),h5 (by omega),ho]
  exact .kind _
 ·rw[if_pos ho] at h
  obtain ⟨_,hok⟩:=qaE (hx.set ho)
  match hp:x.s.parts,h with
  | [p],h=>
   have hpo:=hok p (by rw[hp]; simp)
   have h:qp0 p=true:=h
   unfold qp0 at h
   simp only[Kd] at h
   rw[e,h1 (by omega),(h2 (by omega) (by omega)).1,(h2 (by omega) (by omega)).2,hp,h4 (by omega),h5 (by omega),ho]
   exact .num p (qjc hpo h.1.1.1.1.1) (qiQ hpo h.1.1.1.1.2)
 ·rw[e,h1 (by omega),h3 (by omega),h4 (by omega),h5 (by omega),ho]
  exact .text _ _
 ·rw[if_neg (by omega),if_neg (by omega),if_pos ho] at h
  obtain ⟨a,ha,hna,ha2⟩:=hx.arg (.inl ho)
  rw[ha2] at h
  rw[e,h1 (by omega),h3 (by omega),h4 (by omega),ha,ho]
  by_cases hm:x.s.max=0
  ·rw[if_pos hm] at h
   rw[qdn hna (of_decide_eq_true h)]
   exact .list0 _ _
  ·rw[if_neg hm,Kd] at h
   exact q8X (.inr (hf a hna h.2))
 ·rw[if_neg (by omega),if_neg (by omega),if_neg (by omega),if_pos ho,Kd] at h
  obtain ⟨a,ha,hna,ha2⟩:=hx.arg (.inr ho)
  rw[ha2] at h
  rw[e,h1 (by omega),(h2 (by omega) (by omega)).1,(h2 (by omega) (by omega)).2,h3 (by omega),ha,qdn hna (of_decide_eq_true h.2),ho]
  refine qbx fun p hp=>hf p.2 (hx.kid p.2 ?_) (qdb h.1 p hp)
  unfold Sch.kids
  exact List.mem_append_left _ (Va hp)
theorem qaT {f:Sch→Bool} (hf : ∀ y,Nod y→f y=true→FamF y) : ∀ (l:List Sch) (k:Int),-1≤k→(∀ y,y∈l→Nod y)→q6C f k l=true→∀ y,y∈l→MemF y
 | [],_,_,_,_,y,hy=>by cases hy
 | a::l,k,hk,hn,h,y,hy=>by
  rw[q6C,Kd,Kd] at h
  have hlt:k<q0p a:=by
   have:=h.1.1
   simp only[V0,decide_eq_false_iff_not] at this
   omega
  rcases Ks.1 hy with rfl | hy
  ·exact qiG hf (hn _ (Kj ..)) (by omega) h.1.2
  ·exact qaT hf l (q0p a) (by omega) (fun z hz=>hn z (Kl _ hz)) h.2 y hy
theorem qfR : ∀ (n:Nat) (x:Sch),Nod x→qdW n x=true→FamF x
 | 0,x,_,h=>by
  rw[qkG] at h
  cases h
 | n+1,x,hx,h=>by
  rw[q9z,Kd] at h
  have ho:=of_decide_eq_true h.1
  obtain ⟨e,h1,h2,h3,h4,_⟩:=q7g hx.blank (by omega)
  refine ⟨x.a,?_,qaT (qfR n) x.a (-1) (VZ _) (fun y hy=>hx.kid y (by unfold Sch.kids; exact List.mem_append_right _ hy)) h.2⟩
  conv=>lhs; rw[e,h1 (by omega),(h2 (by omega) (by omega)).1,(h2 (by omega) (by omega)).2,h3 (by omega),h4 (by omega),ho]
  rfl
theorem qfK {x:Sch} (h:q78 x=0):Nod x:=by
 unfold q78 q5l at h
 have h0:q9Z (q83 x) [] (q83 x).defs=0:=rfl
 rw[if_pos h0] at h
 by_cases h1:q15 (q83 x) 48 (q83 x).root=0
 ·rw[if_pos h1] at h
  refine qp4 (q83 x) 48 x h1 ?_
  cases hd:q3c 48 x with
  | false=>rfl
  | true=>
   have:(q71 (q83 x).defs || q3c 48 (q83 x).root)=true:=by
    show (q71 (q83 x).defs || q3c 48 x)=true
    rw[hd,Bool.or_true]
   rw[if_pos this] at h
   cases h
 ·rw[if_neg h1] at h
  exact (h1 h).elim
def qli (x:Sch):Bool:=decide (q78 x=0) && qdW x.bulk x
theorem qao (x:Sch) (hx:x.bulk<2^24):q0k CI 972 [q03 x] (.bool (qli x))∧True:=by
 have h1:=qn0 (qd1 (q83 x) (by rw[qdv]; omega) [] true (qae x))
 have f1:=fun h=>qim x.bulk (by omega) x (Ko _) (qfK h)
 unfold qli
 rw[q9g] at h1
 unfold q78 at *
 generalize q5l (q83 x) true=e at *
 generalize qdW x.bulk x=b at *
 by_cases he:e=0
 ·subst he
  have f1:=f1 rfl
  rw[q02 x] at f1 ⊢
  refine ⟨q04 qgQ rfl ?_,trivial⟩
  ·(repeat' first|simp (disch:=omega) only[go_sem,qgQ,enter]|refine q00 _ (h1) ?_|refine q00 _ (f1) ?_)
   all_goals rfl
 ·rw[decide_eq_false he,K2,q02 x]
  refine ⟨q04 qgQ rfl ?_,trivial⟩
  ·(repeat' first|simp (disch:=omega) only[go_sem,qgQ,enter,he]|refine q00 _ (h1) ?_)
   all_goals rfl
theorem qfJ {x:Sch} (h:qli x=true):FamF x:=by
 unfold qli at h
 rw[Kd] at h
 exact qfR _ x (qfK (of_decide_eq_true h.1)) h.2
end Ago
