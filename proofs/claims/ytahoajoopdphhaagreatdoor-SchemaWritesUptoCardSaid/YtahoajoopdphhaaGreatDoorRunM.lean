/- The text of a pattern: the reference. -/
import Derived.Test.YtahoajoopdphhaaGreatDoorRunL
import Derived.Test.YtahoajoopdphhaaGreatDoorRunD
import Derived.Test.YtahoajoopdphhaaGreatDoorRunJ
import Derived.Test.YtahoajoopdphhaaGreatDoorRunH
set_option linter.unusedSimpArgs false
set_option linter.unusedVariables false
set_option maxRecDepth 100000
set_option maxHeartbeats 4000000
namespace Ago
open Go (IntKind)
theorem qmC (n:Nat) : ∀ i,i<14→∃ c:UInt8,q5a[i]?=some c:=fun i hi=>⟨q5a[i],Ki hi⟩
theorem qkj (n:Nat) (hn:n<256) (c:UInt8):((c.toNat:Int)=n)↔c=UInt8.ofNat n:=by
 constructor
 ·intro h
  have:c.toNat=n:=by omega
  rw[←this]
  simp
 ·intro h
  subst h
  rw[UInt8.toNat_ofNat',Nat.mod_eq_of_lt (by omega)]
theorem q6I (n:Nat) (hn:n<256):q0m CT 415 [.int .i64 n] (.str (q3Z n)):=by
 obtain ⟨A,hA,hA1,hA2⟩ : ∃ A,List.drop (n / 16) (List.take (((n / 16:Nat):Int)+1).toNat [48,49,50,51,52,53,54,55,56,57,97,98,99,100,101,102])=A∧A.length≤1∧(hexB.drop (n / 16)).take 1=A:=⟨_,rfl,qwJ n hn⟩
 obtain ⟨A',hB,hB1,hB2⟩ : ∃ A,List.drop (n % 16) (List.take (((n % 16:Nat):Int)+1).toNat [48,49,50,51,52,53,54,55,56,57,97,98,99,100,101,102])=A∧A.length≤1∧(hexB.drop (n % 16)).take 1=A:=⟨_,rfl,qwU n hn⟩
 have hby:q6y (.int .u8 (n:Int))=some (UInt8.ofNat n):=rfl
 have e1:(n:Int).tdiv 16=((n / 16:Nat):Int):=by
  rw[Int.tdiv_eq_ediv_of_nonneg (by omega)]
  omega
 have e2:(n:Int).tmod 16=((n % 16:Nat):Int):=by
  rw[Int.tmod_eq_emod_of_nonneg (by omega)]
  omega
 refine q05 qjG rfl ?_
 by_cases hp:33≤n∧n≤126
 ·(repeat' first|simp (disch:=omega) only[go_sem,qjG,enter,e1,e2,hA,hB,hby,Kb,List.length_cons,List.length_nil]|(apply spl<;>intro h<;>try simp (disch:=omega) only[go_sem,h]))
  refine q0a (α:=Nat) (fun i=>{ tmps:=q0i 51 [(0,.int .i64 n),(3,.int .i64 i)],heap:=[],base:=0 }) (fun i=>i≤14∧∀ j,j<i→q5a[j]?≠some (UInt8.ofNat n)) (fun i=>14-i) 0 rfl ⟨by omega,fun j hj=>by omega⟩ ?_
  rintro i ⟨hi,hno⟩
  by_cases hlt:i<14
  ·obtain ⟨c,hc⟩:=qmC n i hlt
   have hc2:=hc
   unfold q5a at hc2
   have hcn:c.toNat<256:=UInt8.toNat_lt c
   by_cases hm:c=UInt8.ofNat n
   ·have hcm:(c.toNat:Int)=n:=(qkj n hn c).2 hm
    have e:q3Z n=[92,120]++(hexB.drop (n / 16)).take 1++(hexB.drop (n % 16)).take 1:=by
     unfold q3Z
     rw[if_neg]
     rintro ⟨_,_,h⟩
     exact h (hm▸Kc hc)
    rw[e,hA2,hB2]
    (repeat' first|simp (disch:=omega) only[go_sem,hc2,qbG,hcm,e1,e2,hA,hB,hby,Kb,List.length_cons,List.length_nil])
    all_goals first | omega | (simp; done)
   ·have hcm : ¬ (c.toNat:Int)=n:=fun h=>hm ((qkj n hn c).1 h)
    (repeat' first|simp (disch:=omega) only[go_sem,hc2,qbG,hcm,e1,e2,hA,hB,hby,Kb,List.length_cons,List.length_nil]|(apply spl<;>intro h<;>try simp (disch:=omega) only[go_sem,h]))
    all_goals first | omega | exact ⟨i+1,rfl,⟨by omega,fun j hj=>by
     by_cases hji:j=i
     ·subst hji; rw[hc]; intro h; exact hm (K7 h)
     ·exact hno j (by omega)⟩,by omega⟩
  ·have e:q3Z n=[UInt8.ofNat n]:=by
    unfold q3Z
    have hnm : ¬ UInt8.ofNat n∈q5a:=fun h=>by
     obtain ⟨j,hj⟩:=Vp h
     have hj14:j<14:=(Ks.1 hj).1
     exact hno j (by omega) hj
    rw[if_pos ⟨hp.1,hp.2,hnm⟩]
   rw[e]
   (repeat' first|simp (disch:=omega) only[go_sem,hby,List.length_cons,List.length_nil])
   all_goals first | omega | (simp; done)
 ·have e:q3Z n=[92,120]++(hexB.drop (n / 16)).take 1++(hexB.drop (n % 16)).take 1:=by unfold q3Z; rw[if_neg (by omega)]
  rw[e,hA2,hB2]
  (repeat' first|simp (disch:=omega) only[go_sem,qjG,enter,e1,e2,hA,hB,hby,Kb,List.length_cons,List.length_nil]|(apply spl<;>intro h<;>try simp (disch:=omega) only[go_sem,h]))
  all_goals first | omega | (simp; done)
theorem q5Z (n:Nat) (hn:n<100):q0m CT 427 [.int .i64 n] (.str (qge n)):=by
 have small : ∀ m:Nat,m<10→q0m CT 427 [.int .i64 m] (.str [UInt8.ofNat (48+m)]):=fun m hm=>by
  have hby:q6y (.int .u8 (48+(m:Int)))=some (UInt8.ofNat (48+m)):=by
   show some (UInt8.ofNat (48+(m:Int)).toNat)=_
   congr 2
  refine q05 qid rfl ?_
  (repeat' first|simp (disch:=omega) only[go_sem,qid,enter,hby])
  all_goals first | omega
 by_cases h:n<10
 ·have:=small n h
  unfold qge
  rw[if_pos h]
  exact this
 ·have s1:=small (n / 10) (by omega)
  have s2:=small (n % 10) (by omega)
  have e1:(n:Int).tdiv 10=((n / 10:Nat):Int):=by
   rw[Int.tdiv_eq_ediv_of_nonneg (by omega)]
   omega
  have e2:(n:Int).tmod 10=((n % 10:Nat):Int):=by
   rw[Int.tmod_eq_emod_of_nonneg (by omega)]
   omega
  refine q05 qid rfl ?_
  unfold qge
  rw[if_neg h]
  (repeat' first|simp (disch:=omega) only[go_sem,qid,enter,e1,e2,List.length_cons,List.length_nil]|refine q00 _ (s1) ?_|refine q00 _ (s2) ?_)
  all_goals first | omega | (simp; done)
theorem qck (mn mx:Int) (h1:0≤mn) (h2:mn≤64) (h3:mx = -1∨mn≤mx∧mx≤64):q0m CT 418 [.int .i64 mn,.int .i64 mx] (.str (qk3 mn mx)):=by
 have a:=q5Z mn.toNat (by omega)
 have b:mx ≠ -1→q0m CT 427 [.int .i64 mx] (.str (qge mx.toNat)):=fun h=>by
  have:=q5Z mx.toNat (by omega)
  rwa [show ((mx.toNat:Nat):Int)=mx by omega] at this
 rw[show ((mn.toNat:Nat):Int)=mn by omega] at a
 have l1:=q3Q mn.toNat
 have l2:=q3Q mx.toNat
 have a0:=q5Z 0 (by decide)
 have l3:=q3Q 0
 have l4:=q3Q 1
 have a1:=q5Z 1 (by decide)
 refine q05 qiA rfl ?_
 unfold qk3
 by_cases m0:mn=0
 ·subst m0
  (repeat' first|simp (disch:=omega) only[go_sem,qiA,enter,Kb,List.length_cons,List.length_nil]|refine q00 _ (a0) ?_|refine q00 _ (b (by omega)) ?_|(apply spl<;>intro h<;>try simp (disch:=omega) only[go_sem,h]))
  all_goals first | omega | (simp_all; done)
 ·by_cases m1:mn=1
  ·subst m1
   (repeat' first|simp (disch:=omega) only[go_sem,qiA,enter,Kb,List.length_cons,List.length_nil]|refine q00 _ (a1) ?_|refine q00 _ (b (by omega)) ?_|(apply spl<;>intro h<;>try simp (disch:=omega) only[go_sem,h]))
   all_goals first | omega | (simp_all; done)
  ·(repeat' first|simp (disch:=omega) only[go_sem,qiA,enter,m0,m1,Kb,List.length_cons,List.length_nil]|refine q00 _ (a) ?_|refine q00 _ (b (by omega)) ?_|(apply spl<;>intro h<;>try simp (disch:=omega) only[go_sem,h]))
   all_goals first | omega | (simp_all; done)
theorem qe1 (d:Nat) (x:Pat) (hx:q1a d x=true) (hb:x.bulk≤2^24) (least:Int) (hw:q0m CT 402 [q04 x] (.str (q0r d x))):q0m CT 417 [q04 x,.int .i64 least] (.str (q2y (q0r d) least x)):=by
 have hlen:=q4w d x hx
 have hv:=qeO x.s.op
 refine q05 ql4 rfl ?_
 rw[q0e] at hw ⊢
 unfold q2y
 by_cases hle:least≤qpp x.s.op
 ·rw[if_pos hle]
  (repeat' first|simp (disch:=omega) only[go_sem,ql4,enter,hle,Kb,List.length_cons,List.length_nil]|refine q00 _ (hv) ?_|refine q00 _ (hw) ?_)
  all_goals first | omega | (simp; done)
 ·rw[if_neg hle]
  (repeat' first|simp (disch:=omega) only[go_sem,ql4,enter,hle,Kb,List.length_cons,List.length_nil]|refine q00 _ (hv) ?_|refine q00 _ (hw) ?_)
  all_goals first | omega | (simp; done)
theorem q8L : ∀ (l:List AV) (k:Nat),AV.bulks (l.take k)≤AV.bulks l
 | [],k=>by simp
 | y::l,0=>by simp [AV.bulks]
 | y::l,k+1=>by
  have:=q8L l k
  simp only[K4,AV.bulks]
  omega
theorem qiR (d:Nat) (l:List Pat) (hl:l.length<2^24) (hbk:AV.bulks (l.map q04)≤2^24) (sep:List UInt8) (hs:sep.length≤1) (least:Int) (hn : ∀ x,x∈l→q1a d x=true) (hw : ∀ x,x∈l→q0m CT 402 [q04 x] (.str (q0r d x))) :
  q0m CT 416 [.tsl 6 (l.map q04),.str sep,.int .i64 least] (.str (q1o sep (l.map (q2y (q0r d) least)))):=by
 have hle : ∀ k,k≤l.length→(q1o sep ((l.take k).map (q2y (q0r d) least))).length≤2^25:=fun k hk=>by
  have h1:=q2n sep hs (q2y (q0r d) least) (l.take k) fun y hy=>q45 d least y (hn y (KB hy))
  rw[show (l.take k).map q04=(l.map q04).take k from V9 ..] at h1
  have h2:=q8L (l.map q04) k
  omega
 refine q05 qnT rfl ?_
 (repeat' first|simp (disch:=omega) only[go_sem,qnT,enter,Ka]|(apply spl<;>intro h<;>try simp (disch:=omega) only[go_sem,h]))
 refine q0a (α:=Nat) (fun k=>{ tmps:=q0i 29 [(0,.tsl 6 (l.map q04)),(1,.str sep),(2,.int .i64 least),(7,.str (q1o sep ((l.take k).map (q2y (q0r d) least)))),(8,.int .i64 k)],heap:=[],base:=0 }) (fun k=>k≤l.length) (fun k=>l.length-k) 0 rfl (Kn _) ?_
 intro k hk
 by_cases hlt:k<l.length
 ·obtain ⟨x,hx⟩:=q08 hlt
  have hxm:=Kc hx
  have hx2:=q0d (g:=q04) hx
  have hxb:x.bulk≤2^24:=by
   have:=q3C _ _ _ hx2
   show (q04 x).bulk≤_
   omega
  have ha:=qe1 d x (hn x hxm) hxb least (hw x hxm)
  have hal:=q45 d least x (hn x hxm)
  have hcat:=q4d sep (q2y (q0r d) least) hx
  have h1:=hle k hk
  generalize hJ:q1o sep ((l.take k).map (q2y (q0r d) least))=J at h1 hcat
  rw[q0e] at hx2 ha
  by_cases hk0:k=0
  ·subst hk0
   rw[if_pos rfl,Kj] at hcat
   (repeat' first|simp (disch:=omega) only[go_sem,hx2,Ka,Kb]|refine q00 _ (ha) ?_|(apply spl<;>intro h<;>try simp (disch:=omega) only[go_sem,h]))
   all_goals first | omega | exact ⟨1,by rw[hcat]; rfl,by omega,by omega⟩
  ·rw[if_neg hk0] at hcat
   (repeat' first|simp (disch:=omega) only[go_sem,hx2,hk0,Ka,Kb]|refine q00 _ (ha) ?_|(apply spl<;>intro h<;>try simp (disch:=omega) only[go_sem,h]))
   all_goals first | omega | exact ⟨k+1,by rw[hcat]; rfl,by omega,by omega⟩
 ·have hfull:l.take k=l:=Kz (by omega)
  rw[hfull]
  (repeat' first|simp (disch:=omega) only[go_sem,Ka])
  all_goals first | omega | rfl
theorem qaP : ∀ (d:Nat) (p:Pat),q1a d p=true→p.bulk≤2^24→q0m CT 402 [q04 p] (.str (q0r d p))
 | 0,p,h=>by cases h
 | d+1,p,hp0=>by
  intro hb
  have hall:=hp0
  rw[q2u,Kk,Kp] at hp0
  obtain ⟨hf,hk⟩:=hp0
  have L:=Pat.lens hb
  have hal:=L.args
  have hbe:=p.bulk_eq
  have hlen:=q4w (d+1) p hall
  have ih : ∀ x,x∈p.a→q0m CT 402 [q04 x] (.str (q0r d x)):=fun x hx=>qaP d x (hk x hx) (by have:=L.kids x hx; omega)
  have hlist : ∀ (sep:List UInt8) (least:Int),sep.length≤1→q0m CT 416 [.tsl 6 (p.a.map q04),.str sep,.int .i64 least] (.str (q1o sep (p.a.map (q2y (q0r d) least)))):=fun sep least hs=>qiR d p.a (by omega) (by omega) sep hs least (fun x hx=>hk x hx) ih
  have one : ∀ (least:Int),p.a.length=1→∃ x,p.a[0]?=some x∧(p.a.map q04)[0]?=some (q04 x)∧q0m CT 417 [q04 x,.int .i64 least] (.str (q2y (q0r d) least x))∧q1o [] (p.a.map (q2y (q0r d) least))=q2y (q0r d) least x∧(q2y (q0r d) least x).length≤2^26:=fun least h1=>by
   obtain ⟨x,hx⟩:=q08 (show 0<p.a.length by omega)
   have hxm:=Kc hx
   have hxb:=L.kids x hxm
   refine ⟨x,hx,q0d (g:=q04) hx,qe1 d x (hk x hxm) (by omega) least (ih x hxm),?_,by have:=q45 d least x (hk x hxm); omega⟩
   match hpa:p.a,h1,hx with
   | [y],_,hx=>
    simp at hx
    subst hx
    simp [q1o,qaQ]
  have hforms:p.s.op=0∨p.s.op=1∨p.s.op=2∨p.s.op=3∨p.s.op=4∨p.s.op=5∨p.s.op=6∨p.s.op=7:=by
   have:=hf
   unfold q2m at this
   rw[decide_eq_true_eq] at this
   omega
  refine q05 q7I rfl ?_
  have e0:=q0e p
  rcases hforms with ho | ho | ho | ho | ho | ho | ho | ho
  ·rw[show q0r (d+1) p=[91,93] by rw[q0Z]; simp [ho],e0,ho]
   (repeat' first|simp (disch:=omega) only[go_sem,q7I,enter])
   all_goals first | omega | rfl
  ·rw[show q0r (d+1) p=[40,41] by rw[q0Z]; simp [ho],e0,ho]
   (repeat' first|simp (disch:=omega) only[go_sem,q7I,enter])
   all_goals first | omega | rfl
  ·obtain ⟨r1,r2,r3⟩:=qcW hf ho
   rw[show q0r (d+1) p=qnN p.s.lo p.s.hi by rw[q0Z]; simp [ho],e0,ho]
   have b1:=q6I p.s.lo.toNat (by omega)
   have b2:=q6I p.s.hi.toNat (by omega)
   have l1:=q3V p.s.lo.toNat (by omega)
   have l2:=q3V p.s.hi.toNat (by omega)
   have l3:=q3V 0 (by omega)
   have b3:=q6I 0 (by omega)
   rw[show ((p.s.lo.toNat:Nat):Int)=p.s.lo by omega] at b1
   rw[show ((p.s.hi.toNat:Nat):Int)=p.s.hi by omega] at b2
   unfold qnN
   by_cases q1:p.s.lo=p.s.hi
   ·rw[if_pos q1,q1]
    (repeat' first|simp (disch:=omega) only[go_sem,q7I,enter]|refine q00 _ (b2) ?_)
    all_goals first | omega | rfl
   ·rw[if_neg q1]
    by_cases q3:p.s.lo=0
    ·by_cases q4:p.s.hi=255
     ·rw[if_pos ⟨q3,q4⟩,q3,q4]
      (repeat' first|simp (disch:=omega) only[go_sem,q7I,enter])
      all_goals first | omega | rfl
     ·rw[if_neg (fun h=>q4 h.2),q3]
      rw[q3] at q1
      (repeat' first|simp (disch:=omega) only[go_sem,q7I,enter,q1,q4,Kb,List.length_cons,List.length_nil]|refine q00 _ (b3) ?_|refine q00 _ (b2) ?_)
      all_goals first | omega | rfl | (simp; done)
    ·rw[if_neg (fun h=>q3 h.1)]
     (repeat' first|simp (disch:=omega) only[go_sem,q7I,enter,q1,q3,Kb,List.length_cons,List.length_nil]|refine q00 _ (b1) ?_|refine q00 _ (b2) ?_)
     all_goals first | omega | rfl | (simp; done)
  ·have h1:=hlist [] 4 (by simp)
   rw[show q0r (d+1) p=q1o [] (p.a.map (q2y (q0r d) 4)) by rw[q0Z]; simp [ho],e0,ho]
   (repeat' first|simp (disch:=omega) only[go_sem,q7I,enter]|refine q00 _ (h1) ?_)
   all_goals first | omega | rfl
  ·have h1:=hlist [124] 2 (by simp)
   rw[show q0r (d+1) p=q1o [124] (p.a.map (q2y (q0r d) 2)) by rw[q0Z]; simp [ho],e0,ho]
   (repeat' first|simp (disch:=omega) only[go_sem,q7I,enter]|refine q00 _ (h1) ?_)
   all_goals first | omega | rfl
  ·obtain ⟨f1,f2,f3,f4⟩:=qcM hf ho
   obtain ⟨x,hx,hx2,ha,hj,hjl⟩:=one 5 f1
   have bb:=qck p.s.min p.s.max f2 f3 f4
   have bl:=qcd p.s.min p.s.max
   rw[show q0r (d+1) p=q1o [] (p.a.map (q2y (q0r d) 5))++qk3 p.s.min p.s.max by rw[q0Z]; simp [ho],hj,e0,ho]
   rw[q0e] at hx2 ha
   (repeat' first|simp (disch:=omega) only[go_sem,q7I,enter,hx2,Kb]|refine q00 _ (ha) ?_|refine q00 _ (bb) ?_)
   all_goals first | omega | rfl
  ·have h1:=hlist [38] 3 (by simp)
   rw[show q0r (d+1) p=q1o [38] (p.a.map (q2y (q0r d) 3)) by rw[q0Z]; simp [ho],e0,ho]
   (repeat' first|simp (disch:=omega) only[go_sem,q7I,enter]|refine q00 _ (h1) ?_)
   all_goals first | omega | rfl
  ·obtain ⟨x,hx,hx2,ha,hj,hjl⟩:=one 4 (qmA hf ho)
   rw[show q0r (d+1) p=33::q1o [] (p.a.map (q2y (q0r d) 4)) by rw[q0Z]; simp [ho],hj,e0,ho]
   rw[q0e] at hx2 ha
   (repeat' first|simp (disch:=omega) only[go_sem,q7I,enter,hx2,Kb]|refine q00 _ (ha) ?_)
   all_goals first | omega | rfl | (simp; done)
theorem qff (p:Pat) (hb:p.bulk≤2^24):q0m CT 389 [q04 p] (.str (if q7e p then q0r 48 p else [])):=by
 refine q05 qlG rfl ?_
 have hv:=upT (q5S p hb)
 have e0:=q0e p
 cases ho:q7e p with
 | false=>
  rw[ho] at hv
  rw[e0] at hv ⊢
  (repeat' first|simp (disch:=omega) only[go_sem,qlG,enter]|refine q00 _ (hv) ?_)
  all_goals first | omega | rfl
 | true=>
  rw[ho] at hv
  have hn:q1a 48 p=true:=by
   unfold q7e at ho
   rw[Kk] at ho
   exact ho.1
  have hs:=qaP 48 p hn hb
  rw[if_pos rfl]
  rw[e0] at hv hs ⊢
  (repeat' first|simp (disch:=omega) only[go_sem,qlG,enter]|refine q00 _ (hv) ?_|refine q00 _ (hs) ?_)
  all_goals first | omega | rfl
end Ago
set_option maxRecDepth 100000
set_option maxHeartbeats 4000000
namespace Ago
open Go (IntKind)
theorem q9D {α:Type} {f:α→α} {l:List α} (h : ∀ x,x∈l→f x=x):l.map f=l:=by
 induction l with
 | nil=>rfl
 | cons x l ih=>rw[Kd,h x (Ku ..),ih fun y hy=>h y (Kt _ hy)]
def qb5:V:=.mk ⟨0,false,⟨false,[],0⟩,⟨0,0,0,0⟩,[],[]⟩ [] []
def q6n (b:Bool):V:=.mk ⟨1,b,⟨false,[],0⟩,⟨0,0,0,0⟩,[],[]⟩ [] []
def q0A (l:List V):V:=.mk ⟨6,false,⟨false,[],0⟩,⟨0,0,0,0⟩,[],[]⟩ l []
def qlN (f:List (List UInt8 × V)):V:=.mk ⟨7,false,⟨false,[],0⟩,⟨0,0,0,0⟩,[],[]⟩ [] f
theorem q4p:q0g qb5 = .agg [.int .i64 0,.bool false,.bool false,.str [],.int .i64 0,.int .i64 0,.int .i64 0,.int .i64 0,.int .i64 0,.str [],.tsl 1 [],.tsl 13 [],.tsl 14 []]:=by
 rw[q07]; rfl
theorem q3X (b:Bool):q0g (q6n b) = .agg [.int .i64 1,.bool b,.bool false,.str [],.int .i64 0,.int .i64 0,.int .i64 0,.int .i64 0,.int .i64 0,.str [],.tsl 1 [],.tsl 13 [],.tsl 14 []]:=by
 rw[q07]; rfl
theorem q58 (l:List V):q0g (q0A l) = .agg [.int .i64 6,.bool false,.bool false,.str [],.int .i64 0,.int .i64 0,.int .i64 0,.int .i64 0,.int .i64 0,.str [],.tsl 1 [],.tsl 13 (l.map q0g),.tsl 14 []]:=by
 rw[q07]; rfl
theorem q7t (f:List (List UInt8 × V)):q0g (qlN f) = .agg [.int .i64 7,.bool false,.bool false,.str [],.int .i64 0,.int .i64 0,.int .i64 0,.int .i64 0,.int .i64 0,.str [],.tsl 1 [],.tsl 13 [],.tsl 14 (f.map q0J)]:=by
 rw[q07]; rfl
def q0x (k:List UInt8) (v:V):V:=qlN [(k,v)]
def q2j (n:Int):V:=if n = -1 then qb5 else q5t (q5p n.toNat)
theorem qjc:q0m CT 606 [] (q0g qb5):=by
 refine q05 qmq rfl ?_
 rw[q4p]
 (repeat' first|simp (disch:=omega) only[go_sem,qmq,enter])
 all_goals first | rfl
theorem qaS (b:Bool):q0m CT 569 [.bool b] (q0g (q6n b)):=by
 refine q05 qn7 rfl ?_
 rw[q3X]
 (repeat' first|simp (disch:=omega) only[go_sem,qn7,enter])
 all_goals first | rfl
theorem q6G (b:Bool):q0m CT 526 [.bool b] (q0g (q6n b)):=by
 refine q05 qnE rfl ?_
 rw[q3X]
 (repeat' first|simp (disch:=omega) only[go_sem,qnE,enter])
 all_goals first | rfl
theorem q1G (l:List V):q0m CT 529 [.tsl 13 (l.map q0g)] (q0g (q0A l)):=upT (qjR l)
theorem q2r (s:List UInt8):q0m CT 195 [.str s] (q0g (q1v s)):=by
 refine q05 qnL rfl ?_
 rw[q3e]
 (repeat' first|simp (disch:=omega) only[go_sem,qnL,enter])
 all_goals first | rfl
theorem q4v (s:List UInt8):q0m CT 124 [.str s] (q0g (q1v s)):=upT (upS (Ago.text_run s))
theorem q1R (k:List UInt8) (v:V):q0m CT 570 [.str k,q0g v] (q0g (q0x k v)):=by
 refine q05 qnV rfl ?_
 unfold q0x
 have e:q0J (k,v)=_:=q17 (k,v)
 rw[q7t,Kd,Kl,e]
 rw[q07 v]
 (repeat' first|simp (disch:=omega) only[go_sem,qnV,enter])
 all_goals first | rfl
theorem q1Q (k:List UInt8) (v:V):q0m CT 528 [.str k,q0g v] (q0g (q0x k v)):=by
 refine q05 qne rfl ?_
 unfold q0x
 have e:q0J (k,v)=_:=q17 (k,v)
 rw[q7t,Kd,Kl,e]
 rw[q07 v]
 (repeat' first|simp (disch:=omega) only[go_sem,qne,enter])
 all_goals first | rfl
theorem qdY (n:Int) (h:n = -1∨0≤n∧n≤65536):q0m CT 573 [.int .i64 n] (q0g (q2j n)):=by
 refine q05 qlu rfl ?_
 unfold q2j
 have h1:=qjc
 by_cases hn:n = -1
 ·subst hn
  rw[if_pos rfl]
  rw[q4p] at h1 ⊢
  (repeat' first|simp (disch:=omega) only[go_sem,qlu,enter]|refine q00 _ (h1) ?_)
  all_goals first | rfl
 ·have h2:=upT (upS (qjw n.toNat (by omega)))
  rw[show ((n.toNat:Nat):Int)=n by omega] at h2
  rw[if_neg hn]
  rw[q7i] at h2 ⊢
  (repeat' first|simp (disch:=omega) only[go_sem,qlu,enter,hn]|refine q00 _ (h2) ?_)
  all_goals first | rfl
theorem qfv (n:Nat) (hn:n≤65536):q0m CT 579 [.int .i64 n] (.str (qcP n)):=by
 refine q05 qnf rfl ?_
 (repeat' first|simp (disch:=omega) only[go_sem,qnf,enter]|(apply spl<;>intro h<;>try simp (disch:=omega) only[go_sem,h]))
 refine q0a (α:=Nat × List UInt8) (fun a=>{ tmps:=q0i 17 [(0,.int .i64 a.1),(3,.str a.2)],heap:=[],base:=0 }) (fun a=>a.1≤65536∧a.2.length+(q4C a.1 a.1).length≤10∧qcP n=qcP a.1++a.2) (fun a=>a.1) (n,[]) rfl ⟨hn,by have:=q9g hn; unfold qcP at this; rw[List.length_reverse] at this; simp; omega,by simp⟩ ?_
 rintro ⟨m,l⟩ ⟨hm,hl,he⟩
 simp only at hm hl he
 by_cases h0:m=0
 ·subst h0
  rw[he]
  have:qcP 0=[]:=by simp [qcP,q4C]
  rw[this,Kh]
  (repeat' first|simp (disch:=omega) only[go_sem,gt_iff_lt])
  all_goals first | rfl | omega
 ·have hs:=q52 h0
  rw[hs] at hl
  have e1:(m:Int).tmod 10=((m % 10:Nat):Int):=by
   rw[Int.tmod_eq_emod_of_nonneg (by omega)]
   omega
  have e2:(m:Int).tdiv 10=((m / 10:Nat):Int):=by
   rw[Int.tdiv_eq_ediv_of_nonneg (by omega)]
   omega
  have hby:q6y (.int .u8 (48+((m % 10:Nat):Int)))=some (UInt8.ofNat (48+m % 10)):=by
   show some (UInt8.ofNat (48+((m % 10:Nat):Int)).toNat)=_
   congr 2
  simp only[List.length_cons] at hl
  (repeat' first|simp (disch:=omega) only[go_sem,gt_iff_lt,e1,e2,hby,List.length_cons,List.length_nil]|(apply spl<;>intro h<;>try simp (disch:=omega) only[go_sem,h]))
  all_goals first
   | omega
   | exact ⟨(m / 10,UInt8.ofNat (48+m % 10)::l),rfl,⟨by simp only; omega,by simp only[List.length_cons]; omega,by
     rw[he]
     show qcP m++l=qcP (m / 10)++UInt8.ofNat (48+m % 10)::l
     unfold qcP
     rw[hs,List.reverse_cons,Ke]
     rfl⟩,by simp only; omega⟩
theorem qjQ (n:Nat) : ∀ c,(qcP n)[0]?=some c→c≠48:=by
 induction n using Nat.strongRecOn with
 | _ n ih=>
  intro c hc
  by_cases h0:n=0
  ·subst h0
   simp [qcP,q4C] at hc
  ·unfold qcP at hc
   rw[q52 h0,List.reverse_cons] at hc
   by_cases h1:n / 10=0
   ·rw[h1] at hc
    have e0:q4C 0 0=[]:=rfl
    rw[e0] at hc
    have hc:=K7 hc
    subst hc
    intro e
    have:=congrArg UInt8.toNat e
    rw[UInt8.toNat_ofNat',Nat.mod_eq_of_lt (by omega)] at this
    have h48:(48:UInt8).toNat=48:=rfl
    omega
   ·have hl:0<(q4C (n / 10) (n / 10)).reverse.length:=by
     rw[q52 h1]
     simp
    rw[KG hl] at hc
    exact ih (n / 10) (by omega) c hc
theorem qfe (s:List UInt8) (hs:s.length≤100) (h : ∀ c,s[0]?=some c→c≠48):q0m CT 612 [.str s] (.str s):=by
 refine q05 qoo rfl ?_
 (repeat' first|simp (disch:=omega) only[go_sem,qoo,enter]|(apply spl<;>intro h<;>try simp (disch:=omega) only[go_sem,h]))
 refine q0a (α:=Unit) (fun _=>{ tmps:=q0i 19 [(0,.str s),(3,.int .i64 0)],heap:=[],base:=0 }) (fun _=>True) (fun _=>0) () rfl trivial ?_
 intro _ _
 cases s with
 | nil=>
  (repeat' first|simp (disch:=omega) only[go_sem,List.length_nil])
  all_goals first | rfl | omega
 | cons c s=>
  have hc : ¬ (c.toNat:Int)=48:=fun e=>h c rfl (by
   have:c.toNat=48:=by omega
   have h2:c=UInt8.ofNat c.toNat:=by simp
   rw[h2,this]
   rfl)
  (repeat' first|simp (disch:=omega) only[go_sem,List.length_cons,hc]|(apply spl<;>intro h<;>try simp (disch:=omega) only[go_sem,h]))
  all_goals first | rfl | omega | rw[Ky]
theorem qdy (s:List UInt8) (hs:s.length≤100) (h : ∀ c,s[0]?=some c→c≠48):q0m CT 581 [.bool false,.str s,.int .i64 0] (.tup [q2A (qiZ s),.int .i64 0]):=by
 have h1:=qfe s hs h
 have h2:=upT (upS (qdX s (by omega)))
 have hz:=qcz s
 refine q05 qjz rfl ?_
 unfold qiZ q2A
 by_cases h0:s=[]
 ·subst h0
  (repeat' first|simp (disch:=omega) only[go_sem,qjz,enter]|refine q00 _ (h1) ?_)
  all_goals first | rfl | omega
 ·have hb:(s == ([]:List UInt8))=false:=by simp [h0]
  have hlen:(s.take (s.length-q2T s)).length=s.length-q2T s:=by simp
  have e2:((s.length:Int)-(q2T s:Int)).toNat=s.length-q2T s:=by omega
  rw[if_neg h0]
  (repeat' first|simp (disch:=omega) only[go_sem,qjz,enter,hb,hlen,e2,gt_iff_lt]|refine q00 _ (h1) ?_|refine q00 _ (h2) ?_|(apply spl<;>intro h<;>try simp (disch:=omega) only[go_sem,h]))
  all_goals first | rfl | omega | rw[Int.zero_add]
theorem q8t (n:Nat) (hn:n≤65536):q0m CT 503 [.int .i64 n] (q0g (q5t (q5p n))):=by
 have h1:=qfv n hn
 have h2:=qdy (qcP n) (by have:=q9g hn; omega) (qjQ n)
 have h3:q0m CT 549 [.int .i64 n] (q2A (q5p n)):=by
  refine q05 qnd rfl ?_
  unfold q5p
  unfold q2A at *
  (repeat' first|simp (disch:=omega) only[go_sem,qnd,enter]|refine q00 _ (h1) ?_|refine q00 _ (h2) ?_)
  all_goals first | rfl | omega
 have h4:q0m CT 548 [q2A (q5p n)] (q0g (q5t (q5p n))):=by
  refine q05 qiI rfl ?_
  rw[q7i]
  unfold q2A
  (repeat' first|simp (disch:=omega) only[go_sem,qiI,enter])
  all_goals first | rfl | omega
 refine q05 qmh rfl ?_
 rw[q7i] at *
 unfold q2A at *
 (repeat' first|simp (disch:=omega) only[go_sem,qmh,enter]|refine q00 _ (h3) ?_|refine q00 _ (h4) ?_)
 all_goals first | rfl | omega
theorem q9G (n:Int) (h:n = -1∨0≤n∧n≤65536):q0m CT 531 [.int .i64 n] (q0g (q2j n)):=by
 refine q05 qkM rfl ?_
 unfold q2j
 by_cases hn:n = -1
 ·subst hn
  rw[if_pos rfl,q4p]
  (repeat' first|simp (disch:=omega) only[go_sem,qkM,enter])
  all_goals first | rfl
 ·have h2:=q8t n.toNat (by omega)
  rw[show ((n.toNat:Nat):Int)=n by omega] at h2
  rw[if_neg hn]
  rw[q7i] at h2 ⊢
  (repeat' first|simp (disch:=omega) only[go_sem,qkM,enter,hn]|refine q00 _ (h2) ?_)
  all_goals first | rfl
theorem qgP (n:Nat) (hn:n≤65536):q0m CT 123 [.int .i64 n] (q0g (q5t (q5p n))):=upT (upS (qjw n hn))
def Sh (m:Nat) (v:V):Prop:=∀ k,m≤k→qbU k v=v
theorem Sh.mono {m n:Nat} {v:V} (h:Sh m v) (hn:m≤n):Sh n v:=fun k hk=>h k (by omega)
theorem q22 {v:V} (h1:v.l=[]) (h2:v.f=[]):Sh 0 v:=fun k _=>by
 cases v with
 | mk s l f=>
  have h1:l=[]:=h1
  have h2:f=[]:=h2
  subst h1
  subst h2
  cases k<;>simp [qbU,V.s,V.l,V.f]
theorem q3K {m:Nat} {l:List V} (h : ∀ v,v∈l→Sh m v):Sh (m+1) (q0A l):=fun k hk=>by
 obtain ⟨k,rfl⟩ : ∃ j,k=j+1:=⟨k-1,by omega⟩
 unfold q0A
 simp only[qbU,V.s,V.l,V.f,Kl]
 congr 1
 exact q9D fun v hv=>h v hv k (by omega)
theorem qoM {m:Nat} {f:List (List UInt8 × V)} (h : ∀ x,x∈f→Sh m x.2):Sh (m+1) (qlN f):=fun k hk=>by
 obtain ⟨k,rfl⟩ : ∃ j,k=j+1:=⟨k-1,by omega⟩
 unfold qlN
 simp only[qbU,V.s,V.l,V.f,Kl]
 congr 1
 exact q9D fun x hx=>by rw[h x hx k (by omega)]
theorem q7O (l:List V) (h : ∀ v,v∈l→Sh 1000 v) (hb:(q0A l).bulk≤2^24):q0m CT 572 [.tsl 13 (l.map q0g)] (q0g (q0A l)):=by
 have h1:=upT (upS (qlA 65536 (q0A l) hb 65536 rfl (by decide)))
 rw[q3K h 65536 (by decide)] at h1
 refine q05 qnY rfl ?_
 rw[q58] at h1 ⊢
 (repeat' first|simp (disch:=omega) only[go_sem,qnY,enter]|refine q00 _ (h1) ?_)
 all_goals first | rfl
end Ago
