/- Infer: the schema of a value,of the reference. -/
import Derived.Test.YtjeahlpkonkjiaaGreatDoorORunN
import Derived.Test.YtjeahlpkonkjiaaGreatDoorORunK
import Derived.Test.YtjeahlpkonkjiaaGreatDoorORunF
import Derived.Test.YtjeahlpkonkjiaaGreatDoorORunH
import Derived.Test.YtjeahlpkonkjiaaGreatDoorORunE
import Derived.KernelRfl
set_option linter.unusedSimpArgs false
set_option linter.unusedVariables false
set_option maxRecDepth 100000
set_option maxHeartbeats 4000000
namespace Ago
open Go (IntKind)
end Ago
set_option maxRecDepth 100000
set_option maxHeartbeats 4000000
namespace Ago
open Go (IntKind)
def q83 (x:Sch):Schs:=⟨[],x⟩
theorem q9g (x:Sch):q2P (q83 x) = .agg [.tsl 16 [],.int .i64 x.s.op,.int .i64 x.s.mask,.int .i64 x.s.min,.int .i64 x.s.max,.str x.s.name,.tsl 11 (x.s.parts.map q0m),.int .i64 x.s.pat.s.op,.int .i64 x.s.pat.s.lo,.int .i64 x.s.pat.s.hi,.int .i64 x.s.pat.s.min,.int .i64 x.s.pat.s.max,.tsl 6 (x.s.pat.a.map q0G),.tsl 13 (x.s.vals.map q0u),.tsl 17 (x.p.map q0i),.tsl 15 (x.a.map q03)]:=by
 rw[q19]
 rfl
theorem qdv (x:Sch):(q83 x).bulk=x.bulk+1:=by
 rw[Schs.bulk_eq]
 show 0+x.bulk+1=_
 omega
theorem qae (x:Sch):q0k CS 459 [q2P (q83 x)] (.tup [.str [],.bool true]):=by
 rw[q9g]
 refine q04 qnI rfl ?_
 (repeat' first|simp (disch:=omega) only[go_sem,qnI,enter]|(apply spl<;>intro h<;>try simp (disch:=omega) only[go_sem,h]))
 refine q07 (α:=Unit) (fun _=>{ tmps:=q0q 79 [(1,.ptr 16 0 0 0),(4,.mref 1),(16,.tsl 16 []),(17,.int .i64 0),(18,.int .i64 0)],heap:=[.row 16 [q2P (q83 x)] false true 0,.map []],base:=0 }) (fun _=>True) (fun _=>0) () (by rw[q9g]; rfl) trivial ?_
 intro _ _
 rw[q9g]
 (repeat' first|simp (disch:=omega) only[go_sem]|(apply spl<;>intro h<;>try simp (disch:=omega) only[go_sem,h]))
 refine q07 (α:=Unit) (fun _=>{ tmps:=q0q 79 [(4,.mref 0),(39,.tsl 16 []),(40,.int .i64 0),(41,.int .i64 0)],heap:=[.map []],base:=0 }) (fun _=>True) (fun _=>0) () rfl trivial ?_
 intro _ _
 (repeat' first|simp (disch:=omega) only[go_sem])
 all_goals rfl
def q78 (x:Sch):Int:=q5l (q83 x) true
def qq8 (x:Sch):Sch × Int:=(if q78 x=0 then x else zeroX,q78 x)
theorem qef (x:Sch) (hx:x.bulk<2^24):q0k CI 976 [q03 x] (.tup [q03 (qq8 x).1,.int .i64 (qq8 x).2])∧True:=by
 have h1:=qn0 (qd1 (q83 x) (by rw[qdv]; omega) [] true (qae x))
 unfold qq8 q78
 rw[q9g] at h1
 generalize q5l (q83 x) true=e at *
 by_cases he:e=0
 ·subst he
  rw[if_pos rfl,q02 x]
  refine ⟨q04 qhg rfl ?_,trivial⟩
  ·(repeat' first|simp (disch:=omega) only[go_sem,qhg,enter,bne_self_eq_false]|refine q00 _ (h1) ?_)
   all_goals rfl
 ·rw[if_neg he,q3g,q02 x]
  refine ⟨q04 qhg rfl ?_,trivial⟩
  ·(repeat' first|simp (disch:=omega) only[go_sem,qhg,enter,he]|refine q00 _ (h1) ?_)
   all_goals rfl
def ckM:List V→Int
 | []=>0
 | v::l=>if q49 v=0 then ckM l else q49 v
def qdl (l:List V):Sch:=(l.map (ofM 48)).foldl jM noneX
def q0E (l:List V):Sch × Int:=if l=[] then (zeroX,1) else if ckM l=0 then qq8 (qdl l) else (zeroX,ckM l)
theorem qdd : ∀ {l:List V},ckM l=0→∀ v,v∈l→Gd 48 v
 | [],_,v,h=>by cases h
 | x::l,h,v,hv=>by
  unfold ckM at h
  by_cases hx:q49 x=0
  ·rw[if_pos hx] at h
   rcases Ks.1 hv with rfl | hv
   ·exact qmE hx
   ·exact qdd h v hv
  ·rw[if_neg hx] at h
   exact (hx h).elim
theorem qmx {l:List V} {k:Nat} {v:V} (h:l[k]?=some v):ckM (l.drop k)=if q49 v=0 then ckM (l.drop (k+1)) else q49 v:=by
 rw[q8S h]
 rfl
end Ago
set_option maxRecDepth 100000
set_option maxHeartbeats 4000000
namespace Ago
open Go (IntKind)

theorem q57 (l:List V) (hl:AV.bulks (l.map q0u)≤2^20):q0k CI 964 [.tsl 13 (l.map q0u)] (.tup [q03 (q0E l).1,.int .i64 (q0E l).2]):=by
 have hlen:l.length≤2^20:=by
  have:=q1s (l.map q0u)
  rw[Ka] at this
  omega
 have hvb : ∀ v,v∈l→v.bulk≤2^20:=fun v hv=>by
  have:(q0u v).bulk≤_:=q1L (Va (f:=q0u) hv)
  have e:(q0u v).bulk=v.bulk:=rfl
  omega
 unfold q0E
 refine q04 qk3 rfl ?_
 by_cases h0:l=[]
 ·rw[if_pos h0,h0,q3g]
  (repeat' first|simp (disch:=omega) only[go_sem,qk3,enter])
  all_goals rfl
 have hpos:0<l.length:=Ve.2 h0
 rw[if_neg h0]
 (repeat' first|simp (disch:=omega) only[go_sem,qk3,enter,Ka]|(apply spl<;>intro h<;>try simp (disch:=omega) only[go_sem,h]))
 refine q07 (α:=Nat) (fun k=>{ tmps:=q0q 43 [(0,.tsl 13 (l.map q0u)),(2,.ptr 15 0 0 0),(14,.tsl 13 (l.map q0u)),(15,.int .i64 l.length),(16,.int .i64 k)],heap:=[.row 15 [q1Z] false true 0],base:=0 }) (fun k=>k≤l.length∧ckM l=ckM (l.drop k)) (fun k=>l.length-k) 0 rfl ⟨Kp _,rfl⟩ ?_
 rintro k ⟨hk,hc⟩
 by_cases hlt:k<l.length
 ·obtain ⟨v,hv⟩:=q06 hlt
  have hv2:=q0c (g:=q0u) hv
  have hvm:=Kc hv
  have hch:=qn0 (upS (qam v (by have:=hvb v hvm; omega)))
  rw[qmx hv] at hc
  rw[q08 v] at hv2 hch
  by_cases he:q49 v=0
  ·rw[if_pos he] at hc
   rw[he] at hch
   (repeat' first|simp (disch:=omega) only[go_sem,hv2,Ka,bne_self_eq_false]|refine q00 _ (hch) ?_|(apply spl<;>intro h<;>try simp (disch:=omega) only[go_sem,h]))
   exact ⟨k+1,rfl,⟨hlt,hc⟩,by omega⟩
  ·rw[if_neg he] at hc
   rw[if_neg (by rw[hc]; exact he),hc,q3g]
   (repeat' first|simp (disch:=omega) only[go_sem,hv2,Ka,he,q1Z]|refine q00 _ (hch) ?_)
   all_goals rfl
 ·have hz:ckM l=0:=by
   rw[hc,Vn (by omega)]
   rfl
  have hgd:=qdd hz
  have hfam : ∀ y,y∈l.map (ofM 48)→FamF y:=fun y hy=>by
   obtain ⟨x,hx,rfl⟩:=KQ.1 hy
   exact q6F 48 48 x (hgd x hx).fit (Ko _)
  have hsum:16+sb (l.map (ofM 48))<2^24:=by
   have:=qiK (n:=48) (l:=l) fun x hx=>q79 48 48 x (hgd x hx).fit (Ko _)
   omega
  have hS:(qdl l).bulk<2^24:=by
   have:=q4t (e:=noneX) (.inl rfl) hfam
   rw[q4p] at this
   show ((l.map (ofM 48)).foldl jM noneX).bulk<_
   omega
  have hck:=(qef (qdl l) hS).1
  rw[if_pos hz]
  generalize hR:qq8 (qdl l)=R at *
  (repeat' first|simp (disch:=omega) only[go_sem,Ka]|(apply spl<;>intro h<;>try simp (disch:=omega) only[go_sem,h]))
  refine q07 (α:=Nat × AV) (fun a=>{ tmps:=q0q 43 [(2,.ptr 15 0 0 0),(7,.ptr 15 1 0 0),(28,.tsl 13 (l.map q0u)),(29,.int .i64 l.length),(30,.int .i64 a.1)],heap:=[.row 15 [q1Z] false true 0,.row 15 [a.2] false true 1],base:=0 }) (fun a=>a.1≤l.length∧((a.1=0∧a.2=q3r)∨(0<a.1∧a.2=q03 (((l.take a.1).map (ofM 48)).foldl jM noneX)))) (fun a=>l.length-a.1) (0,q3r) rfl ⟨Kp _,.inl ⟨rfl,rfl⟩⟩ ?_
  rintro ⟨i,e⟩ ⟨hi,he⟩
  simp only at hi he
  by_cases hlt2:i<l.length
  ·obtain ⟨y,hy⟩:=q06 hlt2
   have hym:=Kc hy
   have hy2:=q0c (g:=q0u) hy
   have hyb:=hvb y hym
   have hrec:=of_run 48 48 y (hgd y hym) (Ko _) (by omega)
   have hnew:((l.take (i+1)).map (ofM 48)).foldl jM noneX=jM (((l.take i).map (ofM 48)).foldl jM noneX) (ofM 48 y):=by
    rw[KG,hy]
    simp
   have hmem : ∀ z,z∈(l.take i).map (ofM 48)→FamF z:=fun z hz=>by
    obtain ⟨x,hx,rfl⟩:=KQ.1 hz
    exact q6F 48 48 x (hgd x (Kt hx)).fit (Ko _)
   have hF:FamN (((l.take i).map (ofM 48)).foldl jM noneX):=q8N (.inl rfl) hmem
   have hFb:=q4t (e:=noneX) (.inl rfl) hmem
   rw[q4p] at hFb
   have htk:=ql9 (i+1) (l.map (ofM 48))
   rw[←List.map_take,KG,hy] at htk
   simp only[Option.toList_some,VX,Km,Kx,q6X,q4d] at htk
   have hjn:=(qoT hF (.inr (q6F 48 48 y (hgd y hym).fit (Ko _))) (by omega)).1
   rw[←hnew] at hjn
   generalize hX:((l.take (i+1)).map (ofM 48)).foldl jM noneX=X at hjn
   rw[q08 y] at hy2 hrec
   rw[q02 X] at hjn
   rcases he with ⟨rfl,rfl⟩ | ⟨hpos,rfl⟩
   ·rw[show ((l.take 0).map (ofM 48)).foldl jM noneX=noneX from rfl,q3A] at hjn
    rw[q02 (ofM 48 y)] at hrec hjn
    simp only[q3r,xZ,q3A]
    (repeat' first|simp (disch:=omega) only[go_sem,hy2,Ka,q1Z]|refine q00 _ (hrec) ?_|refine q00 _ (hjn) ?_|(apply spl<;>intro h<;>try simp (disch:=omega) only[go_sem,h]))
    refine ⟨(0+1,q03 X),?_,⟨by simp only; omega,.inr ⟨by simp only; omega,by simp only; rw[←hX]⟩⟩,by simp only; omega⟩
    rw[q02 X]
    rfl
   ·generalize ((l.take i).map (ofM 48)).foldl jM noneX=F at *
    rw[q02 F] at hjn
    rw[q02 (ofM 48 y)] at hrec hjn
    rw[q02 F]
    (repeat' first|simp (disch:=omega) only[go_sem,hy2,Ka,q1Z]|refine q00 _ (hrec) ?_|refine q00 _ (hjn) ?_|(apply spl<;>intro h<;>try simp (disch:=omega) only[go_sem,h]))
    refine ⟨(i+1,q03 X),?_,⟨by simp only; omega,.inr ⟨by simp only; omega,by simp only; rw[←hX]⟩⟩,by simp only; omega⟩
    rw[q02 X]
    rfl
  ·obtain rfl:i=l.length:=by omega
   rcases he with ⟨h1,rfl⟩ | ⟨_,rfl⟩
   ·omega
   rw[Kz]
   show aw _ _ _ _ ⟨_,[_,.row 15 [q03 (qdl l)] false true 1],_,_⟩
   rw[q02 (qdl l)] at hck ⊢
   rw[q02 R.1] at hck ⊢
   (repeat' first|simp (disch:=omega) only[go_sem,Ka,q1Z]|refine q00 _ (hck) ?_)
   all_goals rfl

end Ago
set_option maxRecDepth 100000
set_option maxHeartbeats 4000000
namespace Ago
open Go (IntKind)
theorem qmW : ∀ (n:Nat) (v:V),v.bulk≤n→n≤2^24→∃ b,q0k CS 547 [q0u v] (.bool b):=by
 intro n
 induction n with
 | zero=>
  intro x h1 h2
  have:1≤x.bulk:=q1B _
  omega
 | succ n ih=>
  intro v h1 h2
  have L:=V.lens (v:=v) (N:=2^24) (by omega)
  have l1:=L.list
  have l2:=L.fields
  have l3:=L.text
  have h:=q4H (C:=CS) (f:=547) (ts:=[q0u v]) (k:=fun w=>∃ b,w = .bool b) qlY rfl (by
   rw[q08]
   (repeat' first|simp (disch:=omega) only[go_sem,qlY,enter,Ka]|(apply spl<;>intro h<;>try simp (disch:=omega) only[go_sem,h]))
   refine q07 (α:=Nat) (fun k=>{ tmps:=q0q 38 [(1,.ptr 13 0 0 0),(3,.int .i64 k)],heap:=[.row 13 [q0u v] false true 0],base:=0 }) (fun k=>k≤v.l.length) (fun k=>v.l.length-k) 0 (by rw[q08]; rfl) (Kp _) ?_
   intro k hk
   rw[q08]
   by_cases hlt:k<v.l.length
   ·obtain ⟨y,hy⟩:=q06 hlt
    have hym:=Kc hy
    have hy2:=q0c (g:=q0u) hy
    obtain ⟨c,hc⟩:=ih y (by have:=L.kids y hym; omega) (by omega)
    rw[q08] at hy2 hc
    cases c with
    | true=>
     (repeat' first|simp (disch:=omega) only[go_sem,hy2,Ka]|refine q00 _ (hc) ?_|(apply spl<;>intro h<;>try simp (disch:=omega) only[go_sem,h]))
     exact ⟨k+1,by first | rfl | (rw[q08 v]; rfl),hlt,by omega⟩
    | false=>
     (repeat' first|simp (disch:=omega) only[go_sem,hy2,Ka]|refine q00 _ (hc) ?_|(apply spl<;>intro h<;>try simp (disch:=omega) only[go_sem,h]))
     exact ⟨_,rfl⟩
   ·(repeat' first|simp (disch:=omega) only[go_sem,Ka]|(apply spl<;>intro h<;>try simp (disch:=omega) only[go_sem,h]))
    refine q07 (α:=Nat) (fun k=>{ tmps:=q0q 38 [(1,.ptr 13 0 0 0),(4,.int .i64 k)],heap:=[.row 13 [q0u v] false true 0],base:=0 }) (fun k=>k≤v.f.length) (fun k=>v.f.length-k) 0 (by rw[q08]; rfl) (Kp _) ?_
    intro j hj
    rw[q08]
    by_cases hlt2:j<v.f.length
    ·obtain ⟨y,hy⟩:=q06 hlt2
     have hym:=Kc hy
     have hy2:=q0c (g:=q10) hy
     obtain ⟨c,hc⟩:=ih y.2 (by have:=(L.fkids y hym).1; omega) (by omega)
     rw[q2a] at hy2
     rw[q08] at hc
     cases c with
     | true=>
      (repeat' first|simp (disch:=omega) only[go_sem,hy2,Ka]|refine q00 _ (hc) ?_|(apply spl<;>intro h<;>try simp (disch:=omega) only[go_sem,h]))
      exact ⟨j+1,by first | rfl | (rw[q08 v]; rfl),hlt2,by omega⟩
     | false=>
      (repeat' first|simp (disch:=omega) only[go_sem,hy2,Ka]|refine q00 _ (hc) ?_|(apply spl<;>intro h<;>try simp (disch:=omega) only[go_sem,h]))
      exact ⟨_,rfl⟩
    ·(repeat' first|simp (disch:=omega) only[go_sem,Ka]|(apply spl<;>intro h<;>try simp (disch:=omega) only[go_sem,h]))
     exact ⟨_,rfl⟩)
  obtain ⟨w,k1,c,rfl⟩:=h
  exact ⟨c,k1⟩
theorem qge (v:V) (hv:v.bulk≤2^24) : ∃ b,q0k CS 468 [q0u v] (.bool b):=by
 obtain ⟨b,hb⟩:=qfB v hv 40 8 (by omega) (by omega) (by omega) (by omega)
 obtain ⟨c,hc⟩:=qmW _ v (Ko _) hv
 have hb:=upS hb
 have h1 : ∃ d,q0k CS 501 [q0u v] (.bool d):=by
  rw[q08] at hb hc ⊢
  cases b with
  | false=>
   refine ⟨false,q04 qhv rfl ?_⟩
   (repeat' first|simp (disch:=omega) only[go_sem,qhv,enter]|refine q00 _ (hb) ?_)
  | true=>
   refine ⟨c,q04 qhv rfl ?_⟩
   (repeat' first|simp (disch:=omega) only[go_sem,qhv,enter]|refine q00 _ (hb) ?_|refine q00 _ (hc) ?_)
 obtain ⟨d,hd⟩:=h1
 refine ⟨d,q04 qo9 rfl ?_⟩
 rw[q08] at hd ⊢
 (repeat' first|simp (disch:=omega) only[go_sem,qo9,enter]|refine q00 _ (hd) ?_)
theorem qqW (l:List V) (hl:l.length<2^24) (hb : ∀ v,v∈l→v.bulk≤2^24) : ∃ b,q0k CI 962 [.tsl 13 (l.map q0u)] (.bool b):=by
 have h:=q4H (C:=CI) (f:=962) (ts:=[.tsl 13 (l.map q0u)]) (k:=fun w=>∃ b,w = .bool b) qnx rfl (by
  (repeat' first|simp (disch:=omega) only[go_sem,qnx,enter,Ka]|(apply spl<;>intro h<;>try simp (disch:=omega) only[go_sem,h]))
  refine q07 (α:=Nat) (fun k=>{ tmps:=q0q 23 [(0,.tsl 13 (l.map q0u)),(3,.int .i64 k)],heap:=[],base:=0 }) (fun k=>k≤l.length) (fun k=>l.length-k) 0 rfl (Kp _) ?_
  intro k hk
  by_cases hlt:k<l.length∧k<7
  ·obtain ⟨hlt,h7⟩:=hlt
   obtain ⟨y,hy⟩:=q06 hlt
   have hy2:=q0c (g:=q0u) hy
   obtain ⟨c,hc⟩:=qge y (hb y (Kc hy))
   have hc:=qn0 hc
   rw[q08] at hy2 hc
   cases c with
   | true=>
    (repeat' first|simp (disch:=omega) only[go_sem,hy2,Ka]|refine q00 _ (hc) ?_|(apply spl<;>intro h<;>try simp (disch:=omega) only[go_sem,h]))
    exact ⟨k+1,rfl,hlt,by omega⟩
   | false=>
    (repeat' first|simp (disch:=omega) only[go_sem,hy2,Ka]|refine q00 _ (hc) ?_|(apply spl<;>intro h<;>try simp (disch:=omega) only[go_sem,h]))
    exact ⟨_,rfl⟩
  ·by_cases hlt2:k<l.length
   ·(repeat' first|simp (disch:=omega) only[go_sem,Ka]|(apply spl<;>intro h<;>try simp (disch:=omega) only[go_sem,h]))
    all_goals first | exact ⟨_,rfl⟩ | omega
   ·(repeat' first|simp (disch:=omega) only[go_sem,Ka]|(apply spl<;>intro h<;>try simp (disch:=omega) only[go_sem,h]))
    all_goals first | exact ⟨_,rfl⟩ | omega)
 obtain ⟨w,k1,c,rfl⟩:=h
 exact ⟨c,k1⟩
theorem q7i:q7S 48 zeroX:=by
 show q7S (47+1) zeroX
 unfold q7S
 refine ⟨fun v hv=>absurd (show v∈([]:List V) from hv) (by simp),?_,fun y hy=>absurd (show y∈([]:List Sch) from hy) (by simp)⟩
 show qoe (47+1) zeroX.s.pat
 unfold qoe
 exact fun y hy=>absurd (show y∈([]:List Pat) from hy) (by simp)
theorem q5G {x:Sch} (hx:x.bulk≤2^22) (h:q7S 48 x):q0k CS 461 [q03 x,q03 x] (.bool true):=by
 have h1:=qdB 48 48 rfl (by decide) _ hx h
 refine q04 qn7 rfl ?_
 rw[q02] at h1 ⊢
 (repeat' first|simp (disch:=omega) only[go_sem,qn7,enter]|refine q00 _ (h1) ?_)
theorem qeE {x:Sch} (h:q78 x=0):q7S 48 x:=by
 unfold q78 q5l at h
 have h0:q9Z (q83 x) [] (q83 x).defs=0:=rfl
 rw[if_pos h0] at h
 by_cases h1:q15 (q83 x) 48 (q83 x).root=0
 ·rw[if_pos h1] at h
  refine qg2 (q83 x) 48 x h1 ?_
  cases hd:q3c 48 x with
  | false=>rfl
  | true=>
   have:(q71 (q83 x).defs || q3c 48 (q83 x).root)=true:=by
    show (q71 (q83 x).defs || q3c 48 x)=true
    rw[hd,Bool.or_true]
   rw[if_pos this] at h
   cases h
 ·rw[if_neg h1] at h
  exact (h1 h).elim
theorem q7l:zeroX.bulk≤2^22:=by decide
theorem qr0 (b:Sch):jM noneX b=b:=by
 unfold jM
 obtain ⟨n,hn⟩ : ∃ n,jn=n+1:=⟨2^24-1,by rw[qmq]⟩
 rw[hn]
 rfl
theorem qfs {l:List Sch} (h : ∀ y,y∈l→FamF y) (hne:l≠[]):(l.foldl jM noneX).bulk≤sb l:=by
 cases l with
 | nil=>exact (hne rfl).elim
 | cons x l=>
  show (l.foldl jM (jM noneX x)).bulk≤_
  rw[qr0,q4d]
  exact q4t (.inr (h x (Kj ..))) fun y hy=>h y (Kl _ hy)
theorem qgJ (l:List V) (hl:AV.bulks (l.map q0u)≤2^20):q0k CI 461 [q03 (q0E l).1,q03 (q0E l).1] (.bool true):=by
 refine qn0 ?_
 unfold q0E
 by_cases h0:l=[]
 ·rw[if_pos h0]
  exact q5G q7l q7i
 rw[if_neg h0]
 by_cases hc:ckM l=0
 ·rw[if_pos hc]
  unfold qq8
  by_cases hs:q78 (qdl l)=0
  ·rw[if_pos hs]
   have hgd:=qdd hc
   have h1:=qiK (n:=48) (l:=l) fun x hx=>q79 48 48 x (hgd x hx).fit (Ko _)
   have h2:=qfs (l:=l.map (ofM 48)) (fun y hy=>by
    obtain ⟨x,hx,rfl⟩:=KQ.1 hy
    exact q6F 48 48 x (hgd x hx).fit (Ko _)) (by simpa using h0)
   refine q5G ?_ (qeE hs)
   show ((l.map (ofM 48)).foldl jM noneX).bulk≤_
   omega
  ·rw[if_neg hs]
   exact q5G q7l q7i
 ·rw[if_neg hc]
  exact q5G q7l q7i
theorem qk7 (v:V) (hv:v.bulk<2^20):q0k CI 966 [q0u v] (.tup [q03 (q0E [v]).1,.int .i64 (q0E [v]).2])∧True:=by
 have hb:AV.bulks ([v].map q0u)≤2^20:=by
  show (q0u v).bulk+0≤_
  have e:(q0u v).bulk=v.bulk:=rfl
  omega
 have h1:=q57 [v] hb
 rw[Km,Kx] at h1
 rw[q08,q02 (q0E [v]).1] at h1 ⊢
 refine ⟨q04 qn8 rfl ?_,trivial⟩
 ·(repeat' first|simp (disch:=omega) only[go_sem,qn8,enter,q1D,Blk.mark,VQ,V1,Bool.or_false]|refine q00 _ (h1) ?_)
  all_goals rfl
end Ago
set_option maxRecDepth 100000
set_option maxHeartbeats 4000000
namespace Ago
open Go (IntKind)
def vX (k:Int) (d s:List UInt8) (l:List V) (f:List (List UInt8 × V)):V:=.mk ⟨k,false,⟨false,d,0⟩,⟨0,0,0,0⟩,s,[]⟩ l f
def l1:List V:=[vX 2 [49] [] [] [],vX 2 [53] [] [] [],vX 4 [] [97,98] [] []]
def l2:List V:=[vX 7 [] [] [] [([97],vX 2 [49] [] [] [])],vX 7 [] [] [] [([97],vX 2 [50] [] [] []),([98],vX 0 [] [] [] [])]]
def l3:List V:=[vX 6 [] [] [] []]
def bX (d:List UInt8):Bnd:=⟨true,⟨false,d,0⟩,false⟩
def nX (a b:List UInt8):Sch:=q4j ⟨bX a,bX b,1⟩
def x1:Sch:=q1c [nX [49] [53],q24 2 2]
def x2:Sch:=q1c [q3Z [(⟨[97],true⟩,q1c [nX [49] [50]]),(⟨[98],false⟩,q1c [q1W 1])]]
def x3:Sch:=q1c [q1I 0 0 noneX]
theorem qbY {l:List V} {x:Sch} (h0:l≠[]) (h1:ckM l=0) (h2:qdl l=x) (h3:q78 x=0):q0E l=(x,0):=by
 unfold q0E
 rw[if_neg h0,if_pos h1,h2]
 unfold qq8
 rw[h3,if_pos rfl]
theorem ex1:q0E l1=(x1,0):=qbY (by simp [l1]) (by kernel_rfl) (by kernel_rfl) (by kernel_rfl)
theorem ex3:q0E l3=(x3,0):=qbY (by simp [l3]) (by kernel_rfl) (by kernel_rfl) (by kernel_rfl)
theorem qy1:qdl l2=q1c [q3Z (q0I (q1C 16777215) [(⟨[97],true⟩,q1c [nX [49] [49]])] [(⟨[97],true⟩,q1c [nX [50] [50]]),(⟨[98],true⟩,q1c [q1W 1])])]:=by kernel_rfl
theorem qx9:q1C 16777215 (q1c [nX [49] [49]]) (q1c [nX [50] [50]])=q1c [nX [49] [50]]:=by kernel_rfl
theorem ex2:q0E l2=(x2,0):=qbY (by simp [l2]) (by kernel_rfl) (by
 rw[qy1]
 have:q0I (q1C 16777215) [(⟨[97],true⟩,q1c [nX [49] [49]])] [(⟨[97],true⟩,q1c [nX [50] [50]]),(⟨[98],true⟩,q1c [q1W 1])]=[(⟨[97],true⟩,q1c [nX [49] [50]]),(⟨[98],false⟩,q1c [q1W 1])]:=by
  rw[q0I,if_neg (by decide),if_neg (by decide),q0I,q0I,qx9]
  rfl
 rw[this]
 rfl) (by kernel_rfl)
theorem qed {l:List V} {x:Sch} {e:Int} (h:q0E l=(x,e)) (hl:AV.bulks (l.map q0u)≤2^20):q0k CI 964 [.tsl 13 (l.map q0u)] (.tup [q03 x,.int .i64 e]):=by
 have:=q57 l hl
 rw[h] at this
 exact this
theorem qlf (k:Int) (d s:List UInt8) (l:List V) (f:List (List UInt8 × V)):q0u (vX k d s l f) = .agg [.int .i64 k,.bool false,.bool false,.str d,.int .i64 0,.int .i64 0,.int .i64 0,.int .i64 0,.int .i64 0,.str s,.tsl 1 [],.tsl 13 (l.map q0u),.tsl 14 (f.map q10)]:=by
 rw[q08]
 rfl
theorem qwR:((49:UInt8).toNat:Int)=49:=rfl
theorem qwD:((50:UInt8).toNat:Int)=50:=rfl
theorem qwJ:((53:UInt8).toNat:Int)=53:=rfl
theorem md1:Int.tmod 1 10=1:=rfl
theorem md2:Int.tmod 2 10=2:=rfl
theorem md5:Int.tmod 5 10=5:=rfl
theorem dv1:Int.tdiv 1 10=0:=rfl
theorem dv2:Int.tdiv 2 10=0:=rfl
theorem dv5:Int.tdiv 5 10=0:=rfl
theorem qjs (n:Int) (c:UInt8) (h:(n=1∧c=49)∨(n=2∧c=50)∨(n=5∧c=53)):q0k CI 503 [.int .i64 n] (q0u (vX 2 [c] [] [] [])):=by
 have h1:q0k CI 579 [.int .i64 n] (.str [c]):=by
  refine q04 qnf rfl ?_
  (repeat' first|simp (disch:=omega) only[go_sem,qnf,enter]|(apply spl<;>intro h<;>try simp (disch:=omega) only[go_sem,h]))
  refine q07 (α:=Bool) (fun b=>{ tmps:=q0q 17 [(0,.int .i64 (if b then 0 else n)),(3,.str (if b then [c] else []))],heap:=[],base:=0 }) (fun _=>True) (fun b=>if b then 0 else 1) false rfl trivial ?_
  rintro (_ | _) _
  ·simp only[Ke,if_false]
   rcases h with ⟨rfl,rfl⟩ | ⟨rfl,rfl⟩ | ⟨rfl,rfl⟩
   all_goals
    (repeat' first|simp (disch:=omega) only[go_sem,gt_iff_lt,qhl,md1,md2,md5,dv1,dv2,dv5]|(apply spl<;>intro h<;>try simp (disch:=omega) only[go_sem,h]))
    exact ⟨true,rfl,by decide⟩
  ·simp only[if_true]
   (repeat' first|simp (disch:=omega) only[go_sem,gt_iff_lt])
   all_goals rfl
 have h2:q0k CI 612 [.str [c]] (.str [c]):=by
  refine q04 qn9 rfl ?_
  rcases h with ⟨rfl,rfl⟩ | ⟨rfl,rfl⟩ | ⟨rfl,rfl⟩
  all_goals
   (repeat' first|simp (disch:=omega) only[go_sem,qn9,enter]|(apply spl<;>intro h<;>try simp (disch:=omega) only[go_sem,h]))
   refine q07 (α:=Unit) (fun _=>{ tmps:=q0q 19 [(0,.str [_]),(3,.int .i64 0)],heap:=[],base:=0 }) (fun _=>True) (fun _=>0) () rfl trivial ?_
   intro _ _
   (repeat' first|simp (disch:=omega) only[go_sem,qwR,qwD,qwJ])
 have h3:q0k CI 90 [.str [c]] (.int .i64 0):=by
  have:=qn0 (upS (qlc [c] (by simp)))
  rcases h with ⟨rfl,rfl⟩ | ⟨rfl,rfl⟩ | ⟨rfl,rfl⟩<;>exact this
 have h4:q0k CI 581 [.bool false,.str [c],.int .i64 0] (.tup [.agg [.bool false,.str [c],.int .i64 0],.int .i64 0]):=by
  refine q04 qo1 rfl ?_
  have e1:([c] == ([]:List UInt8))=false:=rfl
  (repeat' first|simp (disch:=omega) only[go_sem,qo1,enter,e1,gt_iff_lt]|refine q00 _ (h2) ?_|refine q00 _ (h3) ?_)
  all_goals rfl
 have hn:(n<0)=False:=by
  simp
  omega
 have h5:q0k CI 549 [.int .i64 n] (.agg [.bool false,.str [c],.int .i64 0]):=by
  refine q04 qnc rfl ?_
  (repeat' first|simp (disch:=omega) only[go_sem,qnc,enter,hn]|refine q00 _ (h1) ?_|refine q00 _ (h4) ?_)
  all_goals rfl
 have h6:q0k CI 548 [.agg [.bool false,.str [c],.int .i64 0]] (q0u (vX 2 [c] [] [] [])):=by
  refine q04 qnb rfl ?_
  rw[qlf]
  (repeat' first|simp (disch:=omega) only[go_sem,qnb,enter])
  all_goals rfl
 refine q04 qms rfl ?_
 rw[qlf] at h6 ⊢
 (repeat' first|simp (disch:=omega) only[go_sem,qms,enter]|refine q00 _ (h5) ?_|refine q00 _ (h6) ?_)
 all_goals rfl
theorem qrh:q0k CI 195 [.str [97,98]] (q0u (vX 4 [] [97,98] [] [])):=by
 refine q04 qlR rfl ?_
 rw[qlf]
 (repeat' first|simp (disch:=omega) only[go_sem,qlR,enter])
 all_goals rfl
theorem qqb:q0k CI 529 [.tsl 13 []] (q0u (vX 6 [] [] [] [])):=by
 refine q04 qhy rfl ?_
 rw[qlf]
 (repeat' first|simp (disch:=omega) only[go_sem,qhy,enter])
 all_goals rfl
theorem qpG:q0k CI 963 [] (.bool true):=by
 have i1:=qjs 1 49 (by simp)
 have i2:=qjs 2 50 (by simp)
 have i5:=qjs 5 53 (by simp)
 have ht:=qrh
 have hl:=qqb
 have o1:=qed ex1 (by decide)
 have o2:=qed ex2 (by decide)
 have o4:=qed (l:=[]) rfl (by decide)
 have o3:=(qk7 (vX 6 [] [] [] []) (by decide)).1
 rw[show q0E [vX 6 [] [] [] []]=(x3,0) from ex3] at o3
 simp only[l1,l2,x1,x2,x3,nX,Km,Kx,q4f,q4N,q4W,q4Q,q1f,q8j,q3A,q3g,qlf,q10,q0i,q0m,bX,AV.cells,Kr,Kv] at i1 i2 i5 ht hl o1 o2 o3 o4
 refine q04 qo8 rfl ?_
 (repeat' first|simp (disch:=omega) only[go_sem,qo8,enter,q1D,Blk.mark,VQ,V1,Bool.or_false,VU,Bool.true_or,Bool.or_true]|refine q00 _ (i1) ?_|refine q00 _ (i2) ?_|refine q00 _ (i5) ?_|refine q00 _ (ht) ?_|refine q00 _ (hl) ?_|refine q00 _ (o1) ?_|refine q00 _ (o2) ?_|refine q00 _ (o3) ?_|refine q00 _ (o4) ?_)
 all_goals trace_state
end Ago
