/- Infer: the schema of a value,of the reference. -/
import Derived.Test.YtjeahlpkonkjiaaGreatDoorRunN
import Derived.Test.YtjeahlpkonkjiaaGreatDoorRunK
import Derived.Test.YtjeahlpkonkjiaaGreatDoorRunF
import Derived.Test.YtjeahlpkonkjiaaGreatDoorRunH
import Derived.Test.YtjeahlpkonkjiaaGreatDoorRunE
import Derived.KernelRfl
set_option linter.unusedSimpArgs false
set_option linter.unusedVariables false
set_option maxRecDepth 100000
set_option maxHeartbeats 4000000
namespace Ago
open Go (IntKind)
end Ago
set_option maxRecDepth 100000
set_option maxHeartbeats 4000000
namespace Ago
open Go (IntKind)
def q79 (x:Sch):Schs:=⟨[],x⟩
theorem q5E (x:Sch):q1f (q79 x) = .agg [.tsl 16 [],.int .i64 x.s.op,.int .i64 x.s.mask,.int .i64 x.s.min,.int .i64 x.s.max,.str x.s.name,.tsl 11 (x.s.parts.map q0n),.int .i64 x.s.pat.s.op,.int .i64 x.s.pat.s.lo,.int .i64 x.s.pat.s.hi,.int .i64 x.s.pat.s.min,.int .i64 x.s.pat.s.max,.tsl 6 (x.s.pat.a.map q0B),.tsl 13 (x.s.vals.map q0u),.tsl 17 (x.p.map q0g),.tsl 15 (x.a.map q03)]:=by
 rw[q0s]
 rfl
theorem q7c (x:Sch):(q79 x).bulk=x.bulk+1:=by
 rw[Schs.bulk_eq]
 show 0+x.bulk+1=_
 omega
theorem qb9 (x:Sch):q0e CS 459 [q1f (q79 x)] (.tup [.str [],.bool true]):=by
 rw[q5E]
 refine q04 qpB rfl ?_
 (repeat' first|simp (disch:=omega) only[go_sem,qpB,enter]|(apply spl<;>intro h<;>try simp (disch:=omega) only[go_sem,h]))
 refine q06 (α:=Unit) (fun _=>{ tmps:=q0h 79 [(1,.ptr 16 0 0 0),(4,.mref 1),(16,.tsl 16 []),(17,.int .i64 0),(18,.int .i64 0)],heap:=[.row 16 [q1f (q79 x)] false true 0,.map []],base:=0 }) (fun _=>True) (fun _=>0) () (by rw[q5E]; rfl) trivial ?_
 intro _ _
 rw[q5E]
 (repeat' first|simp (disch:=omega) only[go_sem]|(apply spl<;>intro h<;>try simp (disch:=omega) only[go_sem,h]))
 refine q06 (α:=Unit) (fun _=>{ tmps:=q0h 79 [(4,.mref 0),(39,.tsl 16 []),(40,.int .i64 0),(41,.int .i64 0)],heap:=[.map []],base:=0 }) (fun _=>True) (fun _=>0) () rfl trivial ?_
 intro _ _
 (repeat' first|simp (disch:=omega) only[go_sem])
 all_goals rfl
theorem q7T (x:Sch):q0e CS 460 [q1f (q79 x)] (.tup [.str [],.bool true]):=by
 rw[q5E]
 refine q04 qpO rfl ?_
 (repeat' first|simp (disch:=omega) only[go_sem,qpO,enter]|(apply spl<;>intro h<;>try simp (disch:=omega) only[go_sem,h]))
 refine q06 (α:=Unit) (fun _=>{ tmps:=q0h 41 [(1,.ptr 16 0 0 0),(4,.int .i64 0)],heap:=[.row 16 [q1f (q79 x)] false true 0],base:=0 }) (fun _=>True) (fun _=>0) () (by rw[q5E]; rfl) trivial ?_
 intro _ _
 rw[q5E]
 (repeat' first|simp (disch:=omega) only[go_sem])
 all_goals rfl
def qb5 (x:Sch):Int:=q3j (q79 x) true
def qk9 (x:Sch):Sch × Int:=(if qb5 x=0 then x else zeroX,qb5 x)
theorem q6R (x:Sch) (hx:x.bulk<2^24):q0e CI 976 [q03 x] (.tup [q03 (qk9 x).1,.int .i64 (qk9 x).2])∧q0e CI 980 [q03 x] (.tup [q03 (qk9 x).1,.int .i64 (qk9 x).2]):=by
 have h1:=qei (qdC (q79 x) (by rw[q7c]; omega) [] true (qb9 x))
 have h2:=qei (q8G (q79 x) (by rw[q7c]; omega) [] true (q7T x))
 unfold qk9 qb5
 rw[q5E] at h1 h2
 generalize q3j (q79 x) true=e at *
 by_cases he:e=0
 ·subst he
  rw[if_pos rfl,q01 x]
  refine ⟨q04 qjB rfl ?_,q04 qjO rfl ?_⟩
  ·(repeat' first|simp (disch:=omega) only[go_sem,qjB,enter,bne_self_eq_false]|refine q00 _ (h1) ?_)
   all_goals rfl
  ·(repeat' first|simp (disch:=omega) only[go_sem,qjO,enter,bne_self_eq_false]|refine q00 _ (h2) ?_)
   all_goals rfl
 ·rw[if_neg he,q1e,q01 x]
  refine ⟨q04 qjB rfl ?_,q04 qjO rfl ?_⟩
  ·(repeat' first|simp (disch:=omega) only[go_sem,qjB,enter,he]|refine q00 _ (h1) ?_)
   all_goals rfl
  ·(repeat' first|simp (disch:=omega) only[go_sem,qjO,enter,he]|refine q00 _ (h2) ?_)
   all_goals rfl
def ckM:List V→Int
 | []=>0
 | v::l=>if q46 v=0 then ckM l else q46 v
def qin (l:List V):Sch:=(l.map (ofM 48)).foldl jM noneX
def q3l (l:List V):Sch × Int:=if l=[] then (zeroX,1) else if ckM l=0 then qk9 (qin l) else (zeroX,ckM l)
theorem qlN : ∀ {l:List V},ckM l=0→∀ v,v∈l→Gd 48 v
 | [],_,v,h=>by cases h
 | x::l,h,v,hv=>by
  unfold ckM at h
  by_cases hx:q46 x=0
  ·rw[if_pos hx] at h
   rcases KI.1 hv with rfl | hv
   ·exact qnW hx
   ·exact qlN h v hv
  ·rw[if_neg hx] at h
   exact (hx h).elim
theorem qhe {l:List V} {k:Nat} {v:V} (h:l[k]?=some v):ckM (l.drop k)=if q46 v=0 then ckM (l.drop (k+1)) else q46 v:=by
 rw[q6n h]
 rfl
end Ago
set_option maxRecDepth 100000
set_option maxHeartbeats 4000000
namespace Ago
open Go (IntKind)

theorem qeE (l:List V) (hl:AV.bulks (l.map q0u)≤2^20):q0e CI 964 [.tsl 13 (l.map q0u)] (.tup [q03 (q3l l).1,.int .i64 (q3l l).2]):=by
 have hlen:l.length≤2^20:=by
  have:=q1I (l.map q0u)
  rw[Ka] at this
  omega
 have hvb : ∀ v,v∈l→v.bulk≤2^20:=fun v hv=>by
  have:(q0u v).bulk≤_:=q1U (Vf (f:=q0u) hv)
  have e:(q0u v).bulk=v.bulk:=rfl
  omega
 unfold q3l
 refine q04 qks rfl ?_
 by_cases h0:l=[]
 ·rw[if_pos h0,h0,q1e]
  (repeat' first|simp (disch:=omega) only[go_sem,qks,enter])
  all_goals rfl
 have hpos:0<l.length:=Vm.2 h0
 rw[if_neg h0]
 (repeat' first|simp (disch:=omega) only[go_sem,qks,enter,Ka]|(apply spl<;>intro h<;>try simp (disch:=omega) only[go_sem,h]))
 refine q06 (α:=Nat) (fun k=>{ tmps:=q0h 43 [(0,.tsl 13 (l.map q0u)),(2,.ptr 15 0 0 0),(14,.tsl 13 (l.map q0u)),(15,.int .i64 l.length),(16,.int .i64 k)],heap:=[.row 15 [q14] false true 0],base:=0 }) (fun k=>k≤l.length∧ckM l=ckM (l.drop k)) (fun k=>l.length-k) 0 rfl ⟨Km _,rfl⟩ ?_
 rintro k ⟨hk,hc⟩
 by_cases hlt:k<l.length
 ·obtain ⟨v,hv⟩:=q05 hlt
  have hv2:=q09 (g:=q0u) hv
  have hvm:=Kc hv
  have hch:=qei (upS (qb7 v (by have:=hvb v hvm; omega)))
  rw[qhe hv] at hc
  rw[q0a v] at hv2 hch
  by_cases he:q46 v=0
  ·rw[if_pos he] at hc
   rw[he] at hch
   (repeat' first|simp (disch:=omega) only[go_sem,hv2,Ka,bne_self_eq_false]|refine q00 _ (hch) ?_|(apply spl<;>intro h<;>try simp (disch:=omega) only[go_sem,h]))
   exact ⟨k+1,rfl,⟨hlt,hc⟩,by omega⟩
  ·rw[if_neg he] at hc
   rw[if_neg (by rw[hc]; exact he),hc,q1e]
   (repeat' first|simp (disch:=omega) only[go_sem,hv2,Ka,he,q14]|refine q00 _ (hch) ?_)
   all_goals rfl
 ·have hz:ckM l=0:=by
   rw[hc,K1 (by omega)]
   rfl
  have hgd:=qlN hz
  have hfam : ∀ y,y∈l.map (ofM 48)→FamF y:=fun y hy=>by
   obtain ⟨x,hx,rfl⟩:=K0.1 hy
   exact q5N 48 48 x (hgd x hx).fit (Kr _)
  have hsum:16+sb (l.map (ofM 48))<2^24:=by
   have:=qkS (n:=48) (l:=l) fun x hx=>q8w 48 48 x (hgd x hx).fit (Kr _)
   omega
  have hS:(qin l).bulk<2^24:=by
   have:=q3A (e:=noneX) (.inl rfl) hfam
   rw[q2X] at this
   show ((l.map (ofM 48)).foldl jM noneX).bulk<_
   omega
  have hck:=(q6R (qin l) hS).1
  rw[if_pos hz]
  generalize hR:qk9 (qin l)=R at *
  (repeat' first|simp (disch:=omega) only[go_sem,Ka]|(apply spl<;>intro h<;>try simp (disch:=omega) only[go_sem,h]))
  refine q06 (α:=Nat × AV) (fun a=>{ tmps:=q0h 43 [(2,.ptr 15 0 0 0),(7,.ptr 15 1 0 0),(28,.tsl 13 (l.map q0u)),(29,.int .i64 l.length),(30,.int .i64 a.1)],heap:=[.row 15 [q14] false true 0,.row 15 [a.2] false true 1],base:=0 }) (fun a=>a.1≤l.length∧((a.1=0∧a.2=q3z)∨(0<a.1∧a.2=q03 (((l.take a.1).map (ofM 48)).foldl jM noneX)))) (fun a=>l.length-a.1) (0,q3z) rfl ⟨Km _,.inl ⟨rfl,rfl⟩⟩ ?_
  rintro ⟨i,e⟩ ⟨hi,he⟩
  simp only at hi he
  by_cases hlt2:i<l.length
  ·obtain ⟨y,hy⟩:=q05 hlt2
   have hym:=Kc hy
   have hy2:=q09 (g:=q0u) hy
   have hyb:=hvb y hym
   have hrec:=of_run 48 48 y (hgd y hym) (Kr _) (by omega)
   have hnew:((l.take (i+1)).map (ofM 48)).foldl jM noneX=jM (((l.take i).map (ofM 48)).foldl jM noneX) (ofM 48 y):=by
    rw[KB,hy]
    simp
   have hmem : ∀ z,z∈(l.take i).map (ofM 48)→FamF z:=fun z hz=>by
    obtain ⟨x,hx,rfl⟩:=K0.1 hz
    exact q5N 48 48 x (hgd x (Ky hx)).fit (Kr _)
   have hF:FamN (((l.take i).map (ofM 48)).foldl jM noneX):=q5P (.inl rfl) hmem
   have hFb:=q3A (e:=noneX) (.inl rfl) hmem
   rw[q2X] at hFb
   have htk:=qcx (i+1) (l.map (ofM 48))
   rw[←List.map_take,KB,hy] at htk
   simp only[Option.toList_some,V8,Kj,Kt,q4P,q4C] at htk
   have hjn:=(qeM hF (.inr (q5N 48 48 y (hgd y hym).fit (Kr _))) (by omega)).1
   rw[←hnew] at hjn
   generalize hX:((l.take (i+1)).map (ofM 48)).foldl jM noneX=X at hjn
   rw[q0a y] at hy2 hrec
   rw[q01 X] at hjn
   rcases he with ⟨rfl,rfl⟩ | ⟨hpos,rfl⟩
   ·rw[show ((l.take 0).map (ofM 48)).foldl jM noneX=noneX from rfl,q0T] at hjn
    rw[q01 (ofM 48 y)] at hrec hjn
    simp only[q3z,xZ,q0T]
    (repeat' first|simp (disch:=omega) only[go_sem,hy2,Ka,q14]|refine q00 _ (hrec) ?_|refine q00 _ (hjn) ?_|(apply spl<;>intro h<;>try simp (disch:=omega) only[go_sem,h]))
    refine ⟨(0+1,q03 X),?_,⟨by simp only; omega,.inr ⟨by simp only; omega,by simp only; rw[←hX]⟩⟩,by simp only; omega⟩
    rw[q01 X]
    rfl
   ·generalize ((l.take i).map (ofM 48)).foldl jM noneX=F at *
    rw[q01 F] at hjn
    rw[q01 (ofM 48 y)] at hrec hjn
    rw[q01 F]
    (repeat' first|simp (disch:=omega) only[go_sem,hy2,Ka,q14]|refine q00 _ (hrec) ?_|refine q00 _ (hjn) ?_|(apply spl<;>intro h<;>try simp (disch:=omega) only[go_sem,h]))
    refine ⟨(i+1,q03 X),?_,⟨by simp only; omega,.inr ⟨by simp only; omega,by simp only; rw[←hX]⟩⟩,by simp only; omega⟩
    rw[q01 X]
    rfl
  ·obtain rfl:i=l.length:=by omega
   rcases he with ⟨h1,rfl⟩ | ⟨_,rfl⟩
   ·omega
   rw[Kx]
   show aw _ _ _ _ ⟨_,[_,.row 15 [q03 (qin l)] false true 1],_,_⟩
   rw[q01 (qin l)] at hck ⊢
   rw[q01 R.1] at hck ⊢
   (repeat' first|simp (disch:=omega) only[go_sem,Ka,q14]|refine q00 _ (hck) ?_)
   all_goals rfl

end Ago
set_option maxRecDepth 100000
set_option maxHeartbeats 4000000
namespace Ago
open Go (IntKind)
theorem qbJ:q8z 48 zeroX:=by
 show q8z (47+1) zeroX
 unfold q8z
 refine ⟨fun v hv=>absurd (show v∈([]:List V) from hv) (by simp),?_,fun y hy=>absurd (show y∈([]:List Sch) from hy) (by simp)⟩
 show qoq (47+1) zeroX.s.pat
 unfold qoq
 exact fun y hy=>absurd (show y∈([]:List Pat) from hy) (by simp)
theorem q8c {x:Sch} (hx:x.bulk≤2^22) (h:q8z 48 x):q0e CS 461 [q03 x,q03 x] (.bool true):=by
 have h1:=qfg 48 48 rfl (by decide) _ hx h
 refine q04 qpn rfl ?_
 rw[q01] at h1 ⊢
 (repeat' first|simp (disch:=omega) only[go_sem,qpn,enter]|refine q00 _ (h1) ?_)
theorem qg9 {x:Sch} (h:qb5 x=0):q8z 48 x:=by
 unfold qb5 q3j at h
 have h0:q8P (q79 x) [] (q79 x).defs=0:=rfl
 rw[if_pos h0] at h
 by_cases h1:q0R (q79 x) 48 (q79 x).root=0
 ·rw[if_pos h1] at h
  refine qgV (q79 x) 48 x h1 ?_
  cases hd:q1Z 48 x with
  | false=>rfl
  | true=>
   have:(q4F (q79 x).defs || q1Z 48 (q79 x).root)=true:=by
    show (q4F (q79 x).defs || q1Z 48 x)=true
    rw[hd,Bool.or_true]
   rw[if_pos this] at h
   cases h
 ·rw[if_neg h1] at h
  exact (h1 h).elim
theorem qbr:zeroX.bulk≤2^22:=by decide
theorem qmp (v:V) (hv:v.bulk<2^20):q0e CI 966 [q0u v] (.tup [q03 (q3l [v]).1,.int .i64 (q3l [v]).2])∧True:=by
 have hb:AV.bulks ([v].map q0u)≤2^20:=by
  show (q0u v).bulk+0≤_
  have e:(q0u v).bulk=v.bulk:=rfl
  omega
 have h1:=qeE [v] hb
 rw[Kj,Kt] at h1
 rw[q0a,q01 (q3l [v]).1] at h1 ⊢
 refine ⟨q04 qpq rfl ?_,trivial⟩
 ·(repeat' first|simp (disch:=omega) only[go_sem,qpq,enter,q37,Blk.mark,List.contains_cons,List.contains_nil,Bool.or_false]|refine q00 _ (h1) ?_)
  all_goals rfl
end Ago
set_option maxRecDepth 100000
set_option maxHeartbeats 4000000
namespace Ago
open Go (IntKind)
def vX (k:Int) (d s:List UInt8) (l:List V) (f:List (List UInt8 × V)):V:=.mk ⟨k,false,⟨false,d,0⟩,⟨0,0,0,0⟩,s,[]⟩ l f
def l1:List V:=[vX 2 [49] [] [] [],vX 2 [53] [] [] [],vX 4 [] [97,98] [] []]
def l2:List V:=[vX 7 [] [] [] [([97],vX 2 [49] [] [] [])],vX 7 [] [] [] [([97],vX 2 [50] [] [] []),([98],vX 0 [] [] [] [])]]
def l3:List V:=[vX 6 [] [] [] []]
def bX (d:List UInt8):Bnd:=⟨true,⟨false,d,0⟩,false⟩
def nX (a b:List UInt8):Sch:=q4S ⟨bX a,bX b,1⟩
def x1:Sch:=q1J [nX [49] [53],q2j 2 2]
def x2:Sch:=q1J [q3T [(⟨[97],true⟩,q1J [nX [49] [50]]),(⟨[98],false⟩,q1J [q2Z 1])]]
def x3:Sch:=q1J [q1X 0 0 noneX]
theorem qcQ {l:List V} {x:Sch} (h0:l≠[]) (h1:ckM l=0) (h2:qin l=x) (h3:qb5 x=0):q3l l=(x,0):=by
 unfold q3l
 rw[if_neg h0,if_pos h1,h2]
 unfold qk9
 rw[h3,if_pos rfl]
theorem ex1:q3l l1=(x1,0):=qcQ (by simp [l1]) (by kernel_rfl) (by kernel_rfl) (by kernel_rfl)
theorem ex3:q3l l3=(x3,0):=qcQ (by simp [l3]) (by kernel_rfl) (by kernel_rfl) (by kernel_rfl)
theorem qyT:qin l2=q1J [q3T (q0Z (q2w 16777215) [(⟨[97],true⟩,q1J [nX [49] [49]])] [(⟨[97],true⟩,q1J [nX [50] [50]]),(⟨[98],true⟩,q1J [q2Z 1])])]:=by kernel_rfl
theorem qyk:q2w 16777215 (q1J [nX [49] [49]]) (q1J [nX [50] [50]])=q1J [nX [49] [50]]:=by kernel_rfl
theorem ex2:q3l l2=(x2,0):=qcQ (by simp [l2]) (by kernel_rfl) (by
 rw[qyT]
 have:q0Z (q2w 16777215) [(⟨[97],true⟩,q1J [nX [49] [49]])] [(⟨[97],true⟩,q1J [nX [50] [50]]),(⟨[98],true⟩,q1J [q2Z 1])]=[(⟨[97],true⟩,q1J [nX [49] [50]]),(⟨[98],false⟩,q1J [q2Z 1])]:=by
  rw[q0Z,if_neg (by decide),if_neg (by decide),q0Z,q0Z,qyk]
  rfl
 rw[this]
 rfl) (by kernel_rfl)
theorem qfP {l:List V} {x:Sch} {e:Int} (h:q3l l=(x,e)) (hl:AV.bulks (l.map q0u)≤2^20):q0e CI 964 [.tsl 13 (l.map q0u)] (.tup [q03 x,.int .i64 e]):=by
 have:=qeE l hl
 rw[h] at this
 exact this
theorem qkD (k:Int) (d s:List UInt8) (l:List V) (f:List (List UInt8 × V)):q0u (vX k d s l f) = .agg [.int .i64 k,.bool false,.bool false,.str d,.int .i64 0,.int .i64 0,.int .i64 0,.int .i64 0,.int .i64 0,.str s,.tsl 1 [],.tsl 13 (l.map q0u),.tsl 14 (f.map q0C)]:=by
 rw[q0a]
 rfl
theorem qxL:((49:UInt8).toNat:Int)=49:=rfl
theorem qy8:((50:UInt8).toNat:Int)=50:=rfl
theorem qyj:((53:UInt8).toNat:Int)=53:=rfl
theorem md1:Int.tmod 1 10=1:=rfl
theorem md2:Int.tmod 2 10=2:=rfl
theorem md5:Int.tmod 5 10=5:=rfl
theorem dv1:Int.tdiv 1 10=0:=rfl
theorem dv2:Int.tdiv 2 10=0:=rfl
theorem dv5:Int.tdiv 5 10=0:=rfl
theorem qmV (n:Int) (c:UInt8) (h:(n=1∧c=49)∨(n=2∧c=50)∨(n=5∧c=53)):q0e CI 503 [.int .i64 n] (q0u (vX 2 [c] [] [] [])):=by
 have h1:q0e CI 579 [.int .i64 n] (.str [c]):=by
  refine q04 qo5 rfl ?_
  (repeat' first|simp (disch:=omega) only[go_sem,qo5,enter]|(apply spl<;>intro h<;>try simp (disch:=omega) only[go_sem,h]))
  refine q06 (α:=Bool) (fun b=>{ tmps:=q0h 17 [(0,.int .i64 (if b then 0 else n)),(3,.str (if b then [c] else []))],heap:=[],base:=0 }) (fun _=>True) (fun b=>if b then 0 else 1) false rfl trivial ?_
  rintro (_ | _) _
  ·simp only[Ke,if_false]
   rcases h with ⟨rfl,rfl⟩ | ⟨rfl,rfl⟩ | ⟨rfl,rfl⟩
   all_goals
    (repeat' first|simp (disch:=omega) only[go_sem,gt_iff_lt,q2s,md1,md2,md5,dv1,dv2,dv5]|(apply spl<;>intro h<;>try simp (disch:=omega) only[go_sem,h]))
    exact ⟨true,rfl,by decide⟩
  ·simp only[if_true]
   (repeat' first|simp (disch:=omega) only[go_sem,gt_iff_lt])
   all_goals rfl
 have h2:q0e CI 612 [.str [c]] (.str [c]):=by
  refine q04 qiW rfl ?_
  rcases h with ⟨rfl,rfl⟩ | ⟨rfl,rfl⟩ | ⟨rfl,rfl⟩
  all_goals
   (repeat' first|simp (disch:=omega) only[go_sem,qiW,enter]|(apply spl<;>intro h<;>try simp (disch:=omega) only[go_sem,h]))
   refine q06 (α:=Unit) (fun _=>{ tmps:=q0h 19 [(0,.str [_]),(3,.int .i64 0)],heap:=[],base:=0 }) (fun _=>True) (fun _=>0) () rfl trivial ?_
   intro _ _
   (repeat' first|simp (disch:=omega) only[go_sem,qxL,qy8,qyj])
 have h3:q0e CI 90 [.str [c]] (.int .i64 0):=by
  have:=qei (upS (qaH [c] (by simp)))
  rcases h with ⟨rfl,rfl⟩ | ⟨rfl,rfl⟩ | ⟨rfl,rfl⟩<;>exact this
 have h4:q0e CI 581 [.bool false,.str [c],.int .i64 0] (.tup [.agg [.bool false,.str [c],.int .i64 0],.int .i64 0]):=by
  refine q04 qaz rfl ?_
  have e1:([c] == ([]:List UInt8))=false:=rfl
  (repeat' first|simp (disch:=omega) only[go_sem,qaz,enter,e1,gt_iff_lt]|refine q00 _ (h2) ?_|refine q00 _ (h3) ?_)
  all_goals rfl
 have hn:(n<0)=False:=by
  simp
  omega
 have h5:q0e CI 549 [.int .i64 n] (.agg [.bool false,.str [c],.int .i64 0]):=by
  refine q04 qof rfl ?_
  (repeat' first|simp (disch:=omega) only[go_sem,qof,enter,hn]|refine q00 _ (h1) ?_|refine q00 _ (h4) ?_)
  all_goals rfl
 have h6:q0e CI 548 [.agg [.bool false,.str [c],.int .i64 0]] (q0u (vX 2 [c] [] [] [])):=by
  refine q04 qoX rfl ?_
  rw[qkD]
  (repeat' first|simp (disch:=omega) only[go_sem,qoX,enter])
  all_goals rfl
 refine q04 qo9 rfl ?_
 rw[qkD] at h6 ⊢
 (repeat' first|simp (disch:=omega) only[go_sem,qo9,enter]|refine q00 _ (h5) ?_|refine q00 _ (h6) ?_)
 all_goals rfl
theorem qro:q0e CI 195 [.str [97,98]] (q0u (vX 4 [] [97,98] [] [])):=by
 refine q04 qqg rfl ?_
 rw[qkD]
 (repeat' first|simp (disch:=omega) only[go_sem,qqg,enter])
 all_goals rfl
theorem qrQ:q0e CI 529 [.tsl 13 []] (q0u (vX 6 [] [] [] [])):=by
 refine q04 qj6 rfl ?_
 rw[qkD]
 (repeat' first|simp (disch:=omega) only[go_sem,qj6,enter])
 all_goals rfl
theorem qle:q0e CI 963 [] (.bool true):=by
 have i1:=qmV 1 49 (by simp)
 have i2:=qmV 2 50 (by simp)
 have i5:=qmV 5 53 (by simp)
 have ht:=qro
 have hl:=qrQ
 have o1:=qfP ex1 (by decide)
 have o2:=qfP ex2 (by decide)
 have o4:=qfP (l:=[]) rfl (by decide)
 have o3:=(qmp (vX 6 [] [] [] []) (by decide)).1
 rw[show q3l [vX 6 [] [] [] []]=(x3,0) from ex3] at o3
 simp only[l1,l2,x1,x2,x3,nX,Kj,Kt,q1P,q2I,q2p,q2t,q0A,q59,q0T,q1e,qkD,q0C,q0g,q0n,bX,AV.cells,Ko,Ks] at i1 i2 i5 ht hl o1 o2 o3 o4
 refine q04 qo1 rfl ?_
 (repeat' first|simp (disch:=omega) only[go_sem,qo1,enter,q37,Blk.mark,List.contains_cons,List.contains_nil,Bool.or_false,VF,Wa,Bool.or_true]|refine q00 _ (i1) ?_|refine q00 _ (i2) ?_|refine q00 _ (i5) ?_|refine q00 _ (ht) ?_|refine q00 _ (hl) ?_|refine q00 _ (o1) ?_|refine q00 _ (o2) ?_|refine q00 _ (o3) ?_|refine q00 _ (o4) ?_)
 all_goals trace_state
end Ago
