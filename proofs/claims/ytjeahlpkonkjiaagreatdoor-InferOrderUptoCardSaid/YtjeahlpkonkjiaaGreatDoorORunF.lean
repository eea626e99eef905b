/- The reference's look at times; whether a value has only what its kind has. -/
import Derived.Test.YtjeahlpkonkjiaaGreatDoorORunX
import Derived.Test.YtjeahlpkonkjiaaGreatDoorORunE
import Derived.Test.YtjeahlpkonkjiaaGreatDoorORunA
set_option linter.unusedSimpArgs false
set_option linter.unusedVariables false
set_option maxRecDepth 100000
set_option maxHeartbeats 4000000
namespace Ago
open Go (IntKind)
def qw1 (d:Dec):Bool:=d.neg == false && (d.digits == [] && d.exp == 0)
def tmZ (t:Tm):Bool:=t.kind == 0 && (t.day == 0 && (t.nano == 0 && t.off == 0))
def ownM (v:V):Bool:=
 decide (0≤v.s.kind∧v.s.kind≤7) && (v.s.kind == 1 || v.s.bool == false) && (v.s.kind == 2 || qw1 v.s.num) && (v.s.kind == 3 || tmZ v.s.time) &&
 (v.s.kind == 4 || v.s.text == []) && (v.s.kind == 5 || (v.s.bytes.length:Int) == 0) && (v.s.kind == 6 || (v.l.length:Int) == 0) && (v.s.kind == 7 || (v.f.length:Int) == 0)
end Ago
set_option maxRecDepth 100000
set_option maxHeartbeats 4000000
namespace Ago
open Go (IntKind)
def q6w:List (List UInt8)→List (List UInt8)→Int
 | _,[]=>0
 | pre,x::l=>if utf x=false then 5 else if 1024<x.length then 10 else if pre.contains x then 8 else q6w (pre++[x]) l
def q5N (l:List (List UInt8)):Int:=q6w [] l
theorem qha {l:List (List UInt8)} {i:Nat} {x:List UInt8} (h:l[i]?=some x):q6w (l.take i) (l.drop i)=if utf x=false then 5 else if 1024<x.length then 10 else if (l.take i).contains x then 8 else q6w (l.take (i+1)) (l.drop (i+1)):=by
 have hl:=(Ky.1 h)
 obtain ⟨hlt,hx⟩:=hl
 rw[Vt hlt,hx]
 conv=>lhs; unfold q6w
 rw[KG,h]
 rfl
end Ago
set_option maxRecDepth 100000
set_option maxHeartbeats 4000000
namespace Ago
open Go (IntKind)
def qeQ (v:V):Int:=
 if ownM v=false then 6
 else if q0a v.s.num=false∨v.s.kind=3∧qgB v.s.time=false then 2
 else if utf v.s.text=false then 5
 else if 65536<v.s.text.length∨65536<v.s.bytes.length then 10
 else q5N (v.f.map (·.1))
end Ago
set_option maxRecDepth 100000
set_option maxHeartbeats 4000000
namespace Ago
open Go (IntKind)
def q7P (f:V→Int→Int × Int):List V→Int→Int × Int
 | [],seen=>(seen,0)
 | x::l,seen=>if (f x seen).2=0 then q7P f l (f x seen).1 else f x seen
def q2n:Nat→V→Int→Int→Int × Int
 | 0,_,_,seen=>(seen,9)
 | k+1,v,d,seen=>if 48<d then (seen,9) else if 65536≤seen then (seen,10) else if qeQ v≠0 then (seen,qeQ v) else q7P (fun x s=>q2n k x (d+1) s) v.kids (seen+1)
theorem q2m {f:V→Int→Int × Int} {l:List V} {x:V} {seen:Int}:q7P f (x::l) seen=if (f x seen).2=0 then q7P f l (f x seen).1 else f x seen:=rfl
theorem qaJ {f:V→Int→Int × Int} (hf : ∀ x s,0≤s→s≤65536→0≤(f x s).1∧(f x s).1≤65536) : ∀ (l:List V) (s:Int),0≤s→s≤65536→0≤(q7P f l s).1∧(q7P f l s).1≤65536
 | [],s,h1,h2=>⟨h1,h2⟩
 | x::l,s,h1,h2=>by
  have h:=hf x s h1 h2
  rw[q2m]
  split
  ·exact qaJ hf l _ h.1 h.2
  ·exact h
theorem q1F : ∀ (k:Nat) (v:V) (d s:Int),0≤s→s≤65536→0≤(q2n k v d s).1∧(q2n k v d s).1≤65536
 | 0,v,d,s,h1,h2=>⟨h1,h2⟩
 | k+1,v,d,s,h1,h2=>by
  unfold q2n
  split
  ·exact ⟨h1,h2⟩
  ·split
   ·exact ⟨h1,h2⟩
   ·split
    ·exact ⟨h1,h2⟩
    ·exact qaJ (fun x s h1 h2=>q1F k x (d+1) s h1 h2) _ _ (by omega) (by omega)
def q49 (v:V):Int:=(q2n 49 v 1 0).2
end Ago
set_option maxRecDepth 100000
set_option maxHeartbeats 4000000
namespace Ago
open Go (IntKind)
def qwO (k:List UInt8):Int:=if utf k=false then 5 else if 1024<k.length then 10 else 0
theorem qlM (k:List UInt8) (hk:k.length<2^30):q0k C0 151 [.str k] (.int .i64 (qwO k)):=by
 have hu:=q8h k hk
 refine q04 qaZ rfl ?_
 unfold qwO
 cases hb:utf k with
 | false=>
  rw[hb] at hu
  rw[if_pos rfl]
  (repeat' first|simp (disch:=omega) only[go_sem,qaZ,enter]|refine q00 _ (hu) ?_|(apply spl<;>intro h<;>try simp (disch:=omega) only[go_sem,qaZ,enter ,h]))
 | true=>
  rw[hb] at hu
  rw[if_neg (by simp)]
  by_cases h:1024<k.length
  ·rw[if_pos h]
   (repeat' first|simp (disch:=omega) only[go_sem,qaZ,enter]|refine q00 _ (hu) ?_|(apply spl<;>intro h<;>try simp (disch:=omega) only[go_sem,qaZ,enter ,h]))
  ·rw[if_neg h]
   (repeat' first|simp (disch:=omega) only[go_sem,qaZ,enter]|refine q00 _ (hu) ?_|(apply spl<;>intro h<;>try simp (disch:=omega) only[go_sem,qaZ,enter ,h]))
end Ago
set_option maxRecDepth 100000
set_option maxHeartbeats 4000000
namespace Ago
open Go (IntKind)
def qfW (v:V):Bool:=
 (!(v.s.kind == 1) && v.s.bool) || (!(v.s.kind == 2) && !qw1 v.s.num) || (!(v.s.kind == 3) && !tmZ v.s.time) ||
 (!(v.s.kind == 4) && !(v.s.text == [])) || (!(v.s.kind == 5) && decide (0<v.s.bytes.length)) || (!(v.s.kind == 6) && decide (0<v.l.length)) || (!(v.s.kind == 7) && decide (0<v.f.length))
theorem qbu {α:Type} (l:List α):((l.length:Int) == 0) = !decide (0<l.length):=by
 cases l with
 | nil=>rfl
 | cons x l=>simp; omega
theorem qcV (v:V):ownM v=(decide (0≤v.s.kind∧v.s.kind≤7) && !qfW v):=by
 unfold ownM qfW
 simp only[qbu,Bool.not_or,Bool.not_and,Bool.not_not,Bool.and_assoc,Bool.not_eq_eq_eq_not,beq_false]
theorem qjK (v:V):q0k C0 139 [q0u v] (.bool (qfW v)):=by
 refine q04 qjI rfl ?_
 rw[q08]
 (repeat' first|simp (disch:=omega) only[go_sem,qjI,enter,Ka,q0x]|(apply spl<;>intro h<;>try simp (disch:=omega) only[go_sem,qjI,enter,Ka,q0x,h]))
 all_goals (congr 2; unfold qfW qw1 tmZ; simp_all [Ve])
 all_goals grind
end Ago
set_option maxRecDepth 100000
set_option maxHeartbeats 4000000
namespace Ago
open Go (IntKind)
def setMap (l:List (List UInt8)):List (AV × AV):=l.map fun x=>(.str x,.bool true)
theorem qnw (l:List (List UInt8)):qqx (.map (setMap l)):=qgf fun x hx=>by
 unfold setMap at hx
 obtain ⟨y,_,rfl⟩:=KQ.1 hx
 exact ⟨qcz y,qhI true⟩
theorem q98 (k:List UInt8) : ∀ (l:List (List UInt8)) (i:Nat),(l.contains k=false→findKey (.one .str) (.str k) (setMap l) i=some none)∧(l.contains k=true→∃ j,findKey (.one .str) (.str k) (setMap l) i=some (some (j,.bool true)))
 | [],i=>⟨fun _=>rfl,fun h=>by simp at h⟩
 | x::l,i=>by
  obtain ⟨h1,h2⟩:=q98 k l (i+1)
  by_cases he:k=x
  ·subst he
   refine ⟨fun h=>by simp at h,fun _=>⟨i,?_⟩⟩
   simp [setMap,findKey,q4U,q3X]
  ·have e:findKey (.one .str) (.str k) (setMap (x::l)) i=findKey (.one .str) (.str k) (setMap l) (i+1):=by
    have:(k == x)=false:=by simpa using he
    simp [setMap,findKey,q4U,q3X,this]
   rw[e]
   have hc:(x::l).contains k=l.contains k:=by
    have:(k == x)=false:=by simpa using he
    rw[VQ,this,VU]
   rw[hc]
   exact ⟨h1,h2⟩
theorem qjb (f:List (List UInt8 × V)) (hf:f.length<2^30) (hk : ∀ x,x∈f→x.1.length<2^30):q0k C0 142 [.tsl 14 (f.map q10)] (.int .i64 (q5N (f.map (·.1)))):=by
 refine q04 qj6 rfl ?_
 (repeat' first|simp (disch:=omega) only[go_sem,qj6,enter]|(apply spl<;>intro h<;>try simp (disch:=omega) only[go_sem,qj6,enter,h]))
 refine q07 (α:=Nat) (fun i=>{ tmps:=q0q 28 [(3,.mref 0),(8,.tsl 14 (f.map q10)),(9,.int .i64 f.length),(10,.int .i64 i)],heap:=[.map (setMap ((f.map (·.1)).take i))],base:=0 })
  (fun i=>i≤f.length∧q5N (f.map (·.1))=q6w ((f.map (·.1)).take i) ((f.map (·.1)).drop i)) (fun i=>f.length-i) 0 (by first | rfl | (simp only[Ka]; rfl)) ⟨Kp _,rfl⟩ ?_
 rintro i ⟨hi,hm⟩
 by_cases hlt:i<f.length
 ·obtain ⟨x,hx⟩:=q06 hlt
  have hx2:=q0c (g:=q10) hx
  have hx3:=q0c (g:=fun y:List UInt8 × V=>y.1) hx
  rw[q2a] at hx2
  have hu:=qlM x.1 (hk x (Kc hx))
  rw[qha hx3] at hm
  unfold qwO at hu
  cases hux:utf x.1 with
  | false=>
   rw[if_pos hux] at hu
   rw[if_pos hux] at hm
   rw[hm]
   (repeat' first|simp (disch:=omega) only[go_sem,hx2,Ka]|refine q00 _ (hu) ?_)
  | true=>
   rw[if_neg (by rw[hux]; simp)] at hu hm
   by_cases h1:1024<x.1.length
   ·rw[if_pos h1] at hm hu
    rw[hm]
    (repeat' first|simp (disch:=omega) only[go_sem,hx2,Ka]|refine q00 _ (hu) ?_)
   ·rw[if_neg h1] at hm hu
    obtain ⟨hf1,hf2⟩:=q98 x.1 ((f.map (·.1)).take i) 0
    cases hc:((f.map (·.1)).take i).contains x.1 with
    | true=>
     obtain ⟨j,hj⟩:=hf2 hc
     rw[if_pos hc] at hm
     rw[hm]
     (repeat' first|simp (disch:=omega) only[go_sem,hx2,Ka,hj]|refine q00 _ (hu) ?_)
    | false=>
     have hj:=hf1 hc
     rw[if_neg (by rw[hc]; simp)] at hm
     (repeat' first|simp (disch:=omega) only[go_sem,hx2,Ka,hj]|refine q00 _ (hu) ?_|(apply spl<;>intro h<;>try simp (disch:=omega) only[go_sem,hx2,Ka,hj ,h]))
     have e:setMap ((f.map (·.1)).take i)++[(.str x.1,.bool true)]=setMap ((f.map (·.1)).take (i+1)):=by
      rw[KG,hx3]
      simp [setMap]
     rw[e]
     exact ⟨i+1,(q6Q (.cons (qnw _) (.cons (q87 _ _ _) .nil))).trans rfl,⟨hlt,hm⟩,by omega⟩
 ·have e:q5N (f.map (·.1))=0:=by
   rw[hm,KU (by simp; omega)]
   unfold q6w
   rfl
  rw[e]
  (repeat' first|simp (disch:=omega) only[go_sem,Ka])
end Ago
set_option maxRecDepth 100000
set_option maxHeartbeats 4000000
namespace Ago
open Go (IntKind)
theorem q14 {g:AV→AV} (hg:g .dead = .dead) (n:Nat) : ∀ (l:List (Nat × AV)),(q0q n l).map g=q0q n (l.map fun x=>(x.1,g x.2)):=by
 intro l
 unfold q0q
 suffices h : ∀ (l:List (Nat × AV)) (s:List AV),(l.foldl (fun s x=>s.set x.1 x.2) s).map g=(l.map fun x=>(x.1,g x.2)).foldl (fun s x=>s.set x.1 x.2) (s.map g) by
  rw[h,List.map_replicate,hg]
 intro l
 induction l with
 | nil=>intro s; rfl
 | cons x l ih=>
  intro s
  rw[VD,ih,List.map_set]
  rfl
def cnt (r:Nat) (n:Int):Blk:=.row 1 [.int .i64 n] false true r
theorem q6N {H E:Heap} {m:Nat} {v:AV} (hm:m=H.length) (hF:Flat (H++E)) (hv:qb3 v):q9T m v (H++E)=⟨[v],H,m,0⟩:=by
 refine q2I hm hF rfl (fun r hr=>?_) ?_
 ·simp only[List.flatMap_cons,List.flatMap_nil,KY] at hr
  rw[hv.1] at hr
  cases hr
 ·simp only[Km,Kx]
  rw[hv.2]
def qdV (v:V):Int:=
 if v.s.kind=2∧q0a v.s.num=false∨v.s.kind=3∧qgB v.s.time=false then 2
 else if v.s.kind=4∧utf v.s.text=false then 5
 else if 65536<v.s.text.length∨65536<v.s.bytes.length then 10
 else q5N (v.f.map (·.1))
theorem qpL {v:V} (h:ownM v=true) (hk:v.s.kind≠2):v.s.num=⟨false,[],0⟩:=by
 unfold ownM qw1 at h
 cases hn:v.s.num with
 | mk a b c=>simp_all
theorem qma {v:V} (h:ownM v=true) (hk:v.s.kind≠4):v.s.text=[]:=by
 unfold ownM at h
 simp_all
theorem qqJ:utf []=true:=by decide
theorem qqF {v:V} (h:ownM v=true):qeQ v=qdV v:=by
 unfold qeQ qdV
 rw[if_neg (by rw[h]; simp)]
 have h1:q0a v.s.num=false→v.s.kind=2:=fun hd=>Classical.byContradiction fun hk=>by
  rw[qpL h hk] at hd
  revert hd
  decide
 have h2:utf v.s.text=false→v.s.kind=4:=fun hd=>Classical.byContradiction fun hk=>by
  rw[qma h hk,qqJ] at hd
  cases hd
 have e1:(q0a v.s.num=false∨v.s.kind=3∧qgB v.s.time=false)↔(v.s.kind=2∧q0a v.s.num=false∨v.s.kind=3∧qgB v.s.time=false):=
  ⟨fun h=>h.elim (fun h=>.inl ⟨h1 h,h⟩) .inr,fun h=>h.elim (fun h=>.inl h.2) .inr⟩
 have e2:utf v.s.text=false↔(v.s.kind=4∧utf v.s.text=false):=⟨fun h=>⟨h2 h,h⟩,fun h=>h.2⟩
 simp only[e1,←e2]
theorem q1l {m:Nat} {res:List ResV} {v:AV} {H E:Heap} {tm:List AV} {b rb:Nat} {e:Ex} (he:e = .normal∨e = .ret) (hm:m=H.length) (hF:Flat (H++E)) (hv:qb3 v) (hr:results res ⟨tm,H++E,b,rb⟩=some v):qr9 m res v H e ⟨tm,H++E,b,rb⟩:=by
 refine q2d he v hr ?_ ?_
 ·rw[q6N hm hF hv]
  rfl
 ·rw[q6N hm hF hv]
def qj2 (base:Nat) (res:List ResV) (k:AV→Heap→Prop) (e:Ex) (s:St):Prop:=(e = .normal∨e = .ret)∧∃ u,results res s=some u∧k ((q9T base u s.heap).tmps.getD 0 .dead) (q9T base u s.heap).heap
theorem q8u {C:Ctx} {f:Nat} (fn:AFn) {args:List AV} {H:Heap} {k:AV→Heap→Prop} (hf:C.code f=some fn) (h : @q0N (enter fn args H) ⟨aw (q1u C) (q0k C) fn.body (qj2 H.length fn.res k)⟩) : ∃ v H',q1u C f args H v H'∧k v H':=by
 unfold q0N at h
 obtain ⟨e,s,h1,he,u,h2,h3⟩:=q2q _ _ _ h
 exact ⟨_,_,.run hf h1 he h2,h3⟩
theorem q2E {m:Nat} {res:List ResV} {k:AV→Heap→Prop} {v:AV} {H E:Heap} {tm:List AV} {b rb:Nat} {e:Ex} (he:e = .normal∨e = .ret) (hm:m=H.length) (hF:Flat (H++E)) (hv:qb3 v) (hr:results res ⟨tm,H++E,b,rb⟩=some v) (hk:k v H):qj2 m res k e ⟨tm,H++E,b,rb⟩:=by
 refine ⟨he,v,hr,?_⟩
 rw[q6N hm hF hv]
 exact hk
theorem q4Y {m:Nat} {res:List ResV} {k:AV→Heap→Prop} {v:AV} {H:Heap} {tm:List AV} {b rb:Nat} {e:Ex} (he:e = .normal∨e = .ret) (hm:m=H.length) (hF:Flat H) (hv:qb3 v) (hr:results res ⟨tm,H,b,rb⟩=some v) (hk:k v H):qj2 m res k e ⟨tm,H,b,rb⟩:=by
 refine ⟨he,v,hr,?_⟩
 have:=q6N (E:=[]) hm (by rw[KY]; exact hF) hv
 rw[KY] at this
 rw[this]
 exact hk
theorem q3p {X:Heap} {m r:Nat} (hr:r<m) {n:Nat} {els:List AV} (hX:X[m]?=some (.row n els false true m)) {L:List AV} (hL:L.flatMap (AV.refsN 6)=[r,m]):q54 X m 4000 (L.flatMap (AV.refsN 6)) []=[m]:=by
 rw[hL]
 unfold q54
 rw[if_pos hr]
 unfold q54
 rw[if_neg (Nat.lt_irrefl m),if_neg (by simp),hX]
 simp only[Blk.refs,if_true,Kv]
 unfold q54
 rfl
theorem q16 {m r:Nat} {ks:List Nat} (hr:r<m):q4e m ks r=some r:=by unfold q4e; rw[if_pos hr]
theorem q3n {m:Nat}:q4e m [m] m=some m:=by simp [q4e]
theorem q3k {α:Type} {l:List α} {k:Nat} {x:α} (hx:l[k]?=some x):l.drop k=x::l.drop (k+1):=by
 obtain ⟨h3,h4⟩:=Ky.1 hx
 rw[Vt h3,h4]
theorem q6o {v:V} (h:ownM v=true) (F:V→Int→Int × Int) (s:Int):q7P F v.kids s=q7P F (v.l++v.f.map (·.2)) s:=by
 unfold ownM at h
 simp only[Kd,KM,beq_iff_eq] at h
 obtain ⟨⟨_,h6⟩,h7⟩:=h
 unfold V.kids
 split
 ·have:v.l=[]:=Kw (by omega)
  rw[this,Kv]
 ·have:v.f=[]:=Kw (by omega)
  rw[this,Kx,KY]
theorem qqS : ∀ (n:Nat) (v:V),v.bulk≤n→n≤2^24→∀ (f:Nat) (d seen:Int),0≤d→49<d+f→d≤49→0<f→0≤seen→seen≤65536→∀ (H:Heap) (r:Nat),Flat H→r<H.length→H[r]?=some (cnt r seen) →
  ∃ s':Int,q1u C0 133 [q0u v,.int .i64 d,.ptr 1 r 0 0] H (.int .i64 (q2n f v d seen).2) (H.set r (cnt r s'))∧((q2n f v d seen).2=0→s'=(q2n f v d seen).1):=by
 intro n
 induction n with
 | zero=>
  intro v hv
  have:1≤v.bulk:=q1B _
  omega
 | succ n ih=>
  intro v hv hn f d seen hd1 hdf hd2 hf0 hs1 hs2 H r hF hr hH
  obtain ⟨f,rfl⟩ : ∃ g,f=g+1:=⟨f-1,by omega⟩
  have L:=V.lens (v:=v) (N:=2^24) (by omega)
  have hll:=L.list
  have hlf:=L.fields
  have h139:=qjK v
  have h140:=q34 v.s.num (by have:=L.digits; omega)
  have h141:=qps v.s.time
  have h46:=q8h v.s.text (by have:=L.text; omega)
  have h142:=qjb v.f (by have:=L.fields; omega) (fun x hx=>by have:=(L.fkids x hx).2; omega)
  have hle:=q08 v
  unfold q0h at h140
  unfold qpE at h141
  rw[q08] at h139 ⊢
  unfold cnt at hH
  unfold cnt
  have hs1' : ∀ els,q1i r r 0 (H++[.row 13 els false true H.length]) 0=some (H++[.row 13 els false true H.length]):=fun els=>(hF.push 13 els).strike r 0
  have hg1 : ∀ l,(H.set r (.row 1 [.int .i64 (seen+1)] false true r)++l)[r]?=some (.row 1 [.int .i64 (seen+1)] false true r):=fun l=>by
   rw[q51 (by simpa using hr),Vd hr]
  have hp0 : ∀ b l,(H.set r (.row 1 [.int .i64 (seen+1)] false true r)++b::l)[H.length]?=some b:=fun b l=>qqO (by simp)
  have hFb : ∀ els,Flat (H.set r (.row 1 [.int .i64 (seen+1)] false true r)++[.row 13 els false true H.length]):=fun els=>(hF.set r 1 [.int .i64 (seen+1)]).push' (k:=H.length) 13 els (by simp)
  rw[show q2n (f+1) v d seen=if 48<d then (seen,9) else if 65536≤seen then (seen,10) else if qeQ v≠0 then (seen,qeQ v) else q7P (fun x s=>q2n f x (d+1) s) v.kids (seen+1) from rfl]
  generalize hFF:(fun x s=>q2n f x (d+1) s)=F
  have hp0' : ∀ X b l,(H.set r X++b::l)[H.length]?=some b:=fun X b l=>qqO (by simp)
  have hp1' : ∀ X a b l,(H.set r X++a::b::l)[H.length+1]?=some b:=fun X a b l=>qxi (by simp)
  have hq1' : ∀ X a b c,(H.set r X++[a,b]).set (H.length+1) c=H.set r X++[a,c]:=fun X a b c=>qwG (by simp)
  have hg1' : ∀ X l,(H.set r X++l)[r]?=some X:=fun X l=>by
   rw[q51 (by simpa using hr),Vd hr]
  have hF1 : ∀ n els es,Flat (H.set r (.row n es false true r)++[.row 13 els false true H.length]):=fun n els es=>(hF.set r n es).push' (k:=H.length) 13 els (by simp)
  have hF2 : ∀ n els es els',Flat (H.set r (.row n es false true r)++[.row 13 els false true H.length,.row 13 els' false true (H.length+1)]):=fun n els es els'=>by
   have:=(hF1 n els es).push' (k:=H.length+1) 13 els' (by simp)
   rwa [Kq] at this
  have hs2' : ∀ n els es els',q1i (H.length+1) (H.length+1) 0 (H.set r (.row n es false true r)++[.row 13 els false true H.length,.row 13 els' false true (H.length+1)]) 0=some (H.set r (.row n es false true r)++[.row 13 els false true H.length,.row 13 els' false true (H.length+1)]):=fun n els es els'=>(hF2 n els es els').strike _ _
  have hF3 : ∀ n els es,Flat (H.set r (.row n es false true r)++[.row 14 els false true H.length]):=fun n els es=>(hF.set r n es).push' (k:=H.length) 14 els (by simp)
  have hs3' : ∀ n els es,q1i H.length H.length 0 (H.set r (.row n es false true r)++[.row 14 els false true H.length]) 0=some (H.set r (.row n es false true r)++[.row 14 els false true H.length]):=fun n els es=>(hF3 n els es).strike _ _
  have hq0' : ∀ X a c,(H.set r X++[a]).set H.length c=H.set r X++[c]:=fun X a c=>qx4 (by simp)
  have fin : ∀ {X:Int × Int},(∃ w H',q1u C0 133 [q0u v,.int .i64 d,.ptr 1 r 0 0] H w H'∧∃ s':Int,w = .int .i64 X.2∧H'=H.set r (.row 1 [.int .i64 s'] false true r)∧(X.2=0→s'=X.1)) →
    ∃ s':Int,q1u C0 133 [q0u v,.int .i64 d,.ptr 1 r 0 0] H (.int .i64 X.2) (H.set r (.row 1 [.int .i64 s'] false true r))∧(X.2=0→s'=X.1):=fun {X} h=>by
   obtain ⟨w,H',h1,s',rfl,rfl,h2⟩:=h
   exact ⟨s',h1,h2⟩
  rw[hle] at fin
  by_cases g1:48<d
  ·rw[if_pos g1]
   refine ⟨seen+1,q1o q0T rfl ?_,by simp⟩
   (repeat' first|simp (disch:=omega) only[go_sem,q0T,enter,Ka,q51,q45,hH,hs1',hg1,hp0]|(apply spl<;>intro h<;>try simp (disch:=omega) only[go_sem,q0T,enter,Ka,q51,q45,hH,hs1',hg1,hp0,h]))
   exact q1l (.inr rfl) (by simp) (hFb _) (q0z _ _) rfl
  ·rw[if_neg g1]
   by_cases g2:65536≤seen
   ·rw[if_pos g2]
    refine ⟨seen+1,q1o q0T rfl ?_,by simp⟩
    (repeat' first|simp (disch:=omega) only[go_sem,q0T,enter,Ka,q51,q45,hH,hs1',hg1,hp0]|(apply spl<;>intro h<;>try simp (disch:=omega) only[go_sem,q0T,enter,Ka,q51,q45,hH,hs1',hg1,hp0,h]))
    exact q1l (.inr rfl) (by simp) (hFb _) (q0z _ _) rfl
   ·rw[if_neg g2]
    cases hown:ownM v with
    | false=>
     have e1:qeQ v=6:=by unfold qeQ; rw[if_pos hown]
     rw[if_pos (by rw[e1]; decide),e1]
     rw[qcV] at hown
     refine ⟨seen+1,q1o q0T rfl ?_,by simp⟩
     (repeat' first|simp (disch:=omega) only[go_sem,q0T,enter,Ka,q51,q45,hH,hs1',hg1,hp0]|refine q00 _ (h139) ?_|(apply spl<;>intro h<;>try simp (disch:=omega) only[go_sem,q0T,enter,Ka,q51,q45,hH,hs1',hg1,hp0 ,h]))
     all_goals first | exact q1l (.inr rfl) (by simp) (hFb _) (q0z _ _) rfl | skip
     all_goals (exfalso; simp only[Bool.and_eq_false_iff,decide_eq_false_iff_not,Bool.not_eq_false'] at hown; first | omega | (rcases hown with h | h; omega; simp_all))
    | true=>
     have hown':=hown
     rw[qcV] at hown'
     simp only[Kd,decide_eq_true_eq,V0] at hown'
     obtain ⟨⟨hk0,hk7⟩,hex⟩:=hown'
     rw[hex] at h139
     rw[qqF hown]
     by_cases hk2:v.s.kind=2
     ·have hk:=hk2
      cases hb:q0a v.s.num with
      | false=>
       rw[hb] at h140
       have ho:qdV v=2:=by unfold qdV; rw[hb,if_pos (.inl ⟨hk2,rfl⟩)]
       rw[if_pos (by rw[ho]; decide),ho]
       refine ⟨seen+1,q1o q0T rfl ?_,by simp⟩
       (repeat' first|simp (disch:=omega) only[go_sem,q0T,enter,Ka,q51,q45,hH,hs1',hg1,hp0]|refine q00 _ (h139) ?_|refine q00 _ (h140) ?_|(apply spl<;>intro h<;>try simp (disch:=omega) only[go_sem,q0T,enter,Ka,q51,q45,hH,hs1',hg1,hp0 ,h]))
       exact q1l (.inr rfl) (by simp) (hFb _) (q0z _ _) rfl
      | true=>
       rw[hb] at h140
       have ho:qdV v=(if 65536<v.s.text.length∨65536<v.s.bytes.length then 10 else q5N (v.f.map (·.1))):=by unfold qdV; rw[hb,if_neg (by rw[hk2]; simp),if_neg (by rw[hk2]; simp)]
       rw[ho]
       by_cases hsz:65536<v.s.text.length∨65536<v.s.bytes.length
       ·rw[if_pos hsz,if_pos (by decide)]
        refine ⟨seen+1,q1o q0T rfl ?_,by simp⟩
        (repeat' first|simp (disch:=omega) only[go_sem,q0T,enter,Ka,q0x,q51,q45,hH,hs1',hg1,hp0]|refine q00 _ (h139) ?_|refine q00 _ (h140) ?_|refine q00 _ (h141) ?_|refine q00 _ (h46) ?_|refine q00 _ (h142) ?_|(apply spl<;>intro h<;>try simp (disch:=omega) only[go_sem,q0T,enter,Ka,q0x,q51,q45,hH,hs1',hg1,hp0 ,h]))
        all_goals first | omega | exact q1l (.inr rfl) (by simp) (hFb _) (q0z _ _) rfl
       ·rw[if_neg hsz]
        by_cases hkey:q5N (v.f.map (·.1))=0
        ·rw[hkey] at h142
         rw[if_neg (by rw[hkey]; simp),q6o hown]
         refine fin (q8u q0T rfl ?_)
         (repeat' first|simp (disch:=omega) only[go_sem,q0T,enter,Ka,q0x,q51,q45,hH,hs1',hg1,hp0]|refine q00 _ (h139) ?_|refine q00 _ (h140) ?_|refine q00 _ (h141) ?_|refine q00 _ (h46) ?_|refine q00 _ (h142) ?_|(apply spl<;>intro h<;>try simp (disch:=omega) only[go_sem,q0T,enter,Ka,q0x,q51,q45,hH,hs1',hg1,hp0 ,h]))
         all_goals try omega
         refine q07 (α:=Nat × Int) (fun a=>{ tmps:=q0q 121 [(1,.int .i64 d),(2,.ptr 1 r 0 0),(3,.ptr 13 H.length 0 0),(89,.tsl 13 (v.l.map q0u)),(90,.int .i64 v.l.length),(91,.int .i64 a.1)],heap:=H.set r (.row 1 [.int .i64 a.2] false true r)++[.row 13 [q0u v] false true H.length],base:=H.length })
          (fun a=>a.1≤v.l.length∧q7P F (v.l++v.f.map (·.2)) (seen+1)=q7P F (v.l.drop a.1++v.f.map (·.2)) a.2∧0≤a.2∧a.2≤65536) (fun a=>v.l.length-a.1) (0,seen+1)
          (by rw[hle]; exact q2D (by simp) (hFb _) rfl (q3p hr (hp0 _ _) rfl) (by (try rw[q14 rfl]); simp only[Km,Kx,AV.renN,q16 hr,q3n])) ⟨Kp _,rfl,by simp only; omega,by simp only; omega⟩ ?_
         rintro ⟨k,sn⟩ ⟨hk1,hm,hs3,hs4⟩
         simp only at hk1 hm hs3 hs4
         rw[hle]
         by_cases hlt:k<v.l.length
         ·obtain ⟨x,hx⟩:=q06 hlt
          have hxm:=Kc hx
          have hx2:=q0c (g:=q0u) hx
          rw[q3k hx,Kr,q2m] at hm
          have hxk:=L.kids x hxm
          obtain ⟨s',hr1,hr2⟩:=ih x (by omega) (by omega) f (d+1) sn (by omega) (by omega) (by omega) (by omega) (by omega) (by omega) (H.set r (.row 1 [.int .i64 sn] false true r)++[.row 13 [q0u v] false true H.length,.row 13 [q0u x] false true (H.length+1)]) r (hF2 _ _ _ _) (by simp; omega) (hg1' _ _)
          have hrg:=q1F f x (d+1) sn hs3 hs4
          rw[q45 (by simpa using hr),List.set_set] at hr1
          unfold cnt at hr1
          have hFx:F x sn=q2n f x (d+1) sn:=by rw[←hFF]
          rw[hFx] at hm
          generalize q2n f x (d+1) sn=R at hr1 hr2 hm hrg
          rw[q08 x] at hx2 hr1
          rw[hle] at hr1
          by_cases he:R.2=0
          ·rw[if_pos he] at hm
           rw[he] at hr1
           have hs':=hr2 he
           (repeat' first|simp (disch:=omega) only[go_sem,hx2,Ka,Kq,Kk,KS,hg1',hp0',hp1',hq1',hs2']|(refine q0f _ _ hr1 ?_)|(apply spl<;>intro h<;>try simp (disch:=omega) only[go_sem,hx2,Ka,Kq,Kk,KS,hg1',hp0',hp1',hq1',hs2' ,h]))
           refine ⟨(k+1,R.1),?_,⟨hlt,hm,hrg.1,hrg.2⟩,by simp only; omega⟩
           rw[hs']
           exact q2D (by simp) (hF2 _ _ _ _) rfl (q3p hr (hp0' _ _ _) rfl) (by (try rw[q14 rfl]); simp only[Km,Kx,AV.renN,q16 hr,q3n])
          ·rw[if_neg he] at hm
           rw[hm]
           (repeat' first|simp (disch:=omega) only[go_sem,hx2,he,Ka,Kq,Kk,KS,hg1',hp0',hp1',hq1',hs2']|(refine q0f _ _ hr1 ?_)|(apply spl<;>intro h<;>try simp (disch:=omega) only[go_sem,hx2,he,Ka,Kq,Kk,KS,hg1',hp0',hp1',hq1',hs2' ,h]))
           exact q2E (.inr rfl) (by simp) (hF2 _ _ _ _) (q0z _ _) rfl ⟨_,rfl,rfl,by simp [he]⟩
         ·rw[KU (by omega),Kv] at hm
          (repeat' first|simp (disch:=omega) only[go_sem,Ka,hp0']|(apply spl<;>intro h<;>try simp (disch:=omega) only[go_sem,Ka,hp0',h]))
          refine q07 (α:=Nat × Int) (fun a=>{ tmps:=q0q 121 [(1,.int .i64 d),(2,.ptr 1 r 0 0),(105,.tsl 14 (v.f.map q10)),(106,.int .i64 v.f.length),(107,.int .i64 a.1)],heap:=H.set r (.row 1 [.int .i64 a.2] false true r),base:=H.length })
           (fun a=>a.1≤v.f.length∧q7P F (v.l++v.f.map (·.2)) (seen+1)=q7P F ((v.f.map (·.2)).drop a.1) a.2∧0≤a.2∧a.2≤65536) (fun a=>v.f.length-a.1) (0,sn)
           (q2I (by simp) (hF1 _ _ _) rfl (fun q hq=>by have:q=r:=(KR.1 (show q∈[r] from hq)); omega) (by (try rw[q14 rfl]); simp only[Km,Kx,AV.renN,q16 hr])) ⟨Kp _,hm,hs3,hs4⟩ ?_
          clear hm hlt hk1 hs3 hs4
          rintro ⟨k,sn⟩ ⟨hk1,hm,hs3,hs4⟩
          simp only at hk1 hm hs3 hs4
          by_cases hlt:k<v.f.length
          ·obtain ⟨x,hx⟩:=q06 hlt
           have hxm:=Kc hx
           have hx2:=q0c (g:=q10) hx
           have hx3:=q0c (g:=fun y:List UInt8 × V=>y.2) hx
           rw[q3k hx3,q2m] at hm
           have hxk:=(L.fkids x hxm).1
           obtain ⟨s',hr1,hr2⟩:=ih x.2 (by omega) (by omega) f (d+1) sn (by omega) (by omega) (by omega) (by omega) (by omega) (by omega) (H.set r (.row 1 [.int .i64 sn] false true r)++[.row 14 [q10 x] false true H.length]) r (hF3 _ _ _) (by simp; omega) (hg1' _ _)
           have hrg:=q1F f x.2 (d+1) sn hs3 hs4
           rw[q45 (by simpa using hr),List.set_set] at hr1
           unfold cnt at hr1
           have hFx:F x.2 sn=q2n f x.2 (d+1) sn:=by rw[←hFF]
           rw[hFx] at hm
           generalize q2n f x.2 (d+1) sn=R at hr1 hr2 hm hrg
           rw[q2a] at hx2 hr1
           rw[q08 x.2] at hr1
           by_cases he:R.2=0
           ·rw[if_pos he] at hm
            rw[he] at hr1
            have hs':=hr2 he
            (repeat' first|simp (disch:=omega) only[go_sem,hx2,Ka,Kq,Kk,KS,hg1',hp0',hq0',hs3']|(refine q0f _ _ hr1 ?_)|(apply spl<;>intro h<;>try simp (disch:=omega) only[go_sem,hx2,Ka,Kq,Kk,KS,hg1',hp0',hq0',hs3' ,h]))
            refine ⟨(k+1,R.1),?_,⟨hlt,hm,hrg.1,hrg.2⟩,by simp only; omega⟩
            rw[hs']
            exact q2I (by simp) (hF3 _ _ _) rfl (fun q hq=>by have:q=r:=(KR.1 (show q∈[r] from hq)); omega) (by (try rw[q14 rfl]); simp only[Km,Kx,AV.renN,q16 hr])
           ·rw[if_neg he] at hm
            rw[hm]
            (repeat' first|simp (disch:=omega) only[go_sem,hx2,he,Ka,Kq,Kk,KS,hg1',hp0',hq0',hs3']|(refine q0f _ _ hr1 ?_)|(apply spl<;>intro h<;>try simp (disch:=omega) only[go_sem,hx2,he,Ka,Kq,Kk,KS,hg1',hp0',hq0',hs3' ,h]))
            exact q2E (.inr rfl) (by simp) (hF3 _ _ _) (q0z _ _) rfl ⟨_,rfl,rfl,by simp [he]⟩
          ·rw[KU (by simp; omega)] at hm
           rw[hm]
           (repeat' first|simp (disch:=omega) only[go_sem,Ka]|(apply spl<;>intro h<;>try simp (disch:=omega) only[go_sem,Ka,h]))
           exact q4Y (.inr rfl) (by simp) (hF.set r _ _) (q0z _ _) rfl ⟨_,rfl,rfl,fun _=>rfl⟩
        ·rw[if_pos hkey]
         refine ⟨seen+1,q1o q0T rfl ?_,fun h=>absurd h hkey⟩
         (repeat' first|simp (disch:=omega) only[go_sem,q0T,enter,Ka,q0x,q51,q45,hH,hs1',hg1,hp0]|refine q00 _ (h139) ?_|refine q00 _ (h140) ?_|refine q00 _ (h141) ?_|refine q00 _ (h46) ?_|refine q00 _ (h142) ?_|(apply spl<;>intro h<;>try simp (disch:=omega) only[go_sem,q0T,enter,Ka,q0x,q51,q45,hH,hs1',hg1,hp0 ,h]))
         all_goals first | omega | exact q1l (.inr rfl) (by simp) (hFb _) (q0z _ _) rfl
     ·by_cases hk3:v.s.kind=3
      ·have hk:=hk3
       cases hb:qgB v.s.time with
       | false=>
        rw[hb] at h141
        have ho:qdV v=2:=by unfold qdV; rw[hb,if_pos (.inr ⟨hk3,rfl⟩)]
        rw[if_pos (by rw[ho]; decide),ho]
        refine ⟨seen+1,q1o q0T rfl ?_,by simp⟩
        (repeat' first|simp (disch:=omega) only[go_sem,q0T,enter,Ka,q51,q45,hH,hs1',hg1,hp0]|refine q00 _ (h139) ?_|refine q00 _ (h141) ?_|(apply spl<;>intro h<;>try simp (disch:=omega) only[go_sem,q0T,enter,Ka,q51,q45,hH,hs1',hg1,hp0 ,h]))
        exact q1l (.inr rfl) (by simp) (hFb _) (q0z _ _) rfl
       | true=>
        rw[hb] at h141
        have ho:qdV v=(if 65536<v.s.text.length∨65536<v.s.bytes.length then 10 else q5N (v.f.map (·.1))):=by unfold qdV; rw[hb,if_neg (by rw[hk3]; simp),if_neg (by rw[hk3]; simp)]
        rw[ho]
        by_cases hsz:65536<v.s.text.length∨65536<v.s.bytes.length
        ·rw[if_pos hsz,if_pos (by decide)]
         refine ⟨seen+1,q1o q0T rfl ?_,by simp⟩
         (repeat' first|simp (disch:=omega) only[go_sem,q0T,enter,Ka,q0x,q51,q45,hH,hs1',hg1,hp0]|refine q00 _ (h139) ?_|refine q00 _ (h140) ?_|refine q00 _ (h141) ?_|refine q00 _ (h46) ?_|refine q00 _ (h142) ?_|(apply spl<;>intro h<;>try simp (disch:=omega) only[go_sem,q0T,enter,Ka,q0x,q51,q45,hH,hs1',hg1,hp0 ,h]))
         all_goals first | omega | exact q1l (.inr rfl) (by simp) (hFb _) (q0z _ _) rfl
        ·rw[if_neg hsz]
         by_cases hkey:q5N (v.f.map (·.1))=0
         ·rw[hkey] at h142
          rw[if_neg (by rw[hkey]; simp),q6o hown]
          refine fin (q8u q0T rfl ?_)
          (repeat' first|simp (disch:=omega) only[go_sem,q0T,enter,Ka,q0x,q51,q45,hH,hs1',hg1,hp0]|refine q00 _ (h139) ?_|refine q00 _ (h140) ?_|refine q00 _ (h141) ?_|refine q00 _ (h46) ?_|refine q00 _ (h142) ?_|(apply spl<;>intro h<;>try simp (disch:=omega) only[go_sem,q0T,enter,Ka,q0x,q51,q45,hH,hs1',hg1,hp0 ,h]))
          all_goals try omega
          refine q07 (α:=Nat × Int) (fun a=>{ tmps:=q0q 121 [(1,.int .i64 d),(2,.ptr 1 r 0 0),(3,.ptr 13 H.length 0 0),(89,.tsl 13 (v.l.map q0u)),(90,.int .i64 v.l.length),(91,.int .i64 a.1)],heap:=H.set r (.row 1 [.int .i64 a.2] false true r)++[.row 13 [q0u v] false true H.length],base:=H.length })
           (fun a=>a.1≤v.l.length∧q7P F (v.l++v.f.map (·.2)) (seen+1)=q7P F (v.l.drop a.1++v.f.map (·.2)) a.2∧0≤a.2∧a.2≤65536) (fun a=>v.l.length-a.1) (0,seen+1)
           (by rw[hle]; exact q2D (by simp) (hFb _) rfl (q3p hr (hp0 _ _) rfl) (by (try rw[q14 rfl]); simp only[Km,Kx,AV.renN,q16 hr,q3n])) ⟨Kp _,rfl,by simp only; omega,by simp only; omega⟩ ?_
          rintro ⟨k,sn⟩ ⟨hk1,hm,hs3,hs4⟩
          simp only at hk1 hm hs3 hs4
          rw[hle]
          by_cases hlt:k<v.l.length
          ·obtain ⟨x,hx⟩:=q06 hlt
           have hxm:=Kc hx
           have hx2:=q0c (g:=q0u) hx
           rw[q3k hx,Kr,q2m] at hm
           have hxk:=L.kids x hxm
           obtain ⟨s',hr1,hr2⟩:=ih x (by omega) (by omega) f (d+1) sn (by omega) (by omega) (by omega) (by omega) (by omega) (by omega) (H.set r (.row 1 [.int .i64 sn] false true r)++[.row 13 [q0u v] false true H.length,.row 13 [q0u x] false true (H.length+1)]) r (hF2 _ _ _ _) (by simp; omega) (hg1' _ _)
           have hrg:=q1F f x (d+1) sn hs3 hs4
           rw[q45 (by simpa using hr),List.set_set] at hr1
           unfold cnt at hr1
           have hFx:F x sn=q2n f x (d+1) sn:=by rw[←hFF]
           rw[hFx] at hm
           generalize q2n f x (d+1) sn=R at hr1 hr2 hm hrg
           rw[q08 x] at hx2 hr1
           rw[hle] at hr1
           by_cases he:R.2=0
           ·rw[if_pos he] at hm
            rw[he] at hr1
            have hs':=hr2 he
            (repeat' first|simp (disch:=omega) only[go_sem,hx2,Ka,Kq,Kk,KS,hg1',hp0',hp1',hq1',hs2']|(refine q0f _ _ hr1 ?_)|(apply spl<;>intro h<;>try simp (disch:=omega) only[go_sem,hx2,Ka,Kq,Kk,KS,hg1',hp0',hp1',hq1',hs2' ,h]))
            refine ⟨(k+1,R.1),?_,⟨hlt,hm,hrg.1,hrg.2⟩,by simp only; omega⟩
            rw[hs']
            exact q2D (by simp) (hF2 _ _ _ _) rfl (q3p hr (hp0' _ _ _) rfl) (by (try rw[q14 rfl]); simp only[Km,Kx,AV.renN,q16 hr,q3n])
           ·rw[if_neg he] at hm
            rw[hm]
            (repeat' first|simp (disch:=omega) only[go_sem,hx2,he,Ka,Kq,Kk,KS,hg1',hp0',hp1',hq1',hs2']|(refine q0f _ _ hr1 ?_)|(apply spl<;>intro h<;>try simp (disch:=omega) only[go_sem,hx2,he,Ka,Kq,Kk,KS,hg1',hp0',hp1',hq1',hs2' ,h]))
            exact q2E (.inr rfl) (by simp) (hF2 _ _ _ _) (q0z _ _) rfl ⟨_,rfl,rfl,by simp [he]⟩
          ·rw[KU (by omega),Kv] at hm
           (repeat' first|simp (disch:=omega) only[go_sem,Ka,hp0']|(apply spl<;>intro h<;>try simp (disch:=omega) only[go_sem,Ka,hp0',h]))
           refine q07 (α:=Nat × Int) (fun a=>{ tmps:=q0q 121 [(1,.int .i64 d),(2,.ptr 1 r 0 0),(105,.tsl 14 (v.f.map q10)),(106,.int .i64 v.f.length),(107,.int .i64 a.1)],heap:=H.set r (.row 1 [.int .i64 a.2] false true r),base:=H.length })
            (fun a=>a.1≤v.f.length∧q7P F (v.l++v.f.map (·.2)) (seen+1)=q7P F ((v.f.map (·.2)).drop a.1) a.2∧0≤a.2∧a.2≤65536) (fun a=>v.f.length-a.1) (0,sn)
            (q2I (by simp) (hF1 _ _ _) rfl (fun q hq=>by have:q=r:=(KR.1 (show q∈[r] from hq)); omega) (by (try rw[q14 rfl]); simp only[Km,Kx,AV.renN,q16 hr])) ⟨Kp _,hm,hs3,hs4⟩ ?_
           clear hm hlt hk1 hs3 hs4
           rintro ⟨k,sn⟩ ⟨hk1,hm,hs3,hs4⟩
           simp only at hk1 hm hs3 hs4
           by_cases hlt:k<v.f.length
           ·obtain ⟨x,hx⟩:=q06 hlt
            have hxm:=Kc hx
            have hx2:=q0c (g:=q10) hx
            have hx3:=q0c (g:=fun y:List UInt8 × V=>y.2) hx
            rw[q3k hx3,q2m] at hm
            have hxk:=(L.fkids x hxm).1
            obtain ⟨s',hr1,hr2⟩:=ih x.2 (by omega) (by omega) f (d+1) sn (by omega) (by omega) (by omega) (by omega) (by omega) (by omega) (H.set r (.row 1 [.int .i64 sn] false true r)++[.row 14 [q10 x] false true H.length]) r (hF3 _ _ _) (by simp; omega) (hg1' _ _)
            have hrg:=q1F f x.2 (d+1) sn hs3 hs4
            rw[q45 (by simpa using hr),List.set_set] at hr1
            unfold cnt at hr1
            have hFx:F x.2 sn=q2n f x.2 (d+1) sn:=by rw[←hFF]
            rw[hFx] at hm
            generalize q2n f x.2 (d+1) sn=R at hr1 hr2 hm hrg
            rw[q2a] at hx2 hr1
            rw[q08 x.2] at hr1
            by_cases he:R.2=0
            ·rw[if_pos he] at hm
             rw[he] at hr1
             have hs':=hr2 he
             (repeat' first|simp (disch:=omega) only[go_sem,hx2,Ka,Kq,Kk,KS,hg1',hp0',hq0',hs3']|(refine q0f _ _ hr1 ?_)|(apply spl<;>intro h<;>try simp (disch:=omega) only[go_sem,hx2,Ka,Kq,Kk,KS,hg1',hp0',hq0',hs3' ,h]))
             refine ⟨(k+1,R.1),?_,⟨hlt,hm,hrg.1,hrg.2⟩,by simp only; omega⟩
             rw[hs']
             exact q2I (by simp) (hF3 _ _ _) rfl (fun q hq=>by have:q=r:=(KR.1 (show q∈[r] from hq)); omega) (by (try rw[q14 rfl]); simp only[Km,Kx,AV.renN,q16 hr])
            ·rw[if_neg he] at hm
             rw[hm]
             (repeat' first|simp (disch:=omega) only[go_sem,hx2,he,Ka,Kq,Kk,KS,hg1',hp0',hq0',hs3']|(refine q0f _ _ hr1 ?_)|(apply spl<;>intro h<;>try simp (disch:=omega) only[go_sem,hx2,he,Ka,Kq,Kk,KS,hg1',hp0',hq0',hs3' ,h]))
             exact q2E (.inr rfl) (by simp) (hF3 _ _ _) (q0z _ _) rfl ⟨_,rfl,rfl,by simp [he]⟩
           ·rw[KU (by simp; omega)] at hm
            rw[hm]
            (repeat' first|simp (disch:=omega) only[go_sem,Ka]|(apply spl<;>intro h<;>try simp (disch:=omega) only[go_sem,Ka,h]))
            exact q4Y (.inr rfl) (by simp) (hF.set r _ _) (q0z _ _) rfl ⟨_,rfl,rfl,fun _=>rfl⟩
         ·rw[if_pos hkey]
          refine ⟨seen+1,q1o q0T rfl ?_,fun h=>absurd h hkey⟩
          (repeat' first|simp (disch:=omega) only[go_sem,q0T,enter,Ka,q0x,q51,q45,hH,hs1',hg1,hp0]|refine q00 _ (h139) ?_|refine q00 _ (h140) ?_|refine q00 _ (h141) ?_|refine q00 _ (h46) ?_|refine q00 _ (h142) ?_|(apply spl<;>intro h<;>try simp (disch:=omega) only[go_sem,q0T,enter,Ka,q0x,q51,q45,hH,hs1',hg1,hp0 ,h]))
          all_goals first | omega | exact q1l (.inr rfl) (by simp) (hFb _) (q0z _ _) rfl
      ·by_cases hk4:v.s.kind=4
       ·have hk:=hk4
        cases hb:utf v.s.text with
        | false=>
         rw[hb] at h46
         have ho:qdV v=5:=by unfold qdV; rw[if_neg (by rw[hk4]; simp),hb,if_pos ⟨hk4,rfl⟩]
         rw[if_pos (by rw[ho]; decide),ho]
         refine ⟨seen+1,q1o q0T rfl ?_,by simp⟩
         (repeat' first|simp (disch:=omega) only[go_sem,q0T,enter,Ka,q51,q45,hH,hs1',hg1,hp0]|refine q00 _ (h139) ?_|refine q00 _ (h46) ?_|(apply spl<;>intro h<;>try simp (disch:=omega) only[go_sem,q0T,enter,Ka,q51,q45,hH,hs1',hg1,hp0 ,h]))
         exact q1l (.inr rfl) (by simp) (hFb _) (q0z _ _) rfl
        | true=>
         rw[hb] at h46
         have ho:qdV v=(if 65536<v.s.text.length∨65536<v.s.bytes.length then 10 else q5N (v.f.map (·.1))):=by unfold qdV; rw[hb,if_neg (by rw[hk4]; simp),if_neg (by rw[hk4]; simp)]
         rw[ho]
         by_cases hsz:65536<v.s.text.length∨65536<v.s.bytes.length
         ·rw[if_pos hsz,if_pos (by decide)]
          refine ⟨seen+1,q1o q0T rfl ?_,by simp⟩
          (repeat' first|simp (disch:=omega) only[go_sem,q0T,enter,Ka,q0x,q51,q45,hH,hs1',hg1,hp0]|refine q00 _ (h139) ?_|refine q00 _ (h140) ?_|refine q00 _ (h141) ?_|refine q00 _ (h46) ?_|refine q00 _ (h142) ?_|(apply spl<;>intro h<;>try simp (disch:=omega) only[go_sem,q0T,enter,Ka,q0x,q51,q45,hH,hs1',hg1,hp0 ,h]))
          all_goals first | omega | exact q1l (.inr rfl) (by simp) (hFb _) (q0z _ _) rfl
         ·rw[if_neg hsz]
          by_cases hkey:q5N (v.f.map (·.1))=0
          ·rw[hkey] at h142
           rw[if_neg (by rw[hkey]; simp),q6o hown]
           refine fin (q8u q0T rfl ?_)
           (repeat' first|simp (disch:=omega) only[go_sem,q0T,enter,Ka,q0x,q51,q45,hH,hs1',hg1,hp0]|refine q00 _ (h139) ?_|refine q00 _ (h140) ?_|refine q00 _ (h141) ?_|refine q00 _ (h46) ?_|refine q00 _ (h142) ?_|(apply spl<;>intro h<;>try simp (disch:=omega) only[go_sem,q0T,enter,Ka,q0x,q51,q45,hH,hs1',hg1,hp0 ,h]))
           all_goals try omega
           refine q07 (α:=Nat × Int) (fun a=>{ tmps:=q0q 121 [(1,.int .i64 d),(2,.ptr 1 r 0 0),(3,.ptr 13 H.length 0 0),(89,.tsl 13 (v.l.map q0u)),(90,.int .i64 v.l.length),(91,.int .i64 a.1)],heap:=H.set r (.row 1 [.int .i64 a.2] false true r)++[.row 13 [q0u v] false true H.length],base:=H.length })
            (fun a=>a.1≤v.l.length∧q7P F (v.l++v.f.map (·.2)) (seen+1)=q7P F (v.l.drop a.1++v.f.map (·.2)) a.2∧0≤a.2∧a.2≤65536) (fun a=>v.l.length-a.1) (0,seen+1)
            (by rw[hle]; exact q2D (by simp) (hFb _) rfl (q3p hr (hp0 _ _) rfl) (by (try rw[q14 rfl]); simp only[Km,Kx,AV.renN,q16 hr,q3n])) ⟨Kp _,rfl,by simp only; omega,by simp only; omega⟩ ?_
           rintro ⟨k,sn⟩ ⟨hk1,hm,hs3,hs4⟩
           simp only at hk1 hm hs3 hs4
           rw[hle]
           by_cases hlt:k<v.l.length
           ·obtain ⟨x,hx⟩:=q06 hlt
            have hxm:=Kc hx
            have hx2:=q0c (g:=q0u) hx
            rw[q3k hx,Kr,q2m] at hm
            have hxk:=L.kids x hxm
            obtain ⟨s',hr1,hr2⟩:=ih x (by omega) (by omega) f (d+1) sn (by omega) (by omega) (by omega) (by omega) (by omega) (by omega) (H.set r (.row 1 [.int .i64 sn] false true r)++[.row 13 [q0u v] false true H.length,.row 13 [q0u x] false true (H.length+1)]) r (hF2 _ _ _ _) (by simp; omega) (hg1' _ _)
            have hrg:=q1F f x (d+1) sn hs3 hs4
            rw[q45 (by simpa using hr),List.set_set] at hr1
            unfold cnt at hr1
            have hFx:F x sn=q2n f x (d+1) sn:=by rw[←hFF]
            rw[hFx] at hm
            generalize q2n f x (d+1) sn=R at hr1 hr2 hm hrg
            rw[q08 x] at hx2 hr1
            rw[hle] at hr1
            by_cases he:R.2=0
            ·rw[if_pos he] at hm
             rw[he] at hr1
             have hs':=hr2 he
             (repeat' first|simp (disch:=omega) only[go_sem,hx2,Ka,Kq,Kk,KS,hg1',hp0',hp1',hq1',hs2']|(refine q0f _ _ hr1 ?_)|(apply spl<;>intro h<;>try simp (disch:=omega) only[go_sem,hx2,Ka,Kq,Kk,KS,hg1',hp0',hp1',hq1',hs2' ,h]))
             refine ⟨(k+1,R.1),?_,⟨hlt,hm,hrg.1,hrg.2⟩,by simp only; omega⟩
             rw[hs']
             exact q2D (by simp) (hF2 _ _ _ _) rfl (q3p hr (hp0' _ _ _) rfl) (by (try rw[q14 rfl]); simp only[Km,Kx,AV.renN,q16 hr,q3n])
            ·rw[if_neg he] at hm
             rw[hm]
             (repeat' first|simp (disch:=omega) only[go_sem,hx2,he,Ka,Kq,Kk,KS,hg1',hp0',hp1',hq1',hs2']|(refine q0f _ _ hr1 ?_)|(apply spl<;>intro h<;>try simp (disch:=omega) only[go_sem,hx2,he,Ka,Kq,Kk,KS,hg1',hp0',hp1',hq1',hs2' ,h]))
             exact q2E (.inr rfl) (by simp) (hF2 _ _ _ _) (q0z _ _) rfl ⟨_,rfl,rfl,by simp [he]⟩
           ·rw[KU (by omega),Kv] at hm
            (repeat' first|simp (disch:=omega) only[go_sem,Ka,hp0']|(apply spl<;>intro h<;>try simp (disch:=omega) only[go_sem,Ka,hp0',h]))
            refine q07 (α:=Nat × Int) (fun a=>{ tmps:=q0q 121 [(1,.int .i64 d),(2,.ptr 1 r 0 0),(105,.tsl 14 (v.f.map q10)),(106,.int .i64 v.f.length),(107,.int .i64 a.1)],heap:=H.set r (.row 1 [.int .i64 a.2] false true r),base:=H.length })
             (fun a=>a.1≤v.f.length∧q7P F (v.l++v.f.map (·.2)) (seen+1)=q7P F ((v.f.map (·.2)).drop a.1) a.2∧0≤a.2∧a.2≤65536) (fun a=>v.f.length-a.1) (0,sn)
             (q2I (by simp) (hF1 _ _ _) rfl (fun q hq=>by have:q=r:=(KR.1 (show q∈[r] from hq)); omega) (by (try rw[q14 rfl]); simp only[Km,Kx,AV.renN,q16 hr])) ⟨Kp _,hm,hs3,hs4⟩ ?_
            clear hm hlt hk1 hs3 hs4
            rintro ⟨k,sn⟩ ⟨hk1,hm,hs3,hs4⟩
            simp only at hk1 hm hs3 hs4
            by_cases hlt:k<v.f.length
            ·obtain ⟨x,hx⟩:=q06 hlt
             have hxm:=Kc hx
             have hx2:=q0c (g:=q10) hx
             have hx3:=q0c (g:=fun y:List UInt8 × V=>y.2) hx
             rw[q3k hx3,q2m] at hm
             have hxk:=(L.fkids x hxm).1
             obtain ⟨s',hr1,hr2⟩:=ih x.2 (by omega) (by omega) f (d+1) sn (by omega) (by omega) (by omega) (by omega) (by omega) (by omega) (H.set r (.row 1 [.int .i64 sn] false true r)++[.row 14 [q10 x] false true H.length]) r (hF3 _ _ _) (by simp; omega) (hg1' _ _)
             have hrg:=q1F f x.2 (d+1) sn hs3 hs4
             rw[q45 (by simpa using hr),List.set_set] at hr1
             unfold cnt at hr1
             have hFx:F x.2 sn=q2n f x.2 (d+1) sn:=by rw[←hFF]
             rw[hFx] at hm
             generalize q2n f x.2 (d+1) sn=R at hr1 hr2 hm hrg
             rw[q2a] at hx2 hr1
             rw[q08 x.2] at hr1
             by_cases he:R.2=0
             ·rw[if_pos he] at hm
              rw[he] at hr1
              have hs':=hr2 he
              (repeat' first|simp (disch:=omega) only[go_sem,hx2,Ka,Kq,Kk,KS,hg1',hp0',hq0',hs3']|(refine q0f _ _ hr1 ?_)|(apply spl<;>intro h<;>try simp (disch:=omega) only[go_sem,hx2,Ka,Kq,Kk,KS,hg1',hp0',hq0',hs3' ,h]))
              refine ⟨(k+1,R.1),?_,⟨hlt,hm,hrg.1,hrg.2⟩,by simp only; omega⟩
              rw[hs']
              exact q2I (by simp) (hF3 _ _ _) rfl (fun q hq=>by have:q=r:=(KR.1 (show q∈[r] from hq)); omega) (by (try rw[q14 rfl]); simp only[Km,Kx,AV.renN,q16 hr])
             ·rw[if_neg he] at hm
              rw[hm]
              (repeat' first|simp (disch:=omega) only[go_sem,hx2,he,Ka,Kq,Kk,KS,hg1',hp0',hq0',hs3']|(refine q0f _ _ hr1 ?_)|(apply spl<;>intro h<;>try simp (disch:=omega) only[go_sem,hx2,he,Ka,Kq,Kk,KS,hg1',hp0',hq0',hs3' ,h]))
              exact q2E (.inr rfl) (by simp) (hF3 _ _ _) (q0z _ _) rfl ⟨_,rfl,rfl,by simp [he]⟩
            ·rw[KU (by simp; omega)] at hm
             rw[hm]
             (repeat' first|simp (disch:=omega) only[go_sem,Ka]|(apply spl<;>intro h<;>try simp (disch:=omega) only[go_sem,Ka,h]))
             exact q4Y (.inr rfl) (by simp) (hF.set r _ _) (q0z _ _) rfl ⟨_,rfl,rfl,fun _=>rfl⟩
          ·rw[if_pos hkey]
           refine ⟨seen+1,q1o q0T rfl ?_,fun h=>absurd h hkey⟩
           (repeat' first|simp (disch:=omega) only[go_sem,q0T,enter,Ka,q0x,q51,q45,hH,hs1',hg1,hp0]|refine q00 _ (h139) ?_|refine q00 _ (h140) ?_|refine q00 _ (h141) ?_|refine q00 _ (h46) ?_|refine q00 _ (h142) ?_|(apply spl<;>intro h<;>try simp (disch:=omega) only[go_sem,q0T,enter,Ka,q0x,q51,q45,hH,hs1',hg1,hp0 ,h]))
           all_goals first | omega | exact q1l (.inr rfl) (by simp) (hFb _) (q0z _ _) rfl
       ·have hk:True:=trivial
        have ho:qdV v=(if 65536<v.s.text.length∨65536<v.s.bytes.length then 10 else q5N (v.f.map (·.1))):=by unfold qdV; rw[if_neg (by simp [hk2,hk3]),if_neg (by simp [hk4])]
        rw[ho]
        by_cases hsz:65536<v.s.text.length∨65536<v.s.bytes.length
        ·rw[if_pos hsz,if_pos (by decide)]
         refine ⟨seen+1,q1o q0T rfl ?_,by simp⟩
         (repeat' first|simp (disch:=omega) only[go_sem,q0T,enter,Ka,q0x,q51,q45,hH,hs1',hg1,hp0]|refine q00 _ (h139) ?_|refine q00 _ (h140) ?_|refine q00 _ (h141) ?_|refine q00 _ (h46) ?_|refine q00 _ (h142) ?_|(apply spl<;>intro h<;>try simp (disch:=omega) only[go_sem,q0T,enter,Ka,q0x,q51,q45,hH,hs1',hg1,hp0 ,h]))
         all_goals first | omega | exact q1l (.inr rfl) (by simp) (hFb _) (q0z _ _) rfl
        ·rw[if_neg hsz]
         by_cases hkey:q5N (v.f.map (·.1))=0
         ·rw[hkey] at h142
          rw[if_neg (by rw[hkey]; simp),q6o hown]
          refine fin (q8u q0T rfl ?_)
          (repeat' first|simp (disch:=omega) only[go_sem,q0T,enter,Ka,q0x,q51,q45,hH,hs1',hg1,hp0]|refine q00 _ (h139) ?_|refine q00 _ (h140) ?_|refine q00 _ (h141) ?_|refine q00 _ (h46) ?_|refine q00 _ (h142) ?_|(apply spl<;>intro h<;>try simp (disch:=omega) only[go_sem,q0T,enter,Ka,q0x,q51,q45,hH,hs1',hg1,hp0 ,h]))
          all_goals try omega
          refine q07 (α:=Nat × Int) (fun a=>{ tmps:=q0q 121 [(1,.int .i64 d),(2,.ptr 1 r 0 0),(3,.ptr 13 H.length 0 0),(89,.tsl 13 (v.l.map q0u)),(90,.int .i64 v.l.length),(91,.int .i64 a.1)],heap:=H.set r (.row 1 [.int .i64 a.2] false true r)++[.row 13 [q0u v] false true H.length],base:=H.length })
           (fun a=>a.1≤v.l.length∧q7P F (v.l++v.f.map (·.2)) (seen+1)=q7P F (v.l.drop a.1++v.f.map (·.2)) a.2∧0≤a.2∧a.2≤65536) (fun a=>v.l.length-a.1) (0,seen+1)
           (by rw[hle]; exact q2D (by simp) (hFb _) rfl (q3p hr (hp0 _ _) rfl) (by (try rw[q14 rfl]); simp only[Km,Kx,AV.renN,q16 hr,q3n])) ⟨Kp _,rfl,by simp only; omega,by simp only; omega⟩ ?_
          rintro ⟨k,sn⟩ ⟨hk1,hm,hs3,hs4⟩
          simp only at hk1 hm hs3 hs4
          rw[hle]
          by_cases hlt:k<v.l.length
          ·obtain ⟨x,hx⟩:=q06 hlt
           have hxm:=Kc hx
           have hx2:=q0c (g:=q0u) hx
           rw[q3k hx,Kr,q2m] at hm
           have hxk:=L.kids x hxm
           obtain ⟨s',hr1,hr2⟩:=ih x (by omega) (by omega) f (d+1) sn (by omega) (by omega) (by omega) (by omega) (by omega) (by omega) (H.set r (.row 1 [.int .i64 sn] false true r)++[.row 13 [q0u v] false true H.length,.row 13 [q0u x] false true (H.length+1)]) r (hF2 _ _ _ _) (by simp; omega) (hg1' _ _)
           have hrg:=q1F f x (d+1) sn hs3 hs4
           rw[q45 (by simpa using hr),List.set_set] at hr1
           unfold cnt at hr1
           have hFx:F x sn=q2n f x (d+1) sn:=by rw[←hFF]
           rw[hFx] at hm
           generalize q2n f x (d+1) sn=R at hr1 hr2 hm hrg
           rw[q08 x] at hx2 hr1
           rw[hle] at hr1
           by_cases he:R.2=0
           ·rw[if_pos he] at hm
            rw[he] at hr1
            have hs':=hr2 he
            (repeat' first|simp (disch:=omega) only[go_sem,hx2,Ka,Kq,Kk,KS,hg1',hp0',hp1',hq1',hs2']|(refine q0f _ _ hr1 ?_)|(apply spl<;>intro h<;>try simp (disch:=omega) only[go_sem,hx2,Ka,Kq,Kk,KS,hg1',hp0',hp1',hq1',hs2' ,h]))
            refine ⟨(k+1,R.1),?_,⟨hlt,hm,hrg.1,hrg.2⟩,by simp only; omega⟩
            rw[hs']
            exact q2D (by simp) (hF2 _ _ _ _) rfl (q3p hr (hp0' _ _ _) rfl) (by (try rw[q14 rfl]); simp only[Km,Kx,AV.renN,q16 hr,q3n])
           ·rw[if_neg he] at hm
            rw[hm]
            (repeat' first|simp (disch:=omega) only[go_sem,hx2,he,Ka,Kq,Kk,KS,hg1',hp0',hp1',hq1',hs2']|(refine q0f _ _ hr1 ?_)|(apply spl<;>intro h<;>try simp (disch:=omega) only[go_sem,hx2,he,Ka,Kq,Kk,KS,hg1',hp0',hp1',hq1',hs2' ,h]))
            exact q2E (.inr rfl) (by simp) (hF2 _ _ _ _) (q0z _ _) rfl ⟨_,rfl,rfl,by simp [he]⟩
          ·rw[KU (by omega),Kv] at hm
           (repeat' first|simp (disch:=omega) only[go_sem,Ka,hp0']|(apply spl<;>intro h<;>try simp (disch:=omega) only[go_sem,Ka,hp0',h]))
           refine q07 (α:=Nat × Int) (fun a=>{ tmps:=q0q 121 [(1,.int .i64 d),(2,.ptr 1 r 0 0),(105,.tsl 14 (v.f.map q10)),(106,.int .i64 v.f.length),(107,.int .i64 a.1)],heap:=H.set r (.row 1 [.int .i64 a.2] false true r),base:=H.length })
            (fun a=>a.1≤v.f.length∧q7P F (v.l++v.f.map (·.2)) (seen+1)=q7P F ((v.f.map (·.2)).drop a.1) a.2∧0≤a.2∧a.2≤65536) (fun a=>v.f.length-a.1) (0,sn)
            (q2I (by simp) (hF1 _ _ _) rfl (fun q hq=>by have:q=r:=(KR.1 (show q∈[r] from hq)); omega) (by (try rw[q14 rfl]); simp only[Km,Kx,AV.renN,q16 hr])) ⟨Kp _,hm,hs3,hs4⟩ ?_
           clear hm hlt hk1 hs3 hs4
           rintro ⟨k,sn⟩ ⟨hk1,hm,hs3,hs4⟩
           simp only at hk1 hm hs3 hs4
           by_cases hlt:k<v.f.length
           ·obtain ⟨x,hx⟩:=q06 hlt
            have hxm:=Kc hx
            have hx2:=q0c (g:=q10) hx
            have hx3:=q0c (g:=fun y:List UInt8 × V=>y.2) hx
            rw[q3k hx3,q2m] at hm
            have hxk:=(L.fkids x hxm).1
            obtain ⟨s',hr1,hr2⟩:=ih x.2 (by omega) (by omega) f (d+1) sn (by omega) (by omega) (by omega) (by omega) (by omega) (by omega) (H.set r (.row 1 [.int .i64 sn] false true r)++[.row 14 [q10 x] false true H.length]) r (hF3 _ _ _) (by simp; omega) (hg1' _ _)
            have hrg:=q1F f x.2 (d+1) sn hs3 hs4
            rw[q45 (by simpa using hr),List.set_set] at hr1
            unfold cnt at hr1
            have hFx:F x.2 sn=q2n f x.2 (d+1) sn:=by rw[←hFF]
            rw[hFx] at hm
            generalize q2n f x.2 (d+1) sn=R at hr1 hr2 hm hrg
            rw[q2a] at hx2 hr1
            rw[q08 x.2] at hr1
            by_cases he:R.2=0
            ·rw[if_pos he] at hm
             rw[he] at hr1
             have hs':=hr2 he
             (repeat' first|simp (disch:=omega) only[go_sem,hx2,Ka,Kq,Kk,KS,hg1',hp0',hq0',hs3']|(refine q0f _ _ hr1 ?_)|(apply spl<;>intro h<;>try simp (disch:=omega) only[go_sem,hx2,Ka,Kq,Kk,KS,hg1',hp0',hq0',hs3' ,h]))
             refine ⟨(k+1,R.1),?_,⟨hlt,hm,hrg.1,hrg.2⟩,by simp only; omega⟩
             rw[hs']
             exact q2I (by simp) (hF3 _ _ _) rfl (fun q hq=>by have:q=r:=(KR.1 (show q∈[r] from hq)); omega) (by (try rw[q14 rfl]); simp only[Km,Kx,AV.renN,q16 hr])
            ·rw[if_neg he] at hm
             rw[hm]
             (repeat' first|simp (disch:=omega) only[go_sem,hx2,he,Ka,Kq,Kk,KS,hg1',hp0',hq0',hs3']|(refine q0f _ _ hr1 ?_)|(apply spl<;>intro h<;>try simp (disch:=omega) only[go_sem,hx2,he,Ka,Kq,Kk,KS,hg1',hp0',hq0',hs3' ,h]))
             exact q2E (.inr rfl) (by simp) (hF3 _ _ _) (q0z _ _) rfl ⟨_,rfl,rfl,by simp [he]⟩
           ·rw[KU (by simp; omega)] at hm
            rw[hm]
            (repeat' first|simp (disch:=omega) only[go_sem,Ka]|(apply spl<;>intro h<;>try simp (disch:=omega) only[go_sem,Ka,h]))
            exact q4Y (.inr rfl) (by simp) (hF.set r _ _) (q0z _ _) rfl ⟨_,rfl,rfl,fun _=>rfl⟩
         ·rw[if_pos hkey]
          refine ⟨seen+1,q1o q0T rfl ?_,fun h=>absurd h hkey⟩
          (repeat' first|simp (disch:=omega) only[go_sem,q0T,enter,Ka,q0x,q51,q45,hH,hs1',hg1,hp0]|refine q00 _ (h139) ?_|refine q00 _ (h140) ?_|refine q00 _ (h141) ?_|refine q00 _ (h46) ?_|refine q00 _ (h142) ?_|(apply spl<;>intro h<;>try simp (disch:=omega) only[go_sem,q0T,enter,Ka,q0x,q51,q45,hH,hs1',hg1,hp0 ,h]))
          all_goals first | omega | exact q1l (.inr rfl) (by simp) (hFb _) (q0z _ _) rfl
end Ago
set_option maxRecDepth 100000
set_option maxHeartbeats 4000000
namespace Ago
open Go (IntKind)
theorem qam (v:V) (hv:v.bulk≤2^24):q0k C0 126 [q0u v] (.int .i64 (q49 v)):=by
 have hF:Flat [.row 13 [q0u v] false true 0,.row 1 [.int .i64 0] false true 1]:=(Flat.nil.push' 13 [q0u v] (k:=0) rfl).push' 1 [.int .i64 0] (k:=1) rfl
 obtain ⟨s',h,_⟩:=qqS _ v (Ko _) hv 49 1 0 (by omega) (by omega) (by omega) (by omega) (by omega) (by omega) _ 1 hF (by simp) rfl
 refine q04 qkm rfl ?_
 unfold q49
 generalize (q2n 49 v 1 0).2=e at h ⊢
 rw[q08] at h ⊢
 (repeat' first|simp (disch:=omega) only[go_sem,qkm,enter]|(refine q0f _ _ h ?_)|(apply spl<;>intro h<;>try simp (disch:=omega) only[go_sem,qkm,enter ,h]))
 all_goals rfl
end Ago
