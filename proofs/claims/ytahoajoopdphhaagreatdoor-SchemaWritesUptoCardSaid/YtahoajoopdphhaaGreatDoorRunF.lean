/- The reference's look at times; whether a value has only what its kind has. -/
import Derived.Test.YtahoajoopdphhaaGreatDoorRunX
import Derived.Test.YtahoajoopdphhaaGreatDoorRunE
import Derived.Test.YtahoajoopdphhaaGreatDoorRunA
set_option linter.unusedSimpArgs false
set_option linter.unusedVariables false
set_option maxRecDepth 100000
set_option maxHeartbeats 4000000
namespace Ago
open Go (IntKind)
theorem qk7 (t:Int):q0m C0 91 [.int .i64 t] (.bool (decide (t=1∨t=3∨t=4))):=by
 refine q05 qtD rfl ?_
 (repeat' first|simp (disch:=omega) only[go_sem,qtD,enter]|(apply spl<;>intro h<;>try simp (disch:=omega) only[go_sem,qtD,enter,h]))
 all_goals first
  | (simp; omega)
  | (congr 2; rw[Vd]; simp; omega)
  | (simp_all; done)
theorem qfd (t:Int):q0m C0 92 [.int .i64 t] (.bool (decide (t=2∨t=3∨t=4))):=by
 refine q05 qsp rfl ?_
 (repeat' first|simp (disch:=omega) only[go_sem,qsp,enter]|(apply spl<;>intro h<;>try simp (disch:=omega) only[go_sem,qsp,enter,h]))
 all_goals first
  | (simp; omega)
  | (congr 2; rw[Vd]; simp; omega)
  | (simp_all; done)
theorem qsK (t:Tm):q0m C0 80 [qiU t] (.bool (qde t)):=by
 have h1:=qk7 t.kind
 have h2:=qfd t.kind
 refine q05 qsN rfl ?_
 unfold qiU
 (repeat' first|simp (disch:=omega) only[go_sem,qsN,enter]|refine q00 _ (h1) ?_|refine q00 _ (h2) ?_|(apply spl<;>intro h<;>try simp (disch:=omega) only[go_sem,qsN,enter ,h]))
 all_goals first
  | (rw[qgr (by omega)]; done)
  | (simp [qde,qrt]; omega)
  | (
   have e:qde t=(t.off == 0):=by
    rw[Vd]
    simp [qde,qrt]
    omega
   rw[e])

def qua (d:Dec):Bool:=d.neg == false && (d.digits == [] && d.exp == 0)
def tmZ (t:Tm):Bool:=t.kind == 0 && (t.day == 0 && (t.nano == 0 && t.off == 0))
def ownM (v:V):Bool:=
 decide (0≤v.s.kind∧v.s.kind≤7) && (v.s.kind == 1 || v.s.bool == false) && (v.s.kind == 2 || qua v.s.num) && (v.s.kind == 3 || tmZ v.s.time) &&
 (v.s.kind == 4 || v.s.text == []) && (v.s.kind == 5 || (v.s.bytes.length:Int) == 0) && (v.s.kind == 6 || (v.l.length:Int) == 0) && (v.s.kind == 7 || (v.f.length:Int) == 0)
theorem qpB (v:V):q0m C0 78 [q0g v] (.bool (ownM v)):=by
 refine q05 qu4 rfl ?_
 rw[q07]
 (repeat' first|simp (disch:=omega) only[go_sem,qu4,enter,Ka,q0o]|(apply spl<;>intro h<;>try simp (disch:=omega) only[go_sem,qu4,enter,Ka,q0o,h]))
 all_goals (congr 2; unfold ownM qua tmZ; simp_all)
 all_goals omega
end Ago
set_option maxRecDepth 100000
set_option maxHeartbeats 4000000
namespace Ago
open Go (IntKind)
def q7Z:List (List UInt8)→List (List UInt8)→Int
 | _,[]=>0
 | pre,x::l=>if utf x=false then 5 else if 1024<x.length then 10 else if pre.contains x then 8 else q7Z (pre++[x]) l
def q6o (l:List (List UInt8)):Int:=q7Z [] l
theorem qbI {l:List (List UInt8)} {i:Nat} {x:List UInt8} (h:l[i]?=some x):q7Z (l.take i) (l.drop i)=if utf x=false then 5 else if 1024<x.length then 10 else if (l.take i).contains x then 8 else q7Z (l.take (i+1)) (l.drop (i+1)):=by
 have hl:=(Ks.1 h)
 obtain ⟨hlt,hx⟩:=hl
 rw[VR hlt,hx]
 conv=>lhs; unfold q7Z
 rw[KD,h]
 rfl
theorem qnG (f:List (List UInt8 × V)) (hf:f.length<2^30) (hk : ∀ x,x∈f→x.1.length<2^30):q0m C0 81 [.tsl 14 (f.map q0J)] (.int .i64 (q6o (f.map (·.1)))):=by
 refine q05 qtf rfl ?_
 (repeat' first|simp (disch:=omega) only[go_sem,qtf,enter]|(apply spl<;>intro h<;>try simp (disch:=omega) only[go_sem,qtf,enter,h]))
 refine q0a (α:=Nat) (fun i=>{ tmps:=q0i 41 [(0,.tsl 14 (f.map q0J)),(3,.int .i64 i)],heap:=[],base:=0 }) (fun i=>i≤f.length∧q6o (f.map (·.1))=q7Z ((f.map (·.1)).take i) ((f.map (·.1)).drop i)) (fun i=>f.length-i) 0 rfl ⟨Kn _,rfl⟩ ?_
 rintro i ⟨hi,hm⟩
 by_cases hlt:i<f.length
 ·obtain ⟨x,hx⟩:=q08 hlt
  have hx2:=q0d (g:=q0J) hx
  have hx3:=q0d (g:=fun y:List UInt8 × V=>y.1) hx
  rw[q17] at hx2
  have hu:=qcS x.1 (hk x (Kc hx))
  rw[qbI hx3] at hm
  cases hux:utf x.1 with
  | false=>
   rw[hux] at hu hm
   rw[if_pos rfl] at hm
   rw[hm]
   (repeat' first|simp (disch:=omega) only[go_sem,hx2,Ka]|refine q00 _ (hu) ?_)
  | true=>
   rw[hux] at hu hm
   rw[if_neg (by simp)] at hm
   by_cases h1:1024<x.1.length
   ·rw[if_pos h1] at hm
    rw[hm]
    (repeat' first|simp (disch:=omega) only[go_sem,hx2,Ka]|refine q00 _ (hu) ?_)
   ·rw[if_neg h1] at hm
    (repeat' first|simp (disch:=omega) only[go_sem,hx2,Ka]|refine q00 _ (hu) ?_|(apply spl<;>intro h<;>try simp (disch:=omega) only[go_sem,hx2,Ka ,h]))
    refine q0a (α:=Nat) (fun j=>{ tmps:=q0i 41 [(0,.tsl 14 (f.map q0J)),(3,.int .i64 i),(4,.int .i64 j)],heap:=[],base:=0 }) (fun j=>j≤i∧∀ y,y∈(f.map (·.1)).take j→y≠x.1) (fun j=>i-j) 0 rfl ⟨Kn _,by simp⟩ ?_
    rintro j ⟨hj,hne⟩
    by_cases hlt2:j<i
    ·obtain ⟨y,hy⟩:=q08 (s:=f) (k:=j) (by omega)
     have hy2:=q0d (g:=q0J) hy
     have hy3:=q0d (g:=fun y:List UInt8 × V=>y.1) hy
     rw[q17] at hy2
     by_cases he:y.1=x.1
     ·have hc:((f.map (·.1)).take i).contains x.1=true:=by
       rw[Vv]
       refine Kc (i:=j) ?_
       rw[Vg hlt2,hy3,he]
      rw[if_pos hc] at hm
      rw[hm]
      have he2:(y.1 == x.1)=true:=by simpa using he
      (repeat' first|simp (disch:=omega) only[go_sem,hx2,hy2,he2,Ka])
     ·have he2:(y.1 == x.1)=false:=by simpa using he
      (repeat' first|simp (disch:=omega) only[go_sem,hx2,hy2,he2,Ka]|(apply spl<;>intro h<;>try simp (disch:=omega) only[go_sem,hx2,hy2,he2,Ka,h]))
      refine ⟨j+1,rfl,⟨hlt2,fun z hz=>?_⟩,by omega⟩
      rw[KD,hy3] at hz
      rcases Kv.1 hz with hz | hz
      ·exact hne z hz
      ·have:z=y.1:=by simpa using hz
       rw[this]
       exact he
    ·have hji:j=i:=by omega
     subst hji
     have hc:((f.map (·.1)).take j).contains x.1=false:=by
      rw[Bool.eq_false_iff]
      intro h
      rw[Vv] at h
      exact hne _ h rfl
     rw[if_neg (by rw[hc]; simp)] at hm
     (repeat' first|simp (disch:=omega) only[go_sem,hx2,Ka]|(apply spl<;>intro h<;>try simp (disch:=omega) only[go_sem,hx2,Ka,h]))
     exact ⟨j+1,rfl,⟨hlt,hm⟩,by omega⟩
 ·have e:q6o (f.map (·.1))=0:=by
   rw[hm,KX (by simp; omega)]
   unfold q7Z
   rfl
  rw[e]
  (repeat' first|simp (disch:=omega) only[go_sem,Ka])
end Ago
set_option maxRecDepth 100000
set_option maxHeartbeats 4000000
namespace Ago
open Go (IntKind)
def qbi (v:V):Int:=
 if ownM v=false then 6
 else if q6C v.s.num=false∨v.s.kind=3∧qde v.s.time=false then 2
 else if utf v.s.text=false then 5
 else if 65536<v.s.text.length∨65536<v.s.bytes.length then 10
 else q6o (v.f.map (·.1))
theorem qpC (v:V) (hv:v.bulk≤2^24):q0m C0 57 [q0g v] (.int .i64 (qbi v)):=by
 have L:=V.lens hv
 have h1:=qpB v
 have h2:=qeQ v.s.num (by have:=L.digits; omega)
 have h3:=qcS v.s.text (by have:=L.text; omega)
 have h4:=qsK v.s.time
 have h5:=qnG v.f (by have:=L.fields; omega) (fun x hx=>by have:=(L.fkids x hx).2; omega)
 unfold qiU at h4
 unfold q2A at h2
 rw[q07] at h1 ⊢
 refine q05 qhv rfl ?_
 unfold qbi
 cases hb1:ownM v with
 | false=>
  rw[hb1] at h1
  (repeat' first|simp (disch:=omega) only[go_sem,qhv,enter,Ka,q0o]|refine q00 _ (h1) ?_|refine q00 _ (h2) ?_|refine q00 _ (h3) ?_|refine q00 _ (h4) ?_|refine q00 _ (h5) ?_)
 | true=>
  rw[hb1] at h1
  rw[if_neg (by simp)]
  cases hb2:q6C v.s.num with
  | false=>
   rw[hb2] at h2
   rw[if_pos (.inl rfl)]
   (repeat' first|simp (disch:=omega) only[go_sem,qhv,enter,Ka,q0o]|refine q00 _ (h1) ?_|refine q00 _ (h2) ?_|refine q00 _ (h3) ?_|refine q00 _ (h4) ?_|refine q00 _ (h5) ?_)
  | true=>
   rw[hb2] at h2
   by_cases hb4:v.s.kind=3∧qde v.s.time=false
   ·rw[if_pos (.inr hb4)]
    rw[hb4.2] at h4
    have hk:=hb4.1
    rw[hk] at h1
    (repeat' first|simp (disch:=omega) only[go_sem,qhv,enter,Ka,q0o,hk]|refine q00 _ (h1) ?_|refine q00 _ (h2) ?_|refine q00 _ (h3) ?_|refine q00 _ (h4) ?_|refine q00 _ (h5) ?_)
   ·rw[if_neg (by simpa using hb4)]
    have hkt:v.s.kind=3→qde v.s.time=true:=fun h=>by
     cases ht:qde v.s.time with
     | true=>rfl
     | false=>exact (hb4 ⟨h,ht⟩).elim
    cases hb3:utf v.s.text with
    | false=>
     rw[hb3] at h3
     rw[if_pos rfl]
     by_cases hk:v.s.kind=3
     ·rw[hkt hk] at h4; rw[hk] at h1
      (repeat' first|simp (disch:=omega) only[go_sem,qhv,enter,Ka,q0o,hk]|refine q00 _ (h1) ?_|refine q00 _ (h2) ?_|refine q00 _ (h3) ?_|refine q00 _ (h4) ?_|refine q00 _ (h5) ?_)
     ·(repeat' first|simp (disch:=omega) only[go_sem,qhv,enter,Ka,q0o,hk]|refine q00 _ (h1) ?_|refine q00 _ (h2) ?_|refine q00 _ (h3) ?_|refine q00 _ (h4) ?_|refine q00 _ (h5) ?_)
    | true=>
     rw[hb3] at h3
     rw[if_neg (by simp)]
     by_cases hs:65536<v.s.text.length∨65536<v.s.bytes.length
     ·rw[if_pos hs]
      by_cases hk:v.s.kind=3
      ·rw[hkt hk] at h4; rw[hk] at h1
       (repeat' first|simp (disch:=omega) only[go_sem,qhv,enter,Ka,q0o,hk]|refine q00 _ (h1) ?_|refine q00 _ (h2) ?_|refine q00 _ (h3) ?_|refine q00 _ (h4) ?_|refine q00 _ (h5) ?_|(apply spl<;>intro h<;>try simp (disch:=omega) only[go_sem,qhv,enter,Ka,q0o,hk ,h]))
       all_goals first | omega | rfl
      ·(repeat' first|simp (disch:=omega) only[go_sem,qhv,enter,Ka,q0o,hk]|refine q00 _ (h1) ?_|refine q00 _ (h2) ?_|refine q00 _ (h3) ?_|refine q00 _ (h4) ?_|refine q00 _ (h5) ?_|(apply spl<;>intro h<;>try simp (disch:=omega) only[go_sem,qhv,enter,Ka,q0o,hk ,h]))
       all_goals first | omega | rfl
     ·rw[if_neg hs]
      by_cases hk:v.s.kind=3
      ·rw[hkt hk] at h4; rw[hk] at h1
       (repeat' first|simp (disch:=omega) only[go_sem,qhv,enter,Ka,q0o,hk]|refine q00 _ (h1) ?_|refine q00 _ (h2) ?_|refine q00 _ (h3) ?_|refine q00 _ (h4) ?_|refine q00 _ (h5) ?_)
       all_goals first | omega | rfl
      ·(repeat' first|simp (disch:=omega) only[go_sem,qhv,enter,Ka,q0o,hk]|refine q00 _ (h1) ?_|refine q00 _ (h2) ?_|refine q00 _ (h3) ?_|refine q00 _ (h4) ?_|refine q00 _ (h5) ?_)
       all_goals first | omega | rfl
end Ago
set_option maxRecDepth 100000
set_option maxHeartbeats 4000000
namespace Ago
open Go (IntKind)
def q84 (f:V→Int→Int × Int):List V→Int→Int × Int
 | [],seen=>(seen,0)
 | x::l,seen=>if (f x seen).2=0 then q84 f l (f x seen).1 else f x seen
def q2d:Nat→V→Int→Int→Int × Int
 | 0,_,_,seen=>(seen,9)
 | k+1,v,d,seen=>if 48<d then (seen,9) else if 65536≤seen then (seen,10) else if qbi v≠0 then (seen,qbi v) else q84 (fun x s=>q2d k x (d+1) s) v.kids (seen+1)
theorem q2N {f:V→Int→Int × Int} {l:List V} {x:V} {seen:Int}:q84 f (x::l) seen=if (f x seen).2=0 then q84 f l (f x seen).1 else f x seen:=rfl
theorem qbC {f:V→Int→Int × Int} (hf : ∀ x s,0≤s→s≤65536→0≤(f x s).1∧(f x s).1≤65536) : ∀ (l:List V) (s:Int),0≤s→s≤65536→0≤(q84 f l s).1∧(q84 f l s).1≤65536
 | [],s,h1,h2=>⟨h1,h2⟩
 | x::l,s,h1,h2=>by
  have h:=hf x s h1 h2
  rw[q2N]
  split
  ·exact qbC hf l _ h.1 h.2
  ·exact h
theorem q1J : ∀ (k:Nat) (v:V) (d s:Int),0≤s→s≤65536→0≤(q2d k v d s).1∧(q2d k v d s).1≤65536
 | 0,v,d,s,h1,h2=>⟨h1,h2⟩
 | k+1,v,d,s,h1,h2=>by
  unfold q2d
  split
  ·exact ⟨h1,h2⟩
  ·split
   ·exact ⟨h1,h2⟩
   ·split
    ·exact ⟨h1,h2⟩
    ·exact qbC (fun x s h1 h2=>q1J k x (d+1) s h1 h2) _ _ (by omega) (by omega)
theorem qmz : ∀ (n:Nat) (v:V),v.bulk≤n→n≤2^24→∀ (f:Nat) (d seen:Int),0≤d→49<d+f→d≤49→0<f→0≤seen→seen≤65536→q0m C0 39 [q0g v,.int .i64 d,.int .i64 seen] (.tup [.int .i64 (q2d f v d seen).1,.int .i64 (q2d f v d seen).2]):=by
 intro n
 induction n with
 | zero=>
  intro v hv
  have:1≤v.bulk:=q46 _
  omega
 | succ n ih=>
  intro v hv hn f d seen hd1 hdf hd2 hf0 hs1 hs2
  obtain ⟨f,rfl⟩ : ∃ g,f=g+1:=⟨f-1,by omega⟩
  have h1:=qpC v (by omega)
  have h2:=qnk v (by omega)
  obtain ⟨kb1,kb2⟩:=kids_bulk (v:=v) (by omega)
  rw[q07] at h1 h2 ⊢
  rw[show q2d (f+1) v d seen=if 48<d then (seen,9) else if 65536≤seen then (seen,10) else if qbi v≠0 then (seen,qbi v) else q84 (fun x s=>q2d f x (d+1) s) v.kids (seen+1) from rfl]
  refine q05 qoP rfl ?_
  by_cases g1:48<d
  ·rw[if_pos g1]
   (repeat' first|simp (disch:=omega) only[go_sem,qoP,enter,Ka]|refine q00 _ (h1) ?_|refine q00 _ (h2) ?_)
  ·rw[if_neg g1]
   by_cases g2:65536≤seen
   ·rw[if_pos g2]
    (repeat' first|simp (disch:=omega) only[go_sem,qoP,enter,Ka]|refine q00 _ (h1) ?_|refine q00 _ (h2) ?_)
   ·rw[if_neg g2]
    by_cases g3:qbi v=0
    ·rw[if_neg (by simpa using g3)]
     rw[g3] at h1
     (repeat' first|simp (disch:=omega) only[go_sem,qoP,enter,Ka]|refine q00 _ (h1) ?_|refine q00 _ (h2) ?_|(apply spl<;>intro h<;>try simp (disch:=omega) only[go_sem,qoP,enter,Ka ,h]))
     refine q0a (α:=Nat × Int) (fun a=>{ tmps:=q0i 50 [(1,.int .i64 d),(2,.int .i64 a.2),(9,.tsl 13 (v.kids.map q0g)),(10,.int .i64 a.1)],heap:=[],base:=0 }) (fun a=>a.1≤v.kids.length∧q84 (fun x s=>q2d f x (d+1) s) v.kids (seen+1)=q84 (fun x s=>q2d f x (d+1) s) (v.kids.drop a.1) a.2∧0≤a.2∧a.2≤65536) (fun a=>v.kids.length-a.1) (0,seen+1) rfl ⟨Kn _,rfl,by simp only; omega,by simp only; omega⟩ ?_
     rintro ⟨k,sn⟩ ⟨hk,hm,hs3,hs4⟩
     simp only at hk hm hs3 hs4
     by_cases hlt:k<v.kids.length
     ·obtain ⟨x,hx⟩:=q08 hlt
      have hxm:=Kc hx
      have hx2:=q0d (g:=q0g) hx
      have hdr:v.kids.drop k=x::v.kids.drop (k+1):=by
       obtain ⟨h3,h4⟩:=Ks.1 hx
       rw[VR h3,h4]
      have hr:=ih x (by have:=kb1 x hxm; omega) (by omega) f (d+1) sn (by omega) (by omega) (by omega) (by omega) (by omega) (by omega)
      have hrg:=q1J f x (d+1) sn hs3 hs4
      rw[hdr,q2N] at hm
      generalize q2d f x (d+1) sn=r at hr hm hrg
      rw[q07] at hx2 hr
      by_cases he:r.2=0
      ·rw[if_pos he] at hm
       rw[he] at hr
       (repeat' first|simp (disch:=omega) only[go_sem,hx2,Ka]|refine q00 _ (hr) ?_|(apply spl<;>intro h<;>try simp (disch:=omega) only[go_sem,hx2,Ka ,h]))
       exact ⟨(k+1,r.1),rfl,⟨hlt,hm,hrg.1,hrg.2⟩,by simp only; omega⟩
      ·rw[if_neg he] at hm
       rw[hm]
       (repeat' first|simp (disch:=omega) only[go_sem,hx2,Ka,he]|refine q00 _ (hr) ?_)
     ·rw[KX (by omega)] at hm
      rw[hm]
      (repeat' first|simp (disch:=omega) only[go_sem,Ka]|(apply spl<;>intro h<;>try simp (disch:=omega) only[go_sem,Ka,h]))
      rfl
    ·rw[if_pos g3]
     (repeat' first|simp (disch:=omega) only[go_sem,qoP,enter,Ka,g3]|refine q00 _ (h1) ?_|refine q00 _ (h2) ?_)
def q42 (v:V):Int:=(q2d 49 v 1 0).2
theorem qdu (v:V) (hv:v.bulk≤2^24):q0m C0 19 [q0g v] (.int .i64 (q42 v)):=by
 have h1:=qmz _ v (Kr _) hv 49 1 0 (by omega) (by omega) (by omega) (by omega) (by omega) (by omega)
 rw[q07] at h1 ⊢
 refine q05 qtw rfl ?_
 (repeat' first|simp (disch:=omega) only[go_sem,qtw,enter]|refine q00 _ (h1) ?_|(apply spl<;>intro h<;>try simp (disch:=omega) only[go_sem,qtw,enter ,h]))
 all_goals rfl
end Ago
set_option maxRecDepth 100000
set_option maxHeartbeats 4000000
namespace Ago
open Go (IntKind)
def qvX (k:List UInt8):Int:=if utf k=false then 5 else if 1024<k.length then 10 else 0
theorem qoa (k:List UInt8) (hk:k.length<2^30):q0m C0 151 [.str k] (.int .i64 (qvX k)):=by
 have hu:=q9k k hk
 refine q05 qc9 rfl ?_
 unfold qvX
 cases hb:utf k with
 | false=>
  rw[hb] at hu
  rw[if_pos rfl]
  (repeat' first|simp (disch:=omega) only[go_sem,qc9,enter]|refine q00 _ (hu) ?_|(apply spl<;>intro h<;>try simp (disch:=omega) only[go_sem,qc9,enter ,h]))
 | true=>
  rw[hb] at hu
  rw[if_neg (by simp)]
  by_cases h:1024<k.length
  ·rw[if_pos h]
   (repeat' first|simp (disch:=omega) only[go_sem,qc9,enter]|refine q00 _ (hu) ?_|(apply spl<;>intro h<;>try simp (disch:=omega) only[go_sem,qc9,enter ,h]))
  ·rw[if_neg h]
   (repeat' first|simp (disch:=omega) only[go_sem,qc9,enter]|refine q00 _ (hu) ?_|(apply spl<;>intro h<;>try simp (disch:=omega) only[go_sem,qc9,enter ,h]))
end Ago
set_option maxRecDepth 100000
set_option maxHeartbeats 4000000
namespace Ago
open Go (IntKind)
def qgq (v:V):Bool:=
 (!(v.s.kind == 1) && v.s.bool) || (!(v.s.kind == 2) && !qua v.s.num) || (!(v.s.kind == 3) && !tmZ v.s.time) ||
 (!(v.s.kind == 4) && !(v.s.text == [])) || (!(v.s.kind == 5) && decide (0<v.s.bytes.length)) || (!(v.s.kind == 6) && decide (0<v.l.length)) || (!(v.s.kind == 7) && decide (0<v.f.length))
theorem qcp {α:Type} (l:List α):((l.length:Int) == 0) = !decide (0<l.length):=by
 cases l with
 | nil=>rfl
 | cons x l=>simp; omega
theorem qeL (v:V):ownM v=(decide (0≤v.s.kind∧v.s.kind≤7) && !qgq v):=by
 unfold ownM qgq
 simp only[qcp,Bool.not_or,Bool.not_and,Bool.not_not,Bool.and_assoc,Bool.not_eq_eq_eq_not,beq_false]
theorem qjh (v:V):q0m C0 139 [q0g v] (.bool (qgq v)):=by
 refine q05 qka rfl ?_
 rw[q07]
 (repeat' first|simp (disch:=omega) only[go_sem,qka,enter,Ka,q0o]|(apply spl<;>intro h<;>try simp (disch:=omega) only[go_sem,qka,enter,Ka,q0o,h]))
 all_goals (congr 2; unfold qgq qua tmZ; simp_all [List.length_pos_iff])
 all_goals grind
end Ago
set_option maxRecDepth 100000
set_option maxHeartbeats 4000000
namespace Ago
open Go (IntKind)
def setMap (l:List (List UInt8)):List (AV × AV):=l.map fun x=>(.str x,.bool true)
theorem qmO (l:List (List UInt8)):qpO (.map (setMap l)):=qh7 fun x hx=>by
 unfold setMap at hx
 obtain ⟨y,_,rfl⟩:=KV.1 hx
 exact ⟨qej y,qiu true⟩
theorem qaa (k:List UInt8) : ∀ (l:List (List UInt8)) (i:Nat),(l.contains k=false→findKey (.one .str) (.str k) (setMap l) i=some none)∧(l.contains k=true→∃ j,findKey (.one .str) (.str k) (setMap l) i=some (some (j,.bool true)))
 | [],i=>⟨fun _=>rfl,fun h=>by simp at h⟩
 | x::l,i=>by
  obtain ⟨h1,h2⟩:=qaa k l (i+1)
  by_cases he:k=x
  ·subst he
   refine ⟨fun h=>by simp at h,fun _=>⟨i,?_⟩⟩
   simp [setMap,findKey,q44,q31]
  ·have e:findKey (.one .str) (.str k) (setMap (x::l)) i=findKey (.one .str) (.str k) (setMap l) (i+1):=by
    have:(k == x)=false:=by simpa using he
    simp [setMap,findKey,q44,q31,this]
   rw[e]
   have hc:(x::l).contains k=l.contains k:=by
    have:(k == x)=false:=by simpa using he
    rw[K5,this,Vj]
   rw[hc]
   exact ⟨h1,h2⟩
theorem qlD (f:List (List UInt8 × V)) (hf:f.length<2^30) (hk : ∀ x,x∈f→x.1.length<2^30):q0m C0 142 [.tsl 14 (f.map q0J)] (.int .i64 (q6o (f.map (·.1)))):=by
 refine q05 qkg rfl ?_
 (repeat' first|simp (disch:=omega) only[go_sem,qkg,enter]|(apply spl<;>intro h<;>try simp (disch:=omega) only[go_sem,qkg,enter,h]))
 refine q0a (α:=Nat) (fun i=>{ tmps:=q0i 28 [(3,.mref 0),(8,.tsl 14 (f.map q0J)),(9,.int .i64 f.length),(10,.int .i64 i)],heap:=[.map (setMap ((f.map (·.1)).take i))],base:=0 })
  (fun i=>i≤f.length∧q6o (f.map (·.1))=q7Z ((f.map (·.1)).take i) ((f.map (·.1)).drop i)) (fun i=>f.length-i) 0 (by first | rfl | (simp only[Ka]; rfl)) ⟨Kn _,rfl⟩ ?_
 rintro i ⟨hi,hm⟩
 by_cases hlt:i<f.length
 ·obtain ⟨x,hx⟩:=q08 hlt
  have hx2:=q0d (g:=q0J) hx
  have hx3:=q0d (g:=fun y:List UInt8 × V=>y.1) hx
  rw[q17] at hx2
  have hu:=qoa x.1 (hk x (Kc hx))
  rw[qbI hx3] at hm
  unfold qvX at hu
  cases hux:utf x.1 with
  | false=>
   rw[if_pos hux] at hu
   rw[if_pos hux] at hm
   rw[hm]
   (repeat' first|simp (disch:=omega) only[go_sem,hx2,Ka]|refine q00 _ (hu) ?_)
  | true=>
   rw[if_neg (by rw[hux]; simp)] at hu hm
   by_cases h1:1024<x.1.length
   ·rw[if_pos h1] at hm hu
    rw[hm]
    (repeat' first|simp (disch:=omega) only[go_sem,hx2,Ka]|refine q00 _ (hu) ?_)
   ·rw[if_neg h1] at hm hu
    obtain ⟨hf1,hf2⟩:=qaa x.1 ((f.map (·.1)).take i) 0
    cases hc:((f.map (·.1)).take i).contains x.1 with
    | true=>
     obtain ⟨j,hj⟩:=hf2 hc
     rw[if_pos hc] at hm
     rw[hm]
     (repeat' first|simp (disch:=omega) only[go_sem,hx2,Ka,hj]|refine q00 _ (hu) ?_)
    | false=>
     have hj:=hf1 hc
     rw[if_neg (by rw[hc]; simp)] at hm
     (repeat' first|simp (disch:=omega) only[go_sem,hx2,Ka,hj]|refine q00 _ (hu) ?_|(apply spl<;>intro h<;>try simp (disch:=omega) only[go_sem,hx2,Ka,hj ,h]))
     have e:setMap ((f.map (·.1)).take i)++[(.str x.1,.bool true)]=setMap ((f.map (·.1)).take (i+1)):=by
      rw[KD,hx3]
      simp [setMap]
     rw[e]
     exact ⟨i+1,(q7q (.cons (qmO _) (.cons (q9t _ _ _) .nil))).trans rfl,⟨hlt,hm⟩,by omega⟩
 ·have e:q6o (f.map (·.1))=0:=by
   rw[hm,KX (by simp; omega)]
   unfold q7Z
   rfl
  rw[e]
  (repeat' first|simp (disch:=omega) only[go_sem,Ka])
end Ago
set_option maxRecDepth 100000
set_option maxHeartbeats 4000000
namespace Ago
open Go (IntKind)
theorem q0w {g:AV→AV} (hg:g .dead = .dead) (n:Nat) : ∀ (l:List (Nat × AV)),(q0i n l).map g=q0i n (l.map fun x=>(x.1,g x.2)):=by
 intro l
 unfold q0i
 suffices h : ∀ (l:List (Nat × AV)) (s:List AV),(l.foldl (fun s x=>s.set x.1 x.2) s).map g=(l.map fun x=>(x.1,g x.2)).foldl (fun s x=>s.set x.1 x.2) (s.map g) by
  rw[h,List.map_replicate,hg]
 intro l
 induction l with
 | nil=>intro s; rfl
 | cons x l ih=>
  intro s
  rw[Vz,ih,List.map_set]
  rfl
def cnt (r:Nat) (n:Int):Blk:=.row 1 [.int .i64 n] false true r
theorem q7S {H E:Heap} {m:Nat} {v:AV} (hm:m=H.length) (hF:Flat (H++E)) (hv:q4B v):q7P m v (H++E)=⟨[v],H,m,0⟩:=by
 refine q3o hm hF rfl (fun r hr=>?_) ?_
 ·simp only[VH,List.flatMap_nil,Kj] at hr
  rw[hv.1] at hr
  cases hr
 ·simp only[Kd,Kl]
  rw[hv.2]
def qeZ (v:V):Int:=
 if v.s.kind=2∧q6C v.s.num=false∨v.s.kind=3∧qde v.s.time=false then 2
 else if v.s.kind=4∧utf v.s.text=false then 5
 else if 65536<v.s.text.length∨65536<v.s.bytes.length then 10
 else q6o (v.f.map (·.1))
theorem qqB {v:V} (h:ownM v=true) (hk:v.s.kind≠2):v.s.num=⟨false,[],0⟩:=by
 unfold ownM qua at h
 cases hn:v.s.num with
 | mk a b c=>simp_all
theorem qmM {v:V} (h:ownM v=true) (hk:v.s.kind≠4):v.s.text=[]:=by
 unfold ownM at h
 simp_all
theorem qqR:utf []=true:=by decide
theorem qpT {v:V} (h:ownM v=true):qbi v=qeZ v:=by
 unfold qbi qeZ
 rw[if_neg (by rw[h]; simp)]
 have h1:q6C v.s.num=false→v.s.kind=2:=fun hd=>Classical.byContradiction fun hk=>by
  rw[qqB h hk] at hd
  revert hd
  decide
 have h2:utf v.s.text=false→v.s.kind=4:=fun hd=>Classical.byContradiction fun hk=>by
  rw[qmM h hk,qqR] at hd
  cases hd
 have e1:(q6C v.s.num=false∨v.s.kind=3∧qde v.s.time=false)↔(v.s.kind=2∧q6C v.s.num=false∨v.s.kind=3∧qde v.s.time=false):=
  ⟨fun h=>h.elim (fun h=>.inl ⟨h1 h,h⟩) .inr,fun h=>h.elim (fun h=>.inl h.2) .inr⟩
 have e2:utf v.s.text=false↔(v.s.kind=4∧utf v.s.text=false):=⟨fun h=>⟨h2 h,h⟩,fun h=>h.2⟩
 simp only[e1,←e2]
theorem q1H {m:Nat} {res:List ResV} {v:AV} {H E:Heap} {tm:List AV} {b rb:Nat} {e:Ex} (he:e = .normal∨e = .ret) (hm:m=H.length) (hF:Flat (H++E)) (hv:q4B v) (hr:results res ⟨tm,H++E,b,rb⟩=some v):qng m res v H e ⟨tm,H++E,b,rb⟩:=by
 refine q1D he v hr ?_ ?_
 ·rw[q7S hm hF hv]
  rfl
 ·rw[q7S hm hF hv]
def qlh (base:Nat) (res:List ResV) (k:AV→Heap→Prop) (e:Ex) (s:St):Prop:=(e = .normal∨e = .ret)∧∃ u,results res s=some u∧k ((q7P base u s.heap).tmps.getD 0 .dead) (q7P base u s.heap).heap
theorem q9d {C:Ctx} {f:Nat} (fn:AFn) {args:List AV} {H:Heap} {k:AV→Heap→Prop} (hf:C.code f=some fn) (h : @q19 (enter fn args H) ⟨aw (q1z C) (q0m C) fn.body (qlh H.length fn.res k)⟩) : ∃ v H',q1z C f args H v H'∧k v H':=by
 unfold q19 at h
 obtain ⟨e,s,h1,he,u,h2,h3⟩:=q2P _ _ _ h
 exact ⟨_,_,.run hf h1 he h2,h3⟩
theorem q35 {m:Nat} {res:List ResV} {k:AV→Heap→Prop} {v:AV} {H E:Heap} {tm:List AV} {b rb:Nat} {e:Ex} (he:e = .normal∨e = .ret) (hm:m=H.length) (hF:Flat (H++E)) (hv:q4B v) (hr:results res ⟨tm,H++E,b,rb⟩=some v) (hk:k v H):qlh m res k e ⟨tm,H++E,b,rb⟩:=by
 refine ⟨he,v,hr,?_⟩
 rw[q7S hm hF hv]
 exact hk
theorem q5h {m:Nat} {res:List ResV} {k:AV→Heap→Prop} {v:AV} {H:Heap} {tm:List AV} {b rb:Nat} {e:Ex} (he:e = .normal∨e = .ret) (hm:m=H.length) (hF:Flat H) (hv:q4B v) (hr:results res ⟨tm,H,b,rb⟩=some v) (hk:k v H):qlh m res k e ⟨tm,H,b,rb⟩:=by
 refine ⟨he,v,hr,?_⟩
 have:=q7S (E:=[]) hm (by rw[Kj]; exact hF) hv
 rw[Kj] at this
 rw[this]
 exact hk
theorem q0T {X:Heap} {m r:Nat} (hr:r<m) {n:Nat} {els:List AV} (hX:X[m]?=some (.row n els false true m)) {L:List AV} (hL:L.flatMap (AV.refsN 6)=[r,m]):q1M X m 4000 (L.flatMap (AV.refsN 6)) []=[m]:=by
 rw[hL]
 unfold q1M
 rw[if_pos hr]
 unfold q1M
 rw[if_neg (Nat.lt_irrefl m),if_neg (by simp),hX]
 simp only[Blk.refs,if_true,Kh]
 unfold q1M
 rfl
theorem q0u {m r:Nat} {ks:List Nat} (hr:r<m):q0V m ks r=some r:=by unfold q0V; rw[if_pos hr]
theorem q0U {m:Nat}:q0V m [m] m=some m:=by simp [q0V]
theorem q3W {α:Type} {l:List α} {k:Nat} {x:α} (hx:l[k]?=some x):l.drop k=x::l.drop (k+1):=by
 obtain ⟨h3,h4⟩:=Ks.1 hx
 rw[VR h3,h4]
theorem q7R {v:V} (h:ownM v=true) (F:V→Int→Int × Int) (s:Int):q84 F v.kids s=q84 F (v.l++v.f.map (·.2)) s:=by
 unfold ownM at h
 simp only[Kk,K6,beq_iff_eq] at h
 obtain ⟨⟨_,h6⟩,h7⟩:=h
 unfold V.kids
 split
 ·have:v.l=[]:=KE (by omega)
  rw[this,Kh]
 ·have:v.f=[]:=KE (by omega)
  rw[this,Kl,Kj]
theorem qpP : ∀ (n:Nat) (v:V),v.bulk≤n→n≤2^24→∀ (f:Nat) (d seen:Int),0≤d→49<d+f→d≤49→0<f→0≤seen→seen≤65536→∀ (H:Heap) (r:Nat),Flat H→r<H.length→H[r]?=some (cnt r seen) →
  ∃ s':Int,q1z C0 133 [q0g v,.int .i64 d,.ptr 1 r 0 0] H (.int .i64 (q2d f v d seen).2) (H.set r (cnt r s'))∧((q2d f v d seen).2=0→s'=(q2d f v d seen).1):=by
 intro n
 induction n with
 | zero=>
  intro v hv
  have:1≤v.bulk:=q46 _
  omega
 | succ n ih=>
  intro v hv hn f d seen hd1 hdf hd2 hf0 hs1 hs2 H r hF hr hH
  obtain ⟨f,rfl⟩ : ∃ g,f=g+1:=⟨f-1,by omega⟩
  have L:=V.lens (v:=v) (N:=2^24) (by omega)
  have hll:=L.list
  have hlf:=L.fields
  have h139:=qjh v
  have h140:=qby v.s.num (by have:=L.digits; omega)
  have h141:=qqx v.s.time
  have h46:=q9k v.s.text (by have:=L.text; omega)
  have h142:=qlD v.f (by have:=L.fields; omega) (fun x hx=>by have:=(L.fkids x hx).2; omega)
  have hle:=q07 v
  unfold q2A at h140
  unfold qiU at h141
  rw[q07] at h139 ⊢
  unfold cnt at hH
  unfold cnt
  have hs1' : ∀ els,q0D r r 0 (H++[.row 13 els false true H.length]) 0=some (H++[.row 13 els false true H.length]):=fun els=>(hF.push 13 els).strike r 0
  have hg1 : ∀ l,(H.set r (.row 1 [.int .i64 (seen+1)] false true r)++l)[r]?=some (.row 1 [.int .i64 (seen+1)] false true r):=fun l=>by
   rw[q2O (by simpa using hr),Ve hr]
  have hp0 : ∀ b l,(H.set r (.row 1 [.int .i64 (seen+1)] false true r)++b::l)[H.length]?=some b:=fun b l=>q1S (by simp)
  have hFb : ∀ els,Flat (H.set r (.row 1 [.int .i64 (seen+1)] false true r)++[.row 13 els false true H.length]):=fun els=>(hF.set r 1 [.int .i64 (seen+1)]).push' (k:=H.length) 13 els (by simp)
  rw[show q2d (f+1) v d seen=if 48<d then (seen,9) else if 65536≤seen then (seen,10) else if qbi v≠0 then (seen,qbi v) else q84 (fun x s=>q2d f x (d+1) s) v.kids (seen+1) from rfl]
  generalize hFF:(fun x s=>q2d f x (d+1) s)=F
  have hp0' : ∀ X b l,(H.set r X++b::l)[H.length]?=some b:=fun X b l=>q1S (by simp)
  have hp1' : ∀ X a b l,(H.set r X++a::b::l)[H.length+1]?=some b:=fun X a b l=>q6Q (by simp)
  have hq1' : ∀ X a b c,(H.set r X++[a,b]).set (H.length+1) c=H.set r X++[a,c]:=fun X a b c=>qij (by simp)
  have hg1' : ∀ X l,(H.set r X++l)[r]?=some X:=fun X l=>by
   rw[q2O (by simpa using hr),Ve hr]
  have hF1 : ∀ n els es,Flat (H.set r (.row n es false true r)++[.row 13 els false true H.length]):=fun n els es=>(hF.set r n es).push' (k:=H.length) 13 els (by simp)
  have hF2 : ∀ n els es els',Flat (H.set r (.row n es false true r)++[.row 13 els false true H.length,.row 13 els' false true (H.length+1)]):=fun n els es els'=>by
   have:=(hF1 n els es).push' (k:=H.length+1) 13 els' (by simp)
   rwa [Ke] at this
  have hs2' : ∀ n els es els',q0D (H.length+1) (H.length+1) 0 (H.set r (.row n es false true r)++[.row 13 els false true H.length,.row 13 els' false true (H.length+1)]) 0=some (H.set r (.row n es false true r)++[.row 13 els false true H.length,.row 13 els' false true (H.length+1)]):=fun n els es els'=>(hF2 n els es els').strike _ _
  have hF3 : ∀ n els es,Flat (H.set r (.row n es false true r)++[.row 14 els false true H.length]):=fun n els es=>(hF.set r n es).push' (k:=H.length) 14 els (by simp)
  have hs3' : ∀ n els es,q0D H.length H.length 0 (H.set r (.row n es false true r)++[.row 14 els false true H.length]) 0=some (H.set r (.row n es false true r)++[.row 14 els false true H.length]):=fun n els es=>(hF3 n els es).strike _ _
  have hq0' : ∀ X a c,(H.set r X++[a]).set H.length c=H.set r X++[c]:=fun X a c=>q53 (by simp)
  have fin : ∀ {X:Int × Int},(∃ w H',q1z C0 133 [q0g v,.int .i64 d,.ptr 1 r 0 0] H w H'∧∃ s':Int,w = .int .i64 X.2∧H'=H.set r (.row 1 [.int .i64 s'] false true r)∧(X.2=0→s'=X.1)) →
    ∃ s':Int,q1z C0 133 [q0g v,.int .i64 d,.ptr 1 r 0 0] H (.int .i64 X.2) (H.set r (.row 1 [.int .i64 s'] false true r))∧(X.2=0→s'=X.1):=fun {X} h=>by
   obtain ⟨w,H',h1,s',rfl,rfl,h2⟩:=h
   exact ⟨s',h1,h2⟩
  rw[hle] at fin
  by_cases g1:48<d
  ·rw[if_pos g1]
   refine ⟨seen+1,q1s q1g rfl ?_,by simp⟩
   (repeat' first|simp (disch:=omega) only[go_sem,q1g,enter,Ka,q2O,setL,hH,hs1',hg1,hp0]|(apply spl<;>intro h<;>try simp (disch:=omega) only[go_sem,q1g,enter,Ka,q2O,setL,hH,hs1',hg1,hp0,h]))
   exact q1H (.inr rfl) (by simp) (hFb _) (q0F _ _) rfl
  ·rw[if_neg g1]
   by_cases g2:65536≤seen
   ·rw[if_pos g2]
    refine ⟨seen+1,q1s q1g rfl ?_,by simp⟩
    (repeat' first|simp (disch:=omega) only[go_sem,q1g,enter,Ka,q2O,setL,hH,hs1',hg1,hp0]|(apply spl<;>intro h<;>try simp (disch:=omega) only[go_sem,q1g,enter,Ka,q2O,setL,hH,hs1',hg1,hp0,h]))
    exact q1H (.inr rfl) (by simp) (hFb _) (q0F _ _) rfl
   ·rw[if_neg g2]
    cases hown:ownM v with
    | false=>
     have e1:qbi v=6:=by unfold qbi; rw[if_pos hown]
     rw[if_pos (by rw[e1]; decide),e1]
     rw[qeL] at hown
     refine ⟨seen+1,q1s q1g rfl ?_,by simp⟩
     (repeat' first|simp (disch:=omega) only[go_sem,q1g,enter,Ka,q2O,setL,hH,hs1',hg1,hp0]|refine q00 _ (h139) ?_|(apply spl<;>intro h<;>try simp (disch:=omega) only[go_sem,q1g,enter,Ka,q2O,setL,hH,hs1',hg1,hp0 ,h]))
     all_goals first | exact q1H (.inr rfl) (by simp) (hFb _) (q0F _ _) rfl | skip
     all_goals (exfalso; simp only[Bool.and_eq_false_iff,decide_eq_false_iff_not,Bool.not_eq_false'] at hown; first | omega | (rcases hown with h | h; omega; simp_all))
    | true=>
     have hown':=hown
     rw[qeL] at hown'
     simp only[Kk,decide_eq_true_eq,Bool.not_eq_true'] at hown'
     obtain ⟨⟨hk0,hk7⟩,hex⟩:=hown'
     rw[hex] at h139
     rw[qpT hown]
     by_cases hk2:v.s.kind=2
     ·have hk:=hk2
      cases hb:q6C v.s.num with
      | false=>
       rw[hb] at h140
       have ho:qeZ v=2:=by unfold qeZ; rw[hb,if_pos (.inl ⟨hk2,rfl⟩)]
       rw[if_pos (by rw[ho]; decide),ho]
       refine ⟨seen+1,q1s q1g rfl ?_,by simp⟩
       (repeat' first|simp (disch:=omega) only[go_sem,q1g,enter,Ka,q2O,setL,hH,hs1',hg1,hp0]|refine q00 _ (h139) ?_|refine q00 _ (h140) ?_|(apply spl<;>intro h<;>try simp (disch:=omega) only[go_sem,q1g,enter,Ka,q2O,setL,hH,hs1',hg1,hp0 ,h]))
       exact q1H (.inr rfl) (by simp) (hFb _) (q0F _ _) rfl
      | true=>
       rw[hb] at h140
       have ho:qeZ v=(if 65536<v.s.text.length∨65536<v.s.bytes.length then 10 else q6o (v.f.map (·.1))):=by unfold qeZ; rw[hb,if_neg (by rw[hk2]; simp),if_neg (by rw[hk2]; simp)]
       rw[ho]
       by_cases hsz:65536<v.s.text.length∨65536<v.s.bytes.length
       ·rw[if_pos hsz,if_pos (by decide)]
        refine ⟨seen+1,q1s q1g rfl ?_,by simp⟩
        (repeat' first|simp (disch:=omega) only[go_sem,q1g,enter,Ka,q0o,q2O,setL,hH,hs1',hg1,hp0]|refine q00 _ (h139) ?_|refine q00 _ (h140) ?_|refine q00 _ (h141) ?_|refine q00 _ (h46) ?_|refine q00 _ (h142) ?_|(apply spl<;>intro h<;>try simp (disch:=omega) only[go_sem,q1g,enter,Ka,q0o,q2O,setL,hH,hs1',hg1,hp0 ,h]))
        all_goals first | omega | exact q1H (.inr rfl) (by simp) (hFb _) (q0F _ _) rfl
       ·rw[if_neg hsz]
        by_cases hkey:q6o (v.f.map (·.1))=0
        ·rw[hkey] at h142
         rw[if_neg (by rw[hkey]; simp),q7R hown]
         refine fin (q9d q1g rfl ?_)
         (repeat' first|simp (disch:=omega) only[go_sem,q1g,enter,Ka,q0o,q2O,setL,hH,hs1',hg1,hp0]|refine q00 _ (h139) ?_|refine q00 _ (h140) ?_|refine q00 _ (h141) ?_|refine q00 _ (h46) ?_|refine q00 _ (h142) ?_|(apply spl<;>intro h<;>try simp (disch:=omega) only[go_sem,q1g,enter,Ka,q0o,q2O,setL,hH,hs1',hg1,hp0 ,h]))
         all_goals try omega
         refine q0a (α:=Nat × Int) (fun a=>{ tmps:=q0i 121 [(1,.int .i64 d),(2,.ptr 1 r 0 0),(3,.ptr 13 H.length 0 0),(89,.tsl 13 (v.l.map q0g)),(90,.int .i64 v.l.length),(91,.int .i64 a.1)],heap:=H.set r (.row 1 [.int .i64 a.2] false true r)++[.row 13 [q0g v] false true H.length],base:=H.length })
          (fun a=>a.1≤v.l.length∧q84 F (v.l++v.f.map (·.2)) (seen+1)=q84 F (v.l.drop a.1++v.f.map (·.2)) a.2∧0≤a.2∧a.2≤65536) (fun a=>v.l.length-a.1) (0,seen+1)
          (by rw[hle]; exact q34 (by simp) (hFb _) rfl (q0T hr (hp0 _ _) rfl) (by (try rw[q0w rfl]); simp only[Kd,Kl,AV.renN,q0u hr,q0U])) ⟨Kn _,rfl,by simp only; omega,by simp only; omega⟩ ?_
         rintro ⟨k,sn⟩ ⟨hk1,hm,hs3,hs4⟩
         simp only at hk1 hm hs3 hs4
         rw[hle]
         by_cases hlt:k<v.l.length
         ·obtain ⟨x,hx⟩:=q08 hlt
          have hxm:=Kc hx
          have hx2:=q0d (g:=q0g) hx
          rw[q3W hx,Kf,q2N] at hm
          have hxk:=L.kids x hxm
          obtain ⟨s',hr1,hr2⟩:=ih x (by omega) (by omega) f (d+1) sn (by omega) (by omega) (by omega) (by omega) (by omega) (by omega) (H.set r (.row 1 [.int .i64 sn] false true r)++[.row 13 [q0g v] false true H.length,.row 13 [q0g x] false true (H.length+1)]) r (hF2 _ _ _ _) (by simp; omega) (hg1' _ _)
          have hrg:=q1J f x (d+1) sn hs3 hs4
          rw[setL (by simpa using hr),VQ] at hr1
          unfold cnt at hr1
          have hFx:F x sn=q2d f x (d+1) sn:=by rw[←hFF]
          rw[hFx] at hm
          generalize q2d f x (d+1) sn=R at hr1 hr2 hm hrg
          rw[q07 x] at hx2 hr1
          rw[hle] at hr1
          by_cases he:R.2=0
          ·rw[if_pos he] at hm
           rw[he] at hr1
           have hs':=hr2 he
           (repeat' first|simp (disch:=omega) only[go_sem,hx2,Ka,Ke,Kb,Kw,hg1',hp0',hp1',hq1',hs2']|(refine q0b _ _ hr1 ?_)|(apply spl<;>intro h<;>try simp (disch:=omega) only[go_sem,hx2,Ka,Ke,Kb,Kw,hg1',hp0',hp1',hq1',hs2' ,h]))
           refine ⟨(k+1,R.1),?_,⟨hlt,hm,hrg.1,hrg.2⟩,by simp only; omega⟩
           rw[hs']
           exact q34 (by simp) (hF2 _ _ _ _) rfl (q0T hr (hp0' _ _ _) rfl) (by (try rw[q0w rfl]); simp only[Kd,Kl,AV.renN,q0u hr,q0U])
          ·rw[if_neg he] at hm
           rw[hm]
           (repeat' first|simp (disch:=omega) only[go_sem,hx2,he,Ka,Ke,Kb,Kw,hg1',hp0',hp1',hq1',hs2']|(refine q0b _ _ hr1 ?_)|(apply spl<;>intro h<;>try simp (disch:=omega) only[go_sem,hx2,he,Ka,Ke,Kb,Kw,hg1',hp0',hp1',hq1',hs2' ,h]))
           exact q35 (.inr rfl) (by simp) (hF2 _ _ _ _) (q0F _ _) rfl ⟨_,rfl,rfl,by simp [he]⟩
         ·rw[KX (by omega),Kh] at hm
          (repeat' first|simp (disch:=omega) only[go_sem,Ka,hp0']|(apply spl<;>intro h<;>try simp (disch:=omega) only[go_sem,Ka,hp0',h]))
          refine q0a (α:=Nat × Int) (fun a=>{ tmps:=q0i 121 [(1,.int .i64 d),(2,.ptr 1 r 0 0),(105,.tsl 14 (v.f.map q0J)),(106,.int .i64 v.f.length),(107,.int .i64 a.1)],heap:=H.set r (.row 1 [.int .i64 a.2] false true r),base:=H.length })
           (fun a=>a.1≤v.f.length∧q84 F (v.l++v.f.map (·.2)) (seen+1)=q84 F ((v.f.map (·.2)).drop a.1) a.2∧0≤a.2∧a.2≤65536) (fun a=>v.f.length-a.1) (0,sn)
           (q3o (by simp) (hF1 _ _ _) rfl (fun q hq=>by have:q=r:=(Kx.1 (show q∈[r] from hq)); omega) (by (try rw[q0w rfl]); simp only[Kd,Kl,AV.renN,q0u hr])) ⟨Kn _,hm,hs3,hs4⟩ ?_
          clear hm hlt hk1 hs3 hs4
          rintro ⟨k,sn⟩ ⟨hk1,hm,hs3,hs4⟩
          simp only at hk1 hm hs3 hs4
          by_cases hlt:k<v.f.length
          ·obtain ⟨x,hx⟩:=q08 hlt
           have hxm:=Kc hx
           have hx2:=q0d (g:=q0J) hx
           have hx3:=q0d (g:=fun y:List UInt8 × V=>y.2) hx
           rw[q3W hx3,q2N] at hm
           have hxk:=(L.fkids x hxm).1
           obtain ⟨s',hr1,hr2⟩:=ih x.2 (by omega) (by omega) f (d+1) sn (by omega) (by omega) (by omega) (by omega) (by omega) (by omega) (H.set r (.row 1 [.int .i64 sn] false true r)++[.row 14 [q0J x] false true H.length]) r (hF3 _ _ _) (by simp; omega) (hg1' _ _)
           have hrg:=q1J f x.2 (d+1) sn hs3 hs4
           rw[setL (by simpa using hr),VQ] at hr1
           unfold cnt at hr1
           have hFx:F x.2 sn=q2d f x.2 (d+1) sn:=by rw[←hFF]
           rw[hFx] at hm
           generalize q2d f x.2 (d+1) sn=R at hr1 hr2 hm hrg
           rw[q17] at hx2 hr1
           rw[q07 x.2] at hr1
           by_cases he:R.2=0
           ·rw[if_pos he] at hm
            rw[he] at hr1
            have hs':=hr2 he
            (repeat' first|simp (disch:=omega) only[go_sem,hx2,Ka,Ke,Kb,Kw,hg1',hp0',hq0',hs3']|(refine q0b _ _ hr1 ?_)|(apply spl<;>intro h<;>try simp (disch:=omega) only[go_sem,hx2,Ka,Ke,Kb,Kw,hg1',hp0',hq0',hs3' ,h]))
            refine ⟨(k+1,R.1),?_,⟨hlt,hm,hrg.1,hrg.2⟩,by simp only; omega⟩
            rw[hs']
            exact q3o (by simp) (hF3 _ _ _) rfl (fun q hq=>by have:q=r:=(Kx.1 (show q∈[r] from hq)); omega) (by (try rw[q0w rfl]); simp only[Kd,Kl,AV.renN,q0u hr])
           ·rw[if_neg he] at hm
            rw[hm]
            (repeat' first|simp (disch:=omega) only[go_sem,hx2,he,Ka,Ke,Kb,Kw,hg1',hp0',hq0',hs3']|(refine q0b _ _ hr1 ?_)|(apply spl<;>intro h<;>try simp (disch:=omega) only[go_sem,hx2,he,Ka,Ke,Kb,Kw,hg1',hp0',hq0',hs3' ,h]))
            exact q35 (.inr rfl) (by simp) (hF3 _ _ _) (q0F _ _) rfl ⟨_,rfl,rfl,by simp [he]⟩
          ·rw[KX (by simp; omega)] at hm
           rw[hm]
           (repeat' first|simp (disch:=omega) only[go_sem,Ka]|(apply spl<;>intro h<;>try simp (disch:=omega) only[go_sem,Ka,h]))
           exact q5h (.inr rfl) (by simp) (hF.set r _ _) (q0F _ _) rfl ⟨_,rfl,rfl,fun _=>rfl⟩
        ·rw[if_pos hkey]
         refine ⟨seen+1,q1s q1g rfl ?_,fun h=>absurd h hkey⟩
         (repeat' first|simp (disch:=omega) only[go_sem,q1g,enter,Ka,q0o,q2O,setL,hH,hs1',hg1,hp0]|refine q00 _ (h139) ?_|refine q00 _ (h140) ?_|refine q00 _ (h141) ?_|refine q00 _ (h46) ?_|refine q00 _ (h142) ?_|(apply spl<;>intro h<;>try simp (disch:=omega) only[go_sem,q1g,enter,Ka,q0o,q2O,setL,hH,hs1',hg1,hp0 ,h]))
         all_goals first | omega | exact q1H (.inr rfl) (by simp) (hFb _) (q0F _ _) rfl
     ·by_cases hk3:v.s.kind=3
      ·have hk:=hk3
       cases hb:qde v.s.time with
       | false=>
        rw[hb] at h141
        have ho:qeZ v=2:=by unfold qeZ; rw[hb,if_pos (.inr ⟨hk3,rfl⟩)]
        rw[if_pos (by rw[ho]; decide),ho]
        refine ⟨seen+1,q1s q1g rfl ?_,by simp⟩
        (repeat' first|simp (disch:=omega) only[go_sem,q1g,enter,Ka,q2O,setL,hH,hs1',hg1,hp0]|refine q00 _ (h139) ?_|refine q00 _ (h141) ?_|(apply spl<;>intro h<;>try simp (disch:=omega) only[go_sem,q1g,enter,Ka,q2O,setL,hH,hs1',hg1,hp0 ,h]))
        exact q1H (.inr rfl) (by simp) (hFb _) (q0F _ _) rfl
       | true=>
        rw[hb] at h141
        have ho:qeZ v=(if 65536<v.s.text.length∨65536<v.s.bytes.length then 10 else q6o (v.f.map (·.1))):=by unfold qeZ; rw[hb,if_neg (by rw[hk3]; simp),if_neg (by rw[hk3]; simp)]
        rw[ho]
        by_cases hsz:65536<v.s.text.length∨65536<v.s.bytes.length
        ·rw[if_pos hsz,if_pos (by decide)]
         refine ⟨seen+1,q1s q1g rfl ?_,by simp⟩
         (repeat' first|simp (disch:=omega) only[go_sem,q1g,enter,Ka,q0o,q2O,setL,hH,hs1',hg1,hp0]|refine q00 _ (h139) ?_|refine q00 _ (h140) ?_|refine q00 _ (h141) ?_|refine q00 _ (h46) ?_|refine q00 _ (h142) ?_|(apply spl<;>intro h<;>try simp (disch:=omega) only[go_sem,q1g,enter,Ka,q0o,q2O,setL,hH,hs1',hg1,hp0 ,h]))
         all_goals first | omega | exact q1H (.inr rfl) (by simp) (hFb _) (q0F _ _) rfl
        ·rw[if_neg hsz]
         by_cases hkey:q6o (v.f.map (·.1))=0
         ·rw[hkey] at h142
          rw[if_neg (by rw[hkey]; simp),q7R hown]
          refine fin (q9d q1g rfl ?_)
          (repeat' first|simp (disch:=omega) only[go_sem,q1g,enter,Ka,q0o,q2O,setL,hH,hs1',hg1,hp0]|refine q00 _ (h139) ?_|refine q00 _ (h140) ?_|refine q00 _ (h141) ?_|refine q00 _ (h46) ?_|refine q00 _ (h142) ?_|(apply spl<;>intro h<;>try simp (disch:=omega) only[go_sem,q1g,enter,Ka,q0o,q2O,setL,hH,hs1',hg1,hp0 ,h]))
          all_goals try omega
          refine q0a (α:=Nat × Int) (fun a=>{ tmps:=q0i 121 [(1,.int .i64 d),(2,.ptr 1 r 0 0),(3,.ptr 13 H.length 0 0),(89,.tsl 13 (v.l.map q0g)),(90,.int .i64 v.l.length),(91,.int .i64 a.1)],heap:=H.set r (.row 1 [.int .i64 a.2] false true r)++[.row 13 [q0g v] false true H.length],base:=H.length })
           (fun a=>a.1≤v.l.length∧q84 F (v.l++v.f.map (·.2)) (seen+1)=q84 F (v.l.drop a.1++v.f.map (·.2)) a.2∧0≤a.2∧a.2≤65536) (fun a=>v.l.length-a.1) (0,seen+1)
           (by rw[hle]; exact q34 (by simp) (hFb _) rfl (q0T hr (hp0 _ _) rfl) (by (try rw[q0w rfl]); simp only[Kd,Kl,AV.renN,q0u hr,q0U])) ⟨Kn _,rfl,by simp only; omega,by simp only; omega⟩ ?_
          rintro ⟨k,sn⟩ ⟨hk1,hm,hs3,hs4⟩
          simp only at hk1 hm hs3 hs4
          rw[hle]
          by_cases hlt:k<v.l.length
          ·obtain ⟨x,hx⟩:=q08 hlt
           have hxm:=Kc hx
           have hx2:=q0d (g:=q0g) hx
           rw[q3W hx,Kf,q2N] at hm
           have hxk:=L.kids x hxm
           obtain ⟨s',hr1,hr2⟩:=ih x (by omega) (by omega) f (d+1) sn (by omega) (by omega) (by omega) (by omega) (by omega) (by omega) (H.set r (.row 1 [.int .i64 sn] false true r)++[.row 13 [q0g v] false true H.length,.row 13 [q0g x] false true (H.length+1)]) r (hF2 _ _ _ _) (by simp; omega) (hg1' _ _)
           have hrg:=q1J f x (d+1) sn hs3 hs4
           rw[setL (by simpa using hr),VQ] at hr1
           unfold cnt at hr1
           have hFx:F x sn=q2d f x (d+1) sn:=by rw[←hFF]
           rw[hFx] at hm
           generalize q2d f x (d+1) sn=R at hr1 hr2 hm hrg
           rw[q07 x] at hx2 hr1
           rw[hle] at hr1
           by_cases he:R.2=0
           ·rw[if_pos he] at hm
            rw[he] at hr1
            have hs':=hr2 he
            (repeat' first|simp (disch:=omega) only[go_sem,hx2,Ka,Ke,Kb,Kw,hg1',hp0',hp1',hq1',hs2']|(refine q0b _ _ hr1 ?_)|(apply spl<;>intro h<;>try simp (disch:=omega) only[go_sem,hx2,Ka,Ke,Kb,Kw,hg1',hp0',hp1',hq1',hs2' ,h]))
            refine ⟨(k+1,R.1),?_,⟨hlt,hm,hrg.1,hrg.2⟩,by simp only; omega⟩
            rw[hs']
            exact q34 (by simp) (hF2 _ _ _ _) rfl (q0T hr (hp0' _ _ _) rfl) (by (try rw[q0w rfl]); simp only[Kd,Kl,AV.renN,q0u hr,q0U])
           ·rw[if_neg he] at hm
            rw[hm]
            (repeat' first|simp (disch:=omega) only[go_sem,hx2,he,Ka,Ke,Kb,Kw,hg1',hp0',hp1',hq1',hs2']|(refine q0b _ _ hr1 ?_)|(apply spl<;>intro h<;>try simp (disch:=omega) only[go_sem,hx2,he,Ka,Ke,Kb,Kw,hg1',hp0',hp1',hq1',hs2' ,h]))
            exact q35 (.inr rfl) (by simp) (hF2 _ _ _ _) (q0F _ _) rfl ⟨_,rfl,rfl,by simp [he]⟩
          ·rw[KX (by omega),Kh] at hm
           (repeat' first|simp (disch:=omega) only[go_sem,Ka,hp0']|(apply spl<;>intro h<;>try simp (disch:=omega) only[go_sem,Ka,hp0',h]))
           refine q0a (α:=Nat × Int) (fun a=>{ tmps:=q0i 121 [(1,.int .i64 d),(2,.ptr 1 r 0 0),(105,.tsl 14 (v.f.map q0J)),(106,.int .i64 v.f.length),(107,.int .i64 a.1)],heap:=H.set r (.row 1 [.int .i64 a.2] false true r),base:=H.length })
            (fun a=>a.1≤v.f.length∧q84 F (v.l++v.f.map (·.2)) (seen+1)=q84 F ((v.f.map (·.2)).drop a.1) a.2∧0≤a.2∧a.2≤65536) (fun a=>v.f.length-a.1) (0,sn)
            (q3o (by simp) (hF1 _ _ _) rfl (fun q hq=>by have:q=r:=(Kx.1 (show q∈[r] from hq)); omega) (by (try rw[q0w rfl]); simp only[Kd,Kl,AV.renN,q0u hr])) ⟨Kn _,hm,hs3,hs4⟩ ?_
           clear hm hlt hk1 hs3 hs4
           rintro ⟨k,sn⟩ ⟨hk1,hm,hs3,hs4⟩
           simp only at hk1 hm hs3 hs4
           by_cases hlt:k<v.f.length
           ·obtain ⟨x,hx⟩:=q08 hlt
            have hxm:=Kc hx
            have hx2:=q0d (g:=q0J) hx
            have hx3:=q0d (g:=fun y:List UInt8 × V=>y.2) hx
            rw[q3W hx3,q2N] at hm
            have hxk:=(L.fkids x hxm).1
            obtain ⟨s',hr1,hr2⟩:=ih x.2 (by omega) (by omega) f (d+1) sn (by omega) (by omega) (by omega) (by omega) (by omega) (by omega) (H.set r (.row 1 [.int .i64 sn] false true r)++[.row 14 [q0J x] false true H.length]) r (hF3 _ _ _) (by simp; omega) (hg1' _ _)
            have hrg:=q1J f x.2 (d+1) sn hs3 hs4
            rw[setL (by simpa using hr),VQ] at hr1
            unfold cnt at hr1
            have hFx:F x.2 sn=q2d f x.2 (d+1) sn:=by rw[←hFF]
            rw[hFx] at hm
            generalize q2d f x.2 (d+1) sn=R at hr1 hr2 hm hrg
            rw[q17] at hx2 hr1
            rw[q07 x.2] at hr1
            by_cases he:R.2=0
            ·rw[if_pos he] at hm
             rw[he] at hr1
             have hs':=hr2 he
             (repeat' first|simp (disch:=omega) only[go_sem,hx2,Ka,Ke,Kb,Kw,hg1',hp0',hq0',hs3']|(refine q0b _ _ hr1 ?_)|(apply spl<;>intro h<;>try simp (disch:=omega) only[go_sem,hx2,Ka,Ke,Kb,Kw,hg1',hp0',hq0',hs3' ,h]))
             refine ⟨(k+1,R.1),?_,⟨hlt,hm,hrg.1,hrg.2⟩,by simp only; omega⟩
             rw[hs']
             exact q3o (by simp) (hF3 _ _ _) rfl (fun q hq=>by have:q=r:=(Kx.1 (show q∈[r] from hq)); omega) (by (try rw[q0w rfl]); simp only[Kd,Kl,AV.renN,q0u hr])
            ·rw[if_neg he] at hm
             rw[hm]
             (repeat' first|simp (disch:=omega) only[go_sem,hx2,he,Ka,Ke,Kb,Kw,hg1',hp0',hq0',hs3']|(refine q0b _ _ hr1 ?_)|(apply spl<;>intro h<;>try simp (disch:=omega) only[go_sem,hx2,he,Ka,Ke,Kb,Kw,hg1',hp0',hq0',hs3' ,h]))
             exact q35 (.inr rfl) (by simp) (hF3 _ _ _) (q0F _ _) rfl ⟨_,rfl,rfl,by simp [he]⟩
           ·rw[KX (by simp; omega)] at hm
            rw[hm]
            (repeat' first|simp (disch:=omega) only[go_sem,Ka]|(apply spl<;>intro h<;>try simp (disch:=omega) only[go_sem,Ka,h]))
            exact q5h (.inr rfl) (by simp) (hF.set r _ _) (q0F _ _) rfl ⟨_,rfl,rfl,fun _=>rfl⟩
         ·rw[if_pos hkey]
          refine ⟨seen+1,q1s q1g rfl ?_,fun h=>absurd h hkey⟩
          (repeat' first|simp (disch:=omega) only[go_sem,q1g,enter,Ka,q0o,q2O,setL,hH,hs1',hg1,hp0]|refine q00 _ (h139) ?_|refine q00 _ (h140) ?_|refine q00 _ (h141) ?_|refine q00 _ (h46) ?_|refine q00 _ (h142) ?_|(apply spl<;>intro h<;>try simp (disch:=omega) only[go_sem,q1g,enter,Ka,q0o,q2O,setL,hH,hs1',hg1,hp0 ,h]))
          all_goals first | omega | exact q1H (.inr rfl) (by simp) (hFb _) (q0F _ _) rfl
      ·by_cases hk4:v.s.kind=4
       ·have hk:=hk4
        cases hb:utf v.s.text with
        | false=>
         rw[hb] at h46
         have ho:qeZ v=5:=by unfold qeZ; rw[if_neg (by rw[hk4]; simp),hb,if_pos ⟨hk4,rfl⟩]
         rw[if_pos (by rw[ho]; decide),ho]
         refine ⟨seen+1,q1s q1g rfl ?_,by simp⟩
         (repeat' first|simp (disch:=omega) only[go_sem,q1g,enter,Ka,q2O,setL,hH,hs1',hg1,hp0]|refine q00 _ (h139) ?_|refine q00 _ (h46) ?_|(apply spl<;>intro h<;>try simp (disch:=omega) only[go_sem,q1g,enter,Ka,q2O,setL,hH,hs1',hg1,hp0 ,h]))
         exact q1H (.inr rfl) (by simp) (hFb _) (q0F _ _) rfl
        | true=>
         rw[hb] at h46
         have ho:qeZ v=(if 65536<v.s.text.length∨65536<v.s.bytes.length then 10 else q6o (v.f.map (·.1))):=by unfold qeZ; rw[hb,if_neg (by rw[hk4]; simp),if_neg (by rw[hk4]; simp)]
         rw[ho]
         by_cases hsz:65536<v.s.text.length∨65536<v.s.bytes.length
         ·rw[if_pos hsz,if_pos (by decide)]
          refine ⟨seen+1,q1s q1g rfl ?_,by simp⟩
          (repeat' first|simp (disch:=omega) only[go_sem,q1g,enter,Ka,q0o,q2O,setL,hH,hs1',hg1,hp0]|refine q00 _ (h139) ?_|refine q00 _ (h140) ?_|refine q00 _ (h141) ?_|refine q00 _ (h46) ?_|refine q00 _ (h142) ?_|(apply spl<;>intro h<;>try simp (disch:=omega) only[go_sem,q1g,enter,Ka,q0o,q2O,setL,hH,hs1',hg1,hp0 ,h]))
          all_goals first | omega | exact q1H (.inr rfl) (by simp) (hFb _) (q0F _ _) rfl
         ·rw[if_neg hsz]
          by_cases hkey:q6o (v.f.map (·.1))=0
          ·rw[hkey] at h142
           rw[if_neg (by rw[hkey]; simp),q7R hown]
           refine fin (q9d q1g rfl ?_)
           (repeat' first|simp (disch:=omega) only[go_sem,q1g,enter,Ka,q0o,q2O,setL,hH,hs1',hg1,hp0]|refine q00 _ (h139) ?_|refine q00 _ (h140) ?_|refine q00 _ (h141) ?_|refine q00 _ (h46) ?_|refine q00 _ (h142) ?_|(apply spl<;>intro h<;>try simp (disch:=omega) only[go_sem,q1g,enter,Ka,q0o,q2O,setL,hH,hs1',hg1,hp0 ,h]))
           all_goals try omega
           refine q0a (α:=Nat × Int) (fun a=>{ tmps:=q0i 121 [(1,.int .i64 d),(2,.ptr 1 r 0 0),(3,.ptr 13 H.length 0 0),(89,.tsl 13 (v.l.map q0g)),(90,.int .i64 v.l.length),(91,.int .i64 a.1)],heap:=H.set r (.row 1 [.int .i64 a.2] false true r)++[.row 13 [q0g v] false true H.length],base:=H.length })
            (fun a=>a.1≤v.l.length∧q84 F (v.l++v.f.map (·.2)) (seen+1)=q84 F (v.l.drop a.1++v.f.map (·.2)) a.2∧0≤a.2∧a.2≤65536) (fun a=>v.l.length-a.1) (0,seen+1)
            (by rw[hle]; exact q34 (by simp) (hFb _) rfl (q0T hr (hp0 _ _) rfl) (by (try rw[q0w rfl]); simp only[Kd,Kl,AV.renN,q0u hr,q0U])) ⟨Kn _,rfl,by simp only; omega,by simp only; omega⟩ ?_
           rintro ⟨k,sn⟩ ⟨hk1,hm,hs3,hs4⟩
           simp only at hk1 hm hs3 hs4
           rw[hle]
           by_cases hlt:k<v.l.length
           ·obtain ⟨x,hx⟩:=q08 hlt
            have hxm:=Kc hx
            have hx2:=q0d (g:=q0g) hx
            rw[q3W hx,Kf,q2N] at hm
            have hxk:=L.kids x hxm
            obtain ⟨s',hr1,hr2⟩:=ih x (by omega) (by omega) f (d+1) sn (by omega) (by omega) (by omega) (by omega) (by omega) (by omega) (H.set r (.row 1 [.int .i64 sn] false true r)++[.row 13 [q0g v] false true H.length,.row 13 [q0g x] false true (H.length+1)]) r (hF2 _ _ _ _) (by simp; omega) (hg1' _ _)
            have hrg:=q1J f x (d+1) sn hs3 hs4
            rw[setL (by simpa using hr),VQ] at hr1
            unfold cnt at hr1
            have hFx:F x sn=q2d f x (d+1) sn:=by rw[←hFF]
            rw[hFx] at hm
            generalize q2d f x (d+1) sn=R at hr1 hr2 hm hrg
            rw[q07 x] at hx2 hr1
            rw[hle] at hr1
            by_cases he:R.2=0
            ·rw[if_pos he] at hm
             rw[he] at hr1
             have hs':=hr2 he
             (repeat' first|simp (disch:=omega) only[go_sem,hx2,Ka,Ke,Kb,Kw,hg1',hp0',hp1',hq1',hs2']|(refine q0b _ _ hr1 ?_)|(apply spl<;>intro h<;>try simp (disch:=omega) only[go_sem,hx2,Ka,Ke,Kb,Kw,hg1',hp0',hp1',hq1',hs2' ,h]))
             refine ⟨(k+1,R.1),?_,⟨hlt,hm,hrg.1,hrg.2⟩,by simp only; omega⟩
             rw[hs']
             exact q34 (by simp) (hF2 _ _ _ _) rfl (q0T hr (hp0' _ _ _) rfl) (by (try rw[q0w rfl]); simp only[Kd,Kl,AV.renN,q0u hr,q0U])
            ·rw[if_neg he] at hm
             rw[hm]
             (repeat' first|simp (disch:=omega) only[go_sem,hx2,he,Ka,Ke,Kb,Kw,hg1',hp0',hp1',hq1',hs2']|(refine q0b _ _ hr1 ?_)|(apply spl<;>intro h<;>try simp (disch:=omega) only[go_sem,hx2,he,Ka,Ke,Kb,Kw,hg1',hp0',hp1',hq1',hs2' ,h]))
             exact q35 (.inr rfl) (by simp) (hF2 _ _ _ _) (q0F _ _) rfl ⟨_,rfl,rfl,by simp [he]⟩
           ·rw[KX (by omega),Kh] at hm
            (repeat' first|simp (disch:=omega) only[go_sem,Ka,hp0']|(apply spl<;>intro h<;>try simp (disch:=omega) only[go_sem,Ka,hp0',h]))
            refine q0a (α:=Nat × Int) (fun a=>{ tmps:=q0i 121 [(1,.int .i64 d),(2,.ptr 1 r 0 0),(105,.tsl 14 (v.f.map q0J)),(106,.int .i64 v.f.length),(107,.int .i64 a.1)],heap:=H.set r (.row 1 [.int .i64 a.2] false true r),base:=H.length })
             (fun a=>a.1≤v.f.length∧q84 F (v.l++v.f.map (·.2)) (seen+1)=q84 F ((v.f.map (·.2)).drop a.1) a.2∧0≤a.2∧a.2≤65536) (fun a=>v.f.length-a.1) (0,sn)
             (q3o (by simp) (hF1 _ _ _) rfl (fun q hq=>by have:q=r:=(Kx.1 (show q∈[r] from hq)); omega) (by (try rw[q0w rfl]); simp only[Kd,Kl,AV.renN,q0u hr])) ⟨Kn _,hm,hs3,hs4⟩ ?_
            clear hm hlt hk1 hs3 hs4
            rintro ⟨k,sn⟩ ⟨hk1,hm,hs3,hs4⟩
            simp only at hk1 hm hs3 hs4
            by_cases hlt:k<v.f.length
            ·obtain ⟨x,hx⟩:=q08 hlt
             have hxm:=Kc hx
             have hx2:=q0d (g:=q0J) hx
             have hx3:=q0d (g:=fun y:List UInt8 × V=>y.2) hx
             rw[q3W hx3,q2N] at hm
             have hxk:=(L.fkids x hxm).1
             obtain ⟨s',hr1,hr2⟩:=ih x.2 (by omega) (by omega) f (d+1) sn (by omega) (by omega) (by omega) (by omega) (by omega) (by omega) (H.set r (.row 1 [.int .i64 sn] false true r)++[.row 14 [q0J x] false true H.length]) r (hF3 _ _ _) (by simp; omega) (hg1' _ _)
             have hrg:=q1J f x.2 (d+1) sn hs3 hs4
             rw[setL (by simpa using hr),VQ] at hr1
             unfold cnt at hr1
             have hFx:F x.2 sn=q2d f x.2 (d+1) sn:=by rw[←hFF]
             rw[hFx] at hm
             generalize q2d f x.2 (d+1) sn=R at hr1 hr2 hm hrg
             rw[q17] at hx2 hr1
             rw[q07 x.2] at hr1
             by_cases he:R.2=0
             ·rw[if_pos he] at hm
              rw[he] at hr1
              have hs':=hr2 he
              (repeat' first|simp (disch:=omega) only[go_sem,hx2,Ka,Ke,Kb,Kw,hg1',hp0',hq0',hs3']|(refine q0b _ _ hr1 ?_)|(apply spl<;>intro h<;>try simp (disch:=omega) only[go_sem,hx2,Ka,Ke,Kb,Kw,hg1',hp0',hq0',hs3' ,h]))
              refine ⟨(k+1,R.1),?_,⟨hlt,hm,hrg.1,hrg.2⟩,by simp only; omega⟩
              rw[hs']
              exact q3o (by simp) (hF3 _ _ _) rfl (fun q hq=>by have:q=r:=(Kx.1 (show q∈[r] from hq)); omega) (by (try rw[q0w rfl]); simp only[Kd,Kl,AV.renN,q0u hr])
             ·rw[if_neg he] at hm
              rw[hm]
              (repeat' first|simp (disch:=omega) only[go_sem,hx2,he,Ka,Ke,Kb,Kw,hg1',hp0',hq0',hs3']|(refine q0b _ _ hr1 ?_)|(apply spl<;>intro h<;>try simp (disch:=omega) only[go_sem,hx2,he,Ka,Ke,Kb,Kw,hg1',hp0',hq0',hs3' ,h]))
              exact q35 (.inr rfl) (by simp) (hF3 _ _ _) (q0F _ _) rfl ⟨_,rfl,rfl,by simp [he]⟩
            ·rw[KX (by simp; omega)] at hm
             rw[hm]
             (repeat' first|simp (disch:=omega) only[go_sem,Ka]|(apply spl<;>intro h<;>try simp (disch:=omega) only[go_sem,Ka,h]))
             exact q5h (.inr rfl) (by simp) (hF.set r _ _) (q0F _ _) rfl ⟨_,rfl,rfl,fun _=>rfl⟩
          ·rw[if_pos hkey]
           refine ⟨seen+1,q1s q1g rfl ?_,fun h=>absurd h hkey⟩
           (repeat' first|simp (disch:=omega) only[go_sem,q1g,enter,Ka,q0o,q2O,setL,hH,hs1',hg1,hp0]|refine q00 _ (h139) ?_|refine q00 _ (h140) ?_|refine q00 _ (h141) ?_|refine q00 _ (h46) ?_|refine q00 _ (h142) ?_|(apply spl<;>intro h<;>try simp (disch:=omega) only[go_sem,q1g,enter,Ka,q0o,q2O,setL,hH,hs1',hg1,hp0 ,h]))
           all_goals first | omega | exact q1H (.inr rfl) (by simp) (hFb _) (q0F _ _) rfl
       ·have hk:True:=trivial
        have ho:qeZ v=(if 65536<v.s.text.length∨65536<v.s.bytes.length then 10 else q6o (v.f.map (·.1))):=by unfold qeZ; rw[if_neg (by simp [hk2,hk3]),if_neg (by simp [hk4])]
        rw[ho]
        by_cases hsz:65536<v.s.text.length∨65536<v.s.bytes.length
        ·rw[if_pos hsz,if_pos (by decide)]
         refine ⟨seen+1,q1s q1g rfl ?_,by simp⟩
         (repeat' first|simp (disch:=omega) only[go_sem,q1g,enter,Ka,q0o,q2O,setL,hH,hs1',hg1,hp0]|refine q00 _ (h139) ?_|refine q00 _ (h140) ?_|refine q00 _ (h141) ?_|refine q00 _ (h46) ?_|refine q00 _ (h142) ?_|(apply spl<;>intro h<;>try simp (disch:=omega) only[go_sem,q1g,enter,Ka,q0o,q2O,setL,hH,hs1',hg1,hp0 ,h]))
         all_goals first | omega | exact q1H (.inr rfl) (by simp) (hFb _) (q0F _ _) rfl
        ·rw[if_neg hsz]
         by_cases hkey:q6o (v.f.map (·.1))=0
         ·rw[hkey] at h142
          rw[if_neg (by rw[hkey]; simp),q7R hown]
          refine fin (q9d q1g rfl ?_)
          (repeat' first|simp (disch:=omega) only[go_sem,q1g,enter,Ka,q0o,q2O,setL,hH,hs1',hg1,hp0]|refine q00 _ (h139) ?_|refine q00 _ (h140) ?_|refine q00 _ (h141) ?_|refine q00 _ (h46) ?_|refine q00 _ (h142) ?_|(apply spl<;>intro h<;>try simp (disch:=omega) only[go_sem,q1g,enter,Ka,q0o,q2O,setL,hH,hs1',hg1,hp0 ,h]))
          all_goals try omega
          refine q0a (α:=Nat × Int) (fun a=>{ tmps:=q0i 121 [(1,.int .i64 d),(2,.ptr 1 r 0 0),(3,.ptr 13 H.length 0 0),(89,.tsl 13 (v.l.map q0g)),(90,.int .i64 v.l.length),(91,.int .i64 a.1)],heap:=H.set r (.row 1 [.int .i64 a.2] false true r)++[.row 13 [q0g v] false true H.length],base:=H.length })
           (fun a=>a.1≤v.l.length∧q84 F (v.l++v.f.map (·.2)) (seen+1)=q84 F (v.l.drop a.1++v.f.map (·.2)) a.2∧0≤a.2∧a.2≤65536) (fun a=>v.l.length-a.1) (0,seen+1)
           (by rw[hle]; exact q34 (by simp) (hFb _) rfl (q0T hr (hp0 _ _) rfl) (by (try rw[q0w rfl]); simp only[Kd,Kl,AV.renN,q0u hr,q0U])) ⟨Kn _,rfl,by simp only; omega,by simp only; omega⟩ ?_
          rintro ⟨k,sn⟩ ⟨hk1,hm,hs3,hs4⟩
          simp only at hk1 hm hs3 hs4
          rw[hle]
          by_cases hlt:k<v.l.length
          ·obtain ⟨x,hx⟩:=q08 hlt
           have hxm:=Kc hx
           have hx2:=q0d (g:=q0g) hx
           rw[q3W hx,Kf,q2N] at hm
           have hxk:=L.kids x hxm
           obtain ⟨s',hr1,hr2⟩:=ih x (by omega) (by omega) f (d+1) sn (by omega) (by omega) (by omega) (by omega) (by omega) (by omega) (H.set r (.row 1 [.int .i64 sn] false true r)++[.row 13 [q0g v] false true H.length,.row 13 [q0g x] false true (H.length+1)]) r (hF2 _ _ _ _) (by simp; omega) (hg1' _ _)
           have hrg:=q1J f x (d+1) sn hs3 hs4
           rw[setL (by simpa using hr),VQ] at hr1
           unfold cnt at hr1
           have hFx:F x sn=q2d f x (d+1) sn:=by rw[←hFF]
           rw[hFx] at hm
           generalize q2d f x (d+1) sn=R at hr1 hr2 hm hrg
           rw[q07 x] at hx2 hr1
           rw[hle] at hr1
           by_cases he:R.2=0
           ·rw[if_pos he] at hm
            rw[he] at hr1
            have hs':=hr2 he
            (repeat' first|simp (disch:=omega) only[go_sem,hx2,Ka,Ke,Kb,Kw,hg1',hp0',hp1',hq1',hs2']|(refine q0b _ _ hr1 ?_)|(apply spl<;>intro h<;>try simp (disch:=omega) only[go_sem,hx2,Ka,Ke,Kb,Kw,hg1',hp0',hp1',hq1',hs2' ,h]))
            refine ⟨(k+1,R.1),?_,⟨hlt,hm,hrg.1,hrg.2⟩,by simp only; omega⟩
            rw[hs']
            exact q34 (by simp) (hF2 _ _ _ _) rfl (q0T hr (hp0' _ _ _) rfl) (by (try rw[q0w rfl]); simp only[Kd,Kl,AV.renN,q0u hr,q0U])
           ·rw[if_neg he] at hm
            rw[hm]
            (repeat' first|simp (disch:=omega) only[go_sem,hx2,he,Ka,Ke,Kb,Kw,hg1',hp0',hp1',hq1',hs2']|(refine q0b _ _ hr1 ?_)|(apply spl<;>intro h<;>try simp (disch:=omega) only[go_sem,hx2,he,Ka,Ke,Kb,Kw,hg1',hp0',hp1',hq1',hs2' ,h]))
            exact q35 (.inr rfl) (by simp) (hF2 _ _ _ _) (q0F _ _) rfl ⟨_,rfl,rfl,by simp [he]⟩
          ·rw[KX (by omega),Kh] at hm
           (repeat' first|simp (disch:=omega) only[go_sem,Ka,hp0']|(apply spl<;>intro h<;>try simp (disch:=omega) only[go_sem,Ka,hp0',h]))
           refine q0a (α:=Nat × Int) (fun a=>{ tmps:=q0i 121 [(1,.int .i64 d),(2,.ptr 1 r 0 0),(105,.tsl 14 (v.f.map q0J)),(106,.int .i64 v.f.length),(107,.int .i64 a.1)],heap:=H.set r (.row 1 [.int .i64 a.2] false true r),base:=H.length })
            (fun a=>a.1≤v.f.length∧q84 F (v.l++v.f.map (·.2)) (seen+1)=q84 F ((v.f.map (·.2)).drop a.1) a.2∧0≤a.2∧a.2≤65536) (fun a=>v.f.length-a.1) (0,sn)
            (q3o (by simp) (hF1 _ _ _) rfl (fun q hq=>by have:q=r:=(Kx.1 (show q∈[r] from hq)); omega) (by (try rw[q0w rfl]); simp only[Kd,Kl,AV.renN,q0u hr])) ⟨Kn _,hm,hs3,hs4⟩ ?_
           clear hm hlt hk1 hs3 hs4
           rintro ⟨k,sn⟩ ⟨hk1,hm,hs3,hs4⟩
           simp only at hk1 hm hs3 hs4
           by_cases hlt:k<v.f.length
           ·obtain ⟨x,hx⟩:=q08 hlt
            have hxm:=Kc hx
            have hx2:=q0d (g:=q0J) hx
            have hx3:=q0d (g:=fun y:List UInt8 × V=>y.2) hx
            rw[q3W hx3,q2N] at hm
            have hxk:=(L.fkids x hxm).1
            obtain ⟨s',hr1,hr2⟩:=ih x.2 (by omega) (by omega) f (d+1) sn (by omega) (by omega) (by omega) (by omega) (by omega) (by omega) (H.set r (.row 1 [.int .i64 sn] false true r)++[.row 14 [q0J x] false true H.length]) r (hF3 _ _ _) (by simp; omega) (hg1' _ _)
            have hrg:=q1J f x.2 (d+1) sn hs3 hs4
            rw[setL (by simpa using hr),VQ] at hr1
            unfold cnt at hr1
            have hFx:F x.2 sn=q2d f x.2 (d+1) sn:=by rw[←hFF]
            rw[hFx] at hm
            generalize q2d f x.2 (d+1) sn=R at hr1 hr2 hm hrg
            rw[q17] at hx2 hr1
            rw[q07 x.2] at hr1
            by_cases he:R.2=0
            ·rw[if_pos he] at hm
             rw[he] at hr1
             have hs':=hr2 he
             (repeat' first|simp (disch:=omega) only[go_sem,hx2,Ka,Ke,Kb,Kw,hg1',hp0',hq0',hs3']|(refine q0b _ _ hr1 ?_)|(apply spl<;>intro h<;>try simp (disch:=omega) only[go_sem,hx2,Ka,Ke,Kb,Kw,hg1',hp0',hq0',hs3' ,h]))
             refine ⟨(k+1,R.1),?_,⟨hlt,hm,hrg.1,hrg.2⟩,by simp only; omega⟩
             rw[hs']
             exact q3o (by simp) (hF3 _ _ _) rfl (fun q hq=>by have:q=r:=(Kx.1 (show q∈[r] from hq)); omega) (by (try rw[q0w rfl]); simp only[Kd,Kl,AV.renN,q0u hr])
            ·rw[if_neg he] at hm
             rw[hm]
             (repeat' first|simp (disch:=omega) only[go_sem,hx2,he,Ka,Ke,Kb,Kw,hg1',hp0',hq0',hs3']|(refine q0b _ _ hr1 ?_)|(apply spl<;>intro h<;>try simp (disch:=omega) only[go_sem,hx2,he,Ka,Ke,Kb,Kw,hg1',hp0',hq0',hs3' ,h]))
             exact q35 (.inr rfl) (by simp) (hF3 _ _ _) (q0F _ _) rfl ⟨_,rfl,rfl,by simp [he]⟩
           ·rw[KX (by simp; omega)] at hm
            rw[hm]
            (repeat' first|simp (disch:=omega) only[go_sem,Ka]|(apply spl<;>intro h<;>try simp (disch:=omega) only[go_sem,Ka,h]))
            exact q5h (.inr rfl) (by simp) (hF.set r _ _) (q0F _ _) rfl ⟨_,rfl,rfl,fun _=>rfl⟩
         ·rw[if_pos hkey]
          refine ⟨seen+1,q1s q1g rfl ?_,fun h=>absurd h hkey⟩
          (repeat' first|simp (disch:=omega) only[go_sem,q1g,enter,Ka,q0o,q2O,setL,hH,hs1',hg1,hp0]|refine q00 _ (h139) ?_|refine q00 _ (h140) ?_|refine q00 _ (h141) ?_|refine q00 _ (h46) ?_|refine q00 _ (h142) ?_|(apply spl<;>intro h<;>try simp (disch:=omega) only[go_sem,q1g,enter,Ka,q0o,q2O,setL,hH,hs1',hg1,hp0 ,h]))
          all_goals first | omega | exact q1H (.inr rfl) (by simp) (hFb _) (q0F _ _) rfl
end Ago
set_option maxRecDepth 100000
set_option maxHeartbeats 4000000
namespace Ago
open Go (IntKind)
theorem qbq (v:V) (hv:v.bulk≤2^24):q0m C0 126 [q0g v] (.int .i64 (q42 v)):=by
 have hF:Flat [.row 13 [q0g v] false true 0,.row 1 [.int .i64 0] false true 1]:=(Flat.nil.push' 13 [q0g v] (k:=0) rfl).push' 1 [.int .i64 0] (k:=1) rfl
 obtain ⟨s',h,_⟩:=qpP _ v (Kr _) hv 49 1 0 (by omega) (by omega) (by omega) (by omega) (by omega) (by omega) _ 1 hF (by simp) rfl
 refine q05 qjr rfl ?_
 unfold q42
 generalize (q2d 49 v 1 0).2=e at h ⊢
 rw[q07] at h ⊢
 (repeat' first|simp (disch:=omega) only[go_sem,qjr,enter]|(refine q0b _ _ h ?_)|(apply spl<;>intro h<;>try simp (disch:=omega) only[go_sem,qjr,enter ,h]))
 all_goals rfl
end Ago
