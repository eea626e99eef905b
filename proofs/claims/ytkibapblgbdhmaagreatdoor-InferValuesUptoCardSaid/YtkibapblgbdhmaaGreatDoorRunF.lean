/- The program's own looks at decimals and times. -/
import Derived.Test.YtkibapblgbdhmaaGreatDoorRunA
import Derived.Test.YtkibapblgbdhmaaGreatDoorMachE
set_option linter.unusedSimpArgs false
set_option linter.unusedVariables false
set_option maxRecDepth 100000
set_option maxHeartbeats 4000000
namespace Ago
open Go (IntKind)
theorem qku (s:List UInt8) (hs:s.length<2^31):q0f C0 158 [.str s] (.bool (digits s)):=by
 refine q04 qjV rfl ?_
 simp (disch:=omega) only[go_sem,qjV,enter]
 refine q08 (α:=Nat) (fun k=>{ tmps:=q0i 20 [(0,.str s),(5,.int .i64 s.length),(6,.int .i64 k)],heap:=[],base:=0 }) (fun k=>k≤s.length∧(s.take k).all qbi=true) (fun k=>s.length-k) 0 rfl ⟨Nat.zero_le _,rfl⟩ ?_
 rintro k ⟨hk,hd⟩
 by_cases hlt:k<s.length
 ·obtain ⟨c,hc⟩:=q06 hlt
  by_cases h:48≤c.toNat∧c.toNat≤57
  ·(repeat' first|simp (disch:=omega) only[go_sem,hc]|(apply spl<;>intro h<;>try simp (disch:=omega) only[go_sem,hc,h]))
   exact ⟨k+1,rfl,⟨hlt,q0A hc hd (by simp [qbi,h])⟩,by omega⟩
  ·have hn:digits s=false:=q3o hc (by simp [qbi]; omega)
   rw[hn]
   (repeat' first|simp (disch:=omega) only[go_sem,hc]|(apply spl<;>intro h<;>try simp (disch:=omega) only[go_sem,hc,h]))
 ·rw[q0C hlt hk] at hd
  have hn:digits s=true:=hd
  rw[hn]
  (repeat' first|simp (disch:=omega) only[go_sem]|(apply spl<;>intro h<;>try simp (disch:=omega) only[go_sem,h]))
theorem qfo (s:List UInt8) (hs:s.length<2^31):q0f C0 149 [.str s] (.bool (q6o s)):=by
 have ha:=qku s hs
 refine q04 q6u rfl ?_
 unfold q6o
 cases s with
 | nil=>
  (repeat' first|simp (disch:=omega) only[go_sem,q6u,enter]|refine q00 _ (ha) ?_|(apply spl<;>intro h<;>try simp (disch:=omega) only[go_sem,q6u,enter ,h]))
  all_goals rfl
 | cons c s=>
  have hb:(c::s == ([]:List UInt8))=false:=rfl
  have hc:=q9q c
  simp only[List.length_cons] at hs
  by_cases hl:(c::s).length≤600
  ·cases hd:digits (c::s) with
   | true=>
    rw[hd] at ha
    by_cases h0:c=48
    ·have h0':=hc.2 h0
     (repeat' first|simp (disch:=omega) only[go_sem,q6u,enter,hb,h0',hl]|refine q00 _ (ha) ?_|(apply spl<;>intro h<;>try simp (disch:=omega) only[go_sem,q6u,enter,hb,h0',hl ,h]))
     all_goals (first | omega | simp_all)
     all_goals omega
    ·have h0' : ¬ (c.toNat:Int)=48:=fun e=>h0 (hc.1 e)
     (repeat' first|simp (disch:=omega) only[go_sem,q6u,enter,hb,h0',hl]|refine q00 _ (ha) ?_|(apply spl<;>intro h<;>try simp (disch:=omega) only[go_sem,q6u,enter,hb,h0',hl ,h]))
     all_goals (first | omega | simp_all)
     all_goals omega
   | false=>
    rw[hd] at ha
    (repeat' first|simp (disch:=omega) only[go_sem,q6u,enter,hb,hl]|refine q00 _ (ha) ?_|(apply spl<;>intro h<;>try simp (disch:=omega) only[go_sem,q6u,enter,hb,hl ,h]))
    all_goals simp_all
  ·have hl2:600<s.length+1:=by simp at hl; omega
   (repeat' first|simp (disch:=omega) only[go_sem,q6u,enter,hb,hl]|refine q00 _ (ha) ?_|(apply spl<;>intro h<;>try simp (disch:=omega) only[go_sem,q6u,enter,hb,hl ,h]))
   all_goals (first | omega | simp_all)
   all_goals (intros; omega)
theorem qfk (s:List UInt8) (hs:s.length<2^31):q0f C0 150 [.str s] (.int .i64 (q4d s)):=by
 have hr:=qa6 s hs
 have hz:=qj9 s
 have hlen:(s.take (s.length-q4d s)).length=s.length-q4d s:=by simp
 have e1:((s.length:Int)-((s.length-q4d s:Nat):Int))=q4d s:=by omega
 refine q04 qgE rfl ?_
 (repeat' first|simp (disch:=omega) only[go_sem,qgE,enter,hlen,e1]|refine q00 _ (hr) ?_|(apply spl<;>intro h<;>try simp (disch:=omega) only[go_sem,qgE,enter,hlen,e1 ,h]))
theorem q4T (d:Dec) (hs:d.digits.length<2^31):q0f C0 140 [q11 d] (.bool (q0Q d)):=by
 refine q04 qd8 rfl ?_
 obtain ⟨neg,ds,exp⟩:=d
 simp only[q11] at *
 by_cases h0:ds=[]
 ·subst h0
  (repeat' first|simp (disch:=omega) only[go_sem,qd8,enter]|(apply spl<;>intro h<;>try simp (disch:=omega) only[go_sem,qd8,enter,h]))
  all_goals simp [q0Q]
 ·have hb:(ds == ([]:List UInt8))=false:=by simp [h0]
  have hz:=qfk ds hs
  have hv:=qfo ds hs
  (repeat' first|simp (disch:=omega) only[go_sem,qd8,enter,hb]|refine q00 _ (hv) ?_|refine q00 _ (hz) ?_|(apply spl<;>intro h<;>try simp (disch:=omega) only[go_sem,qd8,enter,hb ,h]))
  all_goals simp [q0Q,h0]
  all_goals first | omega | (intros; omega) | (simp_all; done) | skip
  all_goals (have:(q4d ds:Int)=0↔q4d ds=0:=by omega)
  all_goals simp_all
  all_goals omega
end Ago
namespace Ago
open Go (IntKind)
def qnl (t:Tm):Bool:=decide (1≤t.kind∧t.kind≤4∧0≤t.day∧t.day≤3652058∧0≤t.nano∧t.nano≤86399999999999∧-1439≤t.off∧t.off≤1439)
def q8X (t:Tm):Bool:=qnl t && decide (t.kind=2→t.day=0) && decide (t.kind=1→t.nano=0) && decide (t.kind=4∨t.off=0)
def qfi (t:Tm):AV:=.agg [.int .i64 t.kind,.int .i64 t.day,.int .i64 t.nano,.int .i64 t.off]
theorem qdT {t:Tm} (h : ¬ (1≤t.kind∧t.kind≤4∧0≤t.day∧t.day≤3652058∧0≤t.nano∧t.nano≤86399999999999∧-1439≤t.off∧t.off≤1439)):q8X t=false:=by
 unfold q8X qnl
 rw[decide_eq_false h]
 rfl
theorem qmZ (t:Tm):q0f C0 141 [qfi t] (.bool (q8X t)):=by
 refine q04 qgD rfl ?_
 unfold qfi
 (repeat' first|simp (disch:=omega) only[go_sem,qgD,enter]|(apply spl<;>intro h<;>try simp (disch:=omega) only[go_sem,qgD,enter,h]))
 all_goals first
  | (rw[qdT (by omega)]; done)
  | (simp [q8X,qnl]; omega)
  | (
   have e:q8X t=(t.off == 0):=by
    rw[Bool.eq_iff_iff]
    simp [q8X,qnl]
    omega
   rw[e])
end Ago
set_option maxRecDepth 100000
set_option maxHeartbeats 4000000
namespace Ago
open Go (IntKind)
theorem qiw (t:Int):q0f C0 91 [.int .i64 t] (.bool (decide (t=1∨t=3∨t=4))):=by
 refine q04 qp4 rfl ?_
 (repeat' first|simp (disch:=omega) only[go_sem,qp4,enter]|(apply spl<;>intro h<;>try simp (disch:=omega) only[go_sem,qp4,enter,h]))
 all_goals first
  | (simp; omega)
  | (congr 2; rw[Bool.eq_iff_iff]; simp; omega)
  | (simp_all; done)
theorem qdl (t:Int):q0f C0 92 [.int .i64 t] (.bool (decide (t=2∨t=3∨t=4))):=by
 refine q04 qoL rfl ?_
 (repeat' first|simp (disch:=omega) only[go_sem,qoL,enter]|(apply spl<;>intro h<;>try simp (disch:=omega) only[go_sem,qoL,enter,h]))
 all_goals first
  | (simp; omega)
  | (congr 2; rw[Bool.eq_iff_iff]; simp; omega)
  | (simp_all; done)
theorem qou (t:Tm):q0f C0 80 [qfi t] (.bool (q8X t)):=by
 have h1:=qiw t.kind
 have h2:=qdl t.kind
 refine q04 qoT rfl ?_
 unfold qfi
 (repeat' first|simp (disch:=omega) only[go_sem,qoT,enter]|refine q00 _ (h1) ?_|refine q00 _ (h2) ?_|(apply spl<;>intro h<;>try simp (disch:=omega) only[go_sem,qoT,enter ,h]))
 all_goals first
  | (rw[qdT (by omega)]; done)
  | (simp [q8X,qnl]; omega)
  | (
   have e:q8X t=(t.off == 0):=by
    rw[Bool.eq_iff_iff]
    simp [q8X,qnl]
    omega
   rw[e])

def qoj (d:Dec):Bool:=d.neg == false && (d.digits == [] && d.exp == 0)
def tmZ (t:Tm):Bool:=t.kind == 0 && (t.day == 0 && (t.nano == 0 && t.off == 0))
def ownM (v:V):Bool:=
 decide (0≤v.s.kind∧v.s.kind≤7) && (v.s.kind == 1 || v.s.bool == false) && (v.s.kind == 2 || qoj v.s.num) && (v.s.kind == 3 || tmZ v.s.time) &&
 (v.s.kind == 4 || v.s.text == []) && (v.s.kind == 5 || (v.s.bytes.length:Int) == 0) && (v.s.kind == 6 || (v.l.length:Int) == 0) && (v.s.kind == 7 || (v.f.length:Int) == 0)
theorem qm5 (v:V):q0f C0 78 [q0j v] (.bool (ownM v)):=by
 refine q04 qol rfl ?_
 rw[q07]
 (repeat' first|simp (disch:=omega) only[go_sem,qol,enter,List.length_map,q0d]|(apply spl<;>intro h<;>try simp (disch:=omega) only[go_sem,qol,enter,List.length_map,q0d,h]))
 all_goals (congr 2; unfold ownM qoj tmZ; simp_all)
 all_goals omega
end Ago
set_option maxRecDepth 100000
set_option maxHeartbeats 4000000
namespace Ago
open Go (IntKind)
def q4y:List (List UInt8)→List (List UInt8)→Int
 | _,[]=>0
 | pre,x::l=>if utf x=false then 5 else if 1024<x.length then 10 else if pre.contains x then 8 else q4y (pre++[x]) l
def q4q (l:List (List UInt8)):Int:=q4y [] l
theorem q9l {l:List (List UInt8)} {i:Nat} {x:List UInt8} (h:l[i]?=some x):q4y (l.take i) (l.drop i)=if utf x=false then 5 else if 1024<x.length then 10 else if (l.take i).contains x then 8 else q4y (l.take (i+1)) (l.drop (i+1)):=by
 have hl:=(List.getElem?_eq_some_iff.1 h)
 obtain ⟨hlt,hx⟩:=hl
 rw[List.drop_eq_getElem_cons hlt,hx]
 conv=>lhs; unfold q4y
 rw[List.take_add_one,h]
 rfl
theorem qki (f:List (List UInt8 × V)) (hf:f.length<2^30) (hk : ∀ x,x∈f→x.1.length<2^30):q0f C0 81 [.tsl 14 (f.map q0r)] (.int .i64 (q4q (f.map (·.1)))):=by
 refine q04 qnY rfl ?_
 (repeat' first|simp (disch:=omega) only[go_sem,qnY,enter]|(apply spl<;>intro h<;>try simp (disch:=omega) only[go_sem,qnY,enter,h]))
 refine q08 (α:=Nat) (fun i=>{ tmps:=q0i 41 [(0,.tsl 14 (f.map q0r)),(3,.int .i64 i)],heap:=[],base:=0 }) (fun i=>i≤f.length∧q4q (f.map (·.1))=q4y ((f.map (·.1)).take i) ((f.map (·.1)).drop i)) (fun i=>f.length-i) 0 rfl ⟨Nat.zero_le _,rfl⟩ ?_
 rintro i ⟨hi,hm⟩
 by_cases hlt:i<f.length
 ·obtain ⟨x,hx⟩:=q06 hlt
  have hx2:=q09 (g:=q0r) hx
  have hx3:=q09 (g:=fun y:List UInt8 × V=>y.1) hx
  rw[q0D] at hx2
  have hu:=qam x.1 (hk x (List.mem_of_getElem? hx))
  rw[q9l hx3] at hm
  cases hux:utf x.1 with
  | false=>
   rw[hux] at hu hm
   rw[if_pos rfl] at hm
   rw[hm]
   (repeat' first|simp (disch:=omega) only[go_sem,hx2,List.length_map]|refine q00 _ (hu) ?_|(apply spl<;>intro h<;>try simp (disch:=omega) only[go_sem,hx2,List.length_map ,h]))
  | true=>
   rw[hux] at hu hm
   rw[if_neg (by simp)] at hm
   by_cases h1:1024<x.1.length
   ·rw[if_pos h1] at hm
    rw[hm]
    (repeat' first|simp (disch:=omega) only[go_sem,hx2,List.length_map]|refine q00 _ (hu) ?_|(apply spl<;>intro h<;>try simp (disch:=omega) only[go_sem,hx2,List.length_map ,h]))
   ·rw[if_neg h1] at hm
    (repeat' first|simp (disch:=omega) only[go_sem,hx2,List.length_map]|refine q00 _ (hu) ?_|(apply spl<;>intro h<;>try simp (disch:=omega) only[go_sem,hx2,List.length_map ,h]))
    refine q08 (α:=Nat) (fun j=>{ tmps:=q0i 41 [(0,.tsl 14 (f.map q0r)),(3,.int .i64 i),(4,.int .i64 j)],heap:=[],base:=0 }) (fun j=>j≤i∧∀ y,y∈(f.map (·.1)).take j→y≠x.1) (fun j=>i-j) 0 rfl ⟨Nat.zero_le _,by simp⟩ ?_
    rintro j ⟨hj,hne⟩
    by_cases hlt2:j<i
    ·obtain ⟨y,hy⟩:=q06 (s:=f) (k:=j) (by omega)
     have hy2:=q09 (g:=q0r) hy
     have hy3:=q09 (g:=fun y:List UInt8 × V=>y.1) hy
     rw[q0D] at hy2
     by_cases he:y.1=x.1
     ·have hc:((f.map (·.1)).take i).contains x.1=true:=by
       rw[List.contains_iff_mem]
       refine List.mem_of_getElem? (i:=j) ?_
       rw[List.getElem?_take_of_lt hlt2,hy3,he]
      rw[if_pos hc] at hm
      rw[hm]
      have he2:(y.1 == x.1)=true:=by simpa using he
      (repeat' first|simp (disch:=omega) only[go_sem,hx2,hy2,he2,List.length_map]|(apply spl<;>intro h<;>try simp (disch:=omega) only[go_sem,hx2,hy2,he2,List.length_map,h]))
     ·have he2:(y.1 == x.1)=false:=by simpa using he
      (repeat' first|simp (disch:=omega) only[go_sem,hx2,hy2,he2,List.length_map]|(apply spl<;>intro h<;>try simp (disch:=omega) only[go_sem,hx2,hy2,he2,List.length_map,h]))
      refine ⟨j+1,rfl,⟨hlt2,fun z hz=>?_⟩,by omega⟩
      rw[List.take_add_one,hy3] at hz
      rcases List.mem_append.1 hz with hz | hz
      ·exact hne z hz
      ·have:z=y.1:=by simpa using hz
       rw[this]
       exact he
    ·have hji:j=i:=by omega
     subst hji
     have hc:((f.map (·.1)).take j).contains x.1=false:=by
      rw[Bool.eq_false_iff]
      intro h
      rw[List.contains_iff_mem] at h
      exact hne _ h rfl
     rw[if_neg (by rw[hc]; simp)] at hm
     (repeat' first|simp (disch:=omega) only[go_sem,hx2,List.length_map]|(apply spl<;>intro h<;>try simp (disch:=omega) only[go_sem,hx2,List.length_map,h]))
     exact ⟨j+1,rfl,⟨hlt,hm⟩,by omega⟩
 ·have e:q4q (f.map (·.1))=0:=by
   rw[hm,List.drop_of_length_le (by simp; omega)]
   unfold q4y
   rfl
  rw[e]
  (repeat' first|simp (disch:=omega) only[go_sem,List.length_map]|(apply spl<;>intro h<;>try simp (disch:=omega) only[go_sem,List.length_map,h]))
end Ago
set_option maxRecDepth 100000
set_option maxHeartbeats 4000000
namespace Ago
open Go (IntKind)
def q9x (v:V):Int:=
 if ownM v=false then 6
 else if q0Q v.s.num=false∨v.s.kind=3∧q8X v.s.time=false then 2
 else if utf v.s.text=false then 5
 else if 65536<v.s.text.length∨65536<v.s.bytes.length then 10
 else q4q (v.f.map (·.1))
theorem qme (v:V) (hv:v.bulk≤2^24):q0f C0 57 [q0j v] (.int .i64 (q9x v)):=by
 have L:=V.lens hv
 have h1:=qm5 v
 have h2:=qbh v.s.num (by have:=L.digits; omega)
 have h3:=qam v.s.text (by have:=L.text; omega)
 have h4:=qou v.s.time
 have h5:=qki v.f (by have:=L.fields; omega) (fun x hx=>by have:=(L.fkids x hx).2; omega)
 unfold qfi at h4
 unfold q11 at h2
 rw[q07] at h1 ⊢
 refine q04 q8L rfl ?_
 unfold q9x
 cases hb1:ownM v with
 | false=>
  rw[hb1] at h1
  (repeat' first|simp (disch:=omega) only[go_sem,q8L,enter,List.length_map,q0d]|refine q00 _ (h1) ?_|refine q00 _ (h2) ?_|refine q00 _ (h3) ?_|refine q00 _ (h4) ?_|refine q00 _ (h5) ?_|(apply spl<;>intro h<;>try simp (disch:=omega) only[go_sem,q8L,enter,List.length_map,q0d ,h]))
 | true=>
  rw[hb1] at h1
  rw[if_neg (by simp)]
  cases hb2:q0Q v.s.num with
  | false=>
   rw[hb2] at h2
   rw[if_pos (.inl rfl)]
   (repeat' first|simp (disch:=omega) only[go_sem,q8L,enter,List.length_map,q0d]|refine q00 _ (h1) ?_|refine q00 _ (h2) ?_|refine q00 _ (h3) ?_|refine q00 _ (h4) ?_|refine q00 _ (h5) ?_|(apply spl<;>intro h<;>try simp (disch:=omega) only[go_sem,q8L,enter,List.length_map,q0d ,h]))
  | true=>
   rw[hb2] at h2
   by_cases hb4:v.s.kind=3∧q8X v.s.time=false
   ·rw[if_pos (.inr hb4)]
    rw[hb4.2] at h4
    have hk:=hb4.1
    rw[hk] at h1
    (repeat' first|simp (disch:=omega) only[go_sem,q8L,enter,List.length_map,q0d,hk]|refine q00 _ (h1) ?_|refine q00 _ (h2) ?_|refine q00 _ (h3) ?_|refine q00 _ (h4) ?_|refine q00 _ (h5) ?_|(apply spl<;>intro h<;>try simp (disch:=omega) only[go_sem,q8L,enter,List.length_map,q0d,hk ,h]))
   ·rw[if_neg (by simpa using hb4)]
    have hkt:v.s.kind=3→q8X v.s.time=true:=fun h=>by
     cases ht:q8X v.s.time with
     | true=>rfl
     | false=>exact (hb4 ⟨h,ht⟩).elim
    cases hb3:utf v.s.text with
    | false=>
     rw[hb3] at h3
     rw[if_pos rfl]
     by_cases hk:v.s.kind=3
     ·rw[hkt hk] at h4; rw[hk] at h1
      (repeat' first|simp (disch:=omega) only[go_sem,q8L,enter,List.length_map,q0d,hk]|refine q00 _ (h1) ?_|refine q00 _ (h2) ?_|refine q00 _ (h3) ?_|refine q00 _ (h4) ?_|refine q00 _ (h5) ?_|(apply spl<;>intro h<;>try simp (disch:=omega) only[go_sem,q8L,enter,List.length_map,q0d,hk ,h]))
     ·(repeat' first|simp (disch:=omega) only[go_sem,q8L,enter,List.length_map,q0d,hk]|refine q00 _ (h1) ?_|refine q00 _ (h2) ?_|refine q00 _ (h3) ?_|refine q00 _ (h4) ?_|refine q00 _ (h5) ?_|(apply spl<;>intro h<;>try simp (disch:=omega) only[go_sem,q8L,enter,List.length_map,q0d,hk ,h]))
    | true=>
     rw[hb3] at h3
     rw[if_neg (by simp)]
     by_cases hs:65536<v.s.text.length∨65536<v.s.bytes.length
     ·rw[if_pos hs]
      by_cases hk:v.s.kind=3
      ·rw[hkt hk] at h4; rw[hk] at h1
       (repeat' first|simp (disch:=omega) only[go_sem,q8L,enter,List.length_map,q0d,hk]|refine q00 _ (h1) ?_|refine q00 _ (h2) ?_|refine q00 _ (h3) ?_|refine q00 _ (h4) ?_|refine q00 _ (h5) ?_|(apply spl<;>intro h<;>try simp (disch:=omega) only[go_sem,q8L,enter,List.length_map,q0d,hk ,h]))
       all_goals first | omega | rfl
      ·(repeat' first|simp (disch:=omega) only[go_sem,q8L,enter,List.length_map,q0d,hk]|refine q00 _ (h1) ?_|refine q00 _ (h2) ?_|refine q00 _ (h3) ?_|refine q00 _ (h4) ?_|refine q00 _ (h5) ?_|(apply spl<;>intro h<;>try simp (disch:=omega) only[go_sem,q8L,enter,List.length_map,q0d,hk ,h]))
       all_goals first | omega | rfl
     ·rw[if_neg hs]
      by_cases hk:v.s.kind=3
      ·rw[hkt hk] at h4; rw[hk] at h1
       (repeat' first|simp (disch:=omega) only[go_sem,q8L,enter,List.length_map,q0d,hk]|refine q00 _ (h1) ?_|refine q00 _ (h2) ?_|refine q00 _ (h3) ?_|refine q00 _ (h4) ?_|refine q00 _ (h5) ?_|(apply spl<;>intro h<;>try simp (disch:=omega) only[go_sem,q8L,enter,List.length_map,q0d,hk ,h]))
       all_goals first | omega | rfl
      ·(repeat' first|simp (disch:=omega) only[go_sem,q8L,enter,List.length_map,q0d,hk]|refine q00 _ (h1) ?_|refine q00 _ (h2) ?_|refine q00 _ (h3) ?_|refine q00 _ (h4) ?_|refine q00 _ (h5) ?_|(apply spl<;>intro h<;>try simp (disch:=omega) only[go_sem,q8L,enter,List.length_map,q0d,hk ,h]))
       all_goals first | omega | rfl
end Ago
set_option maxRecDepth 100000
set_option maxHeartbeats 4000000
namespace Ago
open Go (IntKind)
def q6c (f:V→Int→Int × Int):List V→Int→Int × Int
 | [],seen=>(seen,0)
 | x::l,seen=>if (f x seen).2=0 then q6c f l (f x seen).1 else f x seen
def q1x:Nat→V→Int→Int→Int × Int
 | 0,_,_,seen=>(seen,9)
 | k+1,v,d,seen=>if 48<d then (seen,9) else if 65536≤seen then (seen,10) else if q9x v≠0 then (seen,q9x v) else q6c (fun x s=>q1x k x (d+1) s) v.kids (seen+1)
theorem q1Q {f:V→Int→Int × Int} {l:List V} {x:V} {seen:Int}:q6c f (x::l) seen=if (f x seen).2=0 then q6c f l (f x seen).1 else f x seen:=rfl
theorem q9m {f:V→Int→Int × Int} (hf : ∀ x s,0≤s→s≤65536→0≤(f x s).1∧(f x s).1≤65536) : ∀ (l:List V) (s:Int),0≤s→s≤65536→0≤(q6c f l s).1∧(q6c f l s).1≤65536
 | [],s,h1,h2=>⟨h1,h2⟩
 | x::l,s,h1,h2=>by
  have h:=hf x s h1 h2
  rw[q1Q]
  split
  ·exact q9m hf l _ h.1 h.2
  ·exact h
theorem q1j : ∀ (k:Nat) (v:V) (d s:Int),0≤s→s≤65536→0≤(q1x k v d s).1∧(q1x k v d s).1≤65536
 | 0,v,d,s,h1,h2=>⟨h1,h2⟩
 | k+1,v,d,s,h1,h2=>by
  unfold q1x
  split
  ·exact ⟨h1,h2⟩
  ·split
   ·exact ⟨h1,h2⟩
   ·split
    ·exact ⟨h1,h2⟩
    ·exact q9m (fun x s h1 h2=>q1j k x (d+1) s h1 h2) _ _ (by omega) (by omega)
theorem qj1 : ∀ (n:Nat) (v:V),v.bulk≤n→n≤2^24→∀ (f:Nat) (d seen:Int),0≤d→49<d+f→d≤49→0<f→0≤seen→seen≤65536→q0f C0 39 [q0j v,.int .i64 d,.int .i64 seen] (.tup [.int .i64 (q1x f v d seen).1,.int .i64 (q1x f v d seen).2]):=by
 intro n
 induction n with
 | zero=>
  intro v hv
  have:1≤v.bulk:=q1b _
  omega
 | succ n ih=>
  intro v hv hn f d seen hd1 hdf hd2 hf0 hs1 hs2
  obtain ⟨f,rfl⟩ : ∃ g,f=g+1:=⟨f-1,by omega⟩
  have h1:=qme v (by omega)
  have h2:=qkk v (by omega)
  obtain ⟨kb1,kb2⟩:=kids_bulk (v:=v) (by omega)
  rw[q07] at h1 h2 ⊢
  rw[show q1x (f+1) v d seen=if 48<d then (seen,9) else if 65536≤seen then (seen,10) else if q9x v≠0 then (seen,q9x v) else q6c (fun x s=>q1x f x (d+1) s) v.kids (seen+1) from rfl]
  refine q04 qi5 rfl ?_
  by_cases g1:48<d
  ·rw[if_pos g1]
   (repeat' first|simp (disch:=omega) only[go_sem,qi5,enter,List.length_map]|refine q00 _ (h1) ?_|refine q00 _ (h2) ?_|(apply spl<;>intro h<;>try simp (disch:=omega) only[go_sem,qi5,enter,List.length_map ,h]))
  ·rw[if_neg g1]
   by_cases g2:65536≤seen
   ·rw[if_pos g2]
    (repeat' first|simp (disch:=omega) only[go_sem,qi5,enter,List.length_map]|refine q00 _ (h1) ?_|refine q00 _ (h2) ?_|(apply spl<;>intro h<;>try simp (disch:=omega) only[go_sem,qi5,enter,List.length_map ,h]))
   ·rw[if_neg g2]
    by_cases g3:q9x v=0
    ·rw[if_neg (by simpa using g3)]
     rw[g3] at h1
     (repeat' first|simp (disch:=omega) only[go_sem,qi5,enter,List.length_map]|refine q00 _ (h1) ?_|refine q00 _ (h2) ?_|(apply spl<;>intro h<;>try simp (disch:=omega) only[go_sem,qi5,enter,List.length_map ,h]))
     refine q08 (α:=Nat × Int) (fun a=>{ tmps:=q0i 50 [(1,.int .i64 d),(2,.int .i64 a.2),(9,.tsl 13 (v.kids.map q0j)),(10,.int .i64 a.1)],heap:=[],base:=0 }) (fun a=>a.1≤v.kids.length∧q6c (fun x s=>q1x f x (d+1) s) v.kids (seen+1)=q6c (fun x s=>q1x f x (d+1) s) (v.kids.drop a.1) a.2∧0≤a.2∧a.2≤65536) (fun a=>v.kids.length-a.1) (0,seen+1) rfl ⟨Nat.zero_le _,rfl,by simp only; omega,by simp only; omega⟩ ?_
     rintro ⟨k,sn⟩ ⟨hk,hm,hs3,hs4⟩
     simp only at hk hm hs3 hs4
     by_cases hlt:k<v.kids.length
     ·obtain ⟨x,hx⟩:=q06 hlt
      have hxm:=List.mem_of_getElem? hx
      have hx2:=q09 (g:=q0j) hx
      have hdr:v.kids.drop k=x::v.kids.drop (k+1):=by
       obtain ⟨h3,h4⟩:=List.getElem?_eq_some_iff.1 hx
       rw[List.drop_eq_getElem_cons h3,h4]
      have hr:=ih x (by have:=kb1 x hxm; omega) (by omega) f (d+1) sn (by omega) (by omega) (by omega) (by omega) (by omega) (by omega)
      have hrg:=q1j f x (d+1) sn hs3 hs4
      rw[hdr,q1Q] at hm
      generalize q1x f x (d+1) sn=r at hr hm hrg
      rw[q07] at hx2 hr
      by_cases he:r.2=0
      ·rw[if_pos he] at hm
       rw[he] at hr
       (repeat' first|simp (disch:=omega) only[go_sem,hx2,List.length_map]|refine q00 _ (hr) ?_|(apply spl<;>intro h<;>try simp (disch:=omega) only[go_sem,hx2,List.length_map ,h]))
       exact ⟨(k+1,r.1),rfl,⟨hlt,hm,hrg.1,hrg.2⟩,by simp only; omega⟩
      ·rw[if_neg he] at hm
       rw[hm]
       (repeat' first|simp (disch:=omega) only[go_sem,hx2,List.length_map,he]|refine q00 _ (hr) ?_|(apply spl<;>intro h<;>try simp (disch:=omega) only[go_sem,hx2,List.length_map,he ,h]))
     ·rw[List.drop_of_length_le (by omega)] at hm
      rw[hm]
      (repeat' first|simp (disch:=omega) only[go_sem,List.length_map]|(apply spl<;>intro h<;>try simp (disch:=omega) only[go_sem,List.length_map,h]))
      rfl
    ·rw[if_pos g3]
     (repeat' first|simp (disch:=omega) only[go_sem,qi5,enter,List.length_map,g3]|refine q00 _ (h1) ?_|refine q00 _ (h2) ?_|(apply spl<;>intro h<;>try simp (disch:=omega) only[go_sem,qi5,enter,List.length_map,g3 ,h]))
def q3q (v:V):Int:=(q1x 49 v 1 0).2
theorem qbL (v:V) (hv:v.bulk≤2^24):q0f C0 19 [q0j v] (.int .i64 (q3q v)):=by
 have h1:=qj1 _ v (Nat.le_refl _) hv 49 1 0 (by omega) (by omega) (by omega) (by omega) (by omega) (by omega)
 rw[q07] at h1 ⊢
 refine q04 qnD rfl ?_
 (repeat' first|simp (disch:=omega) only[go_sem,qnD,enter]|refine q00 _ (h1) ?_|(apply spl<;>intro h<;>try simp (disch:=omega) only[go_sem,qnD,enter ,h]))
 all_goals rfl
end Ago
set_option maxRecDepth 100000
set_option maxHeartbeats 4000000
namespace Ago
open Go (IntKind)
theorem qix (m:Nat) (a:Nat) (h:a<256) (hm:m<256):IntKind.wrap .u8 ((BitVec.ofInt (IntKind.bits .u8) (a:Int) &&& BitVec.ofInt (IntKind.bits .u8) (m:Int)).toNat:Int)=((a &&& m:Nat):Int):=by
 have e:IntKind.bits .u8=8:=rfl
 rw[e,BitVec.toNat_and,BitVec.toNat_ofInt,BitVec.toNat_ofInt]
 have h1:((a:Int) % ((2^8:Nat):Int)).toNat=a:=by omega
 have h2:((m:Int) % ((2^8:Nat):Int)).toNat=m:=by omega
 rw[h1,h2]
 have h3:a &&& m≤a:=Nat.and_le_left
 exact w8 (by omega) (by omega)
theorem b7 (c:UInt8):IntKind.wrap .u8 ((BitVec.ofInt (IntKind.bits .u8) (c.toNat:Int) &&& BitVec.ofInt (IntKind.bits .u8) 7).toNat:Int)=(c.toNat:Int) % 8:=by
 have:=qix 7 c.toNat c.toNat_lt (by omega)
 rw[show ((7:Nat):Int)=7 from rfl] at this
 rw[this,show (7:Nat)=2^3-1 from rfl,Nat.and_two_pow_sub_one_eq_mod]
 omega
theorem b15 (c:UInt8):IntKind.wrap .u8 ((BitVec.ofInt (IntKind.bits .u8) (c.toNat:Int) &&& BitVec.ofInt (IntKind.bits .u8) 15).toNat:Int)=(c.toNat:Int) % 16:=by
 have:=qix 15 c.toNat c.toNat_lt (by omega)
 rw[show ((15:Nat):Int)=15 from rfl] at this
 rw[this,show (15:Nat)=2^4-1 from rfl,Nat.and_two_pow_sub_one_eq_mod]
 omega
theorem b31 (c:UInt8):IntKind.wrap .u8 ((BitVec.ofInt (IntKind.bits .u8) (c.toNat:Int) &&& BitVec.ofInt (IntKind.bits .u8) 31).toNat:Int)=(c.toNat:Int) % 32:=by
 have:=qix 31 c.toNat c.toNat_lt (by omega)
 rw[show ((31:Nat):Int)=31 from rfl] at this
 rw[this,show (31:Nat)=2^5-1 from rfl,Nat.and_two_pow_sub_one_eq_mod]
 omega
theorem b63 (c:UInt8):IntKind.wrap .u8 ((BitVec.ofInt (IntKind.bits .u8) (c.toNat:Int) &&& BitVec.ofInt (IntKind.bits .u8) 63).toNat:Int)=(c.toNat:Int) % 64:=by
 have:=qix 63 c.toNat c.toNat_lt (by omega)
 rw[show ((63:Nat):Int)=63 from rfl] at this
 rw[this,show (63:Nat)=2^6-1 from rfl,Nat.and_two_pow_sub_one_eq_mod]
 omega
theorem qo2 : ∀ n:Fin 256,n.val &&& 192=n.val / 64 * 64:=by decide
theorem q75 (c:UInt8):IntKind.wrap .u8 ((BitVec.ofInt (IntKind.bits .u8) (c.toNat:Int) &&& BitVec.ofInt (IntKind.bits .u8) 192).toNat:Int)=(c.toNat:Int) / 64 * 64:=by
 have:=qix 192 c.toNat c.toNat_lt (by omega)
 rw[show ((192:Nat):Int)=192 from rfl] at this
 have h:=qo2 ⟨c.toNat,c.toNat_lt⟩
 simp only at h
 rw[this,h]
 omega
def q5Q (b:UInt8):Int × Int:=
 if b.toNat<128 then (1,b.toNat) else if b.toNat<192 then (0,0) else if b.toNat<224 then (2,(b.toNat:Int) % 32) else if b.toNat<240 then (3,(b.toNat:Int) % 16) else if b.toNat<248 then (4,(b.toNat:Int) % 8) else (0,0)
theorem qjw (b:UInt8):q0f C0 94 [.int .u8 b.toNat] (.tup [.int .i64 (q5Q b).1,.int .i64 (q5Q b).2]):=by
 have hb:=b.toNat_lt
 refine q04 qcx rfl ?_
 unfold q5Q
 by_cases h1:b.toNat<128
 ·rw[if_pos h1]
  (repeat' first|simp (disch:=omega) only[go_sem,qcx,enter,b7,b15,b31]|(apply spl<;>intro h<;>try simp (disch:=omega) only[go_sem,qcx,enter,b7,b15,b31,h]))
 ·rw[if_neg h1]
  by_cases h2:b.toNat<192
  ·rw[if_pos h2]
   (repeat' first|simp (disch:=omega) only[go_sem,qcx,enter,b7,b15,b31]|(apply spl<;>intro h<;>try simp (disch:=omega) only[go_sem,qcx,enter,b7,b15,b31,h]))
  ·rw[if_neg h2]
   by_cases h3:b.toNat<224
   ·rw[if_pos h3]
    (repeat' first|simp (disch:=omega) only[go_sem,qcx,enter,b7,b15,b31]|(apply spl<;>intro h<;>try simp (disch:=omega) only[go_sem,qcx,enter,b7,b15,b31,h]))
   ·rw[if_neg h3]
    by_cases h4:b.toNat<240
    ·rw[if_pos h4]
     (repeat' first|simp (disch:=omega) only[go_sem,qcx,enter,b7,b15,b31]|(apply spl<;>intro h<;>try simp (disch:=omega) only[go_sem,qcx,enter,b7,b15,b31,h]))
    ·rw[if_neg h4]
     by_cases h5:b.toNat<248
     ·rw[if_pos h5]
      (repeat' first|simp (disch:=omega) only[go_sem,qcx,enter,b7,b15,b31]|(apply spl<;>intro h<;>try simp (disch:=omega) only[go_sem,qcx,enter,b7,b15,b31,h]))
     ·rw[if_neg h5]
      (repeat' first|simp (disch:=omega) only[go_sem,qcx,enter,b7,b15,b31]|(apply spl<;>intro h<;>try simp (disch:=omega) only[go_sem,qcx,enter,b7,b15,b31,h]))
theorem q4Y (r:Int):q0f C0 95 [.int .i64 r] (.bool (q2T r)):=by
 refine q04 qp6 rfl ?_
 unfold q2T
 (repeat' first|simp (disch:=omega) only[go_sem,qp6,enter]|(apply spl<;>intro h<;>try simp (disch:=omega) only[go_sem,qp6,enter,h]))
 all_goals rfl
theorem q67 (r:Int):q0f C0 96 [.int .i64 r] (.int .i64 (q6f r)):=by
 refine q04 qgs rfl ?_
 unfold q6f
 by_cases h1:r<128
 ·rw[if_pos h1]
  (repeat' first|simp (disch:=omega) only[go_sem,qgs,enter]|(apply spl<;>intro h<;>try simp (disch:=omega) only[go_sem,qgs,enter,h]))
 ·rw[if_neg h1]
  by_cases h2:r<2048
  ·rw[if_pos h2]
   (repeat' first|simp (disch:=omega) only[go_sem,qgs,enter]|(apply spl<;>intro h<;>try simp (disch:=omega) only[go_sem,qgs,enter,h]))
  ·rw[if_neg h2]
   by_cases h3:r<65536
   ·rw[if_pos h3]
    (repeat' first|simp (disch:=omega) only[go_sem,qgs,enter]|(apply spl<;>intro h<;>try simp (disch:=omega) only[go_sem,qgs,enter,h]))
   ·rw[if_neg h3]
    (repeat' first|simp (disch:=omega) only[go_sem,qgs,enter]|(apply spl<;>intro h<;>try simp (disch:=omega) only[go_sem,qgs,enter,h]))
theorem qfS {c:UInt8} (h:q16 c=true):(c.toNat:Int) / 64 * 64=128:=by have:=q0w.1 h; omega
theorem qeR {c:UInt8} (h:q16 c=false) : ¬ (c.toNat:Int) / 64 * 64=128:=fun e=>by
 have h2:q16 c=true:=q0w.2 (by omega)
 rw[h] at h2
 cases h2
theorem qdz (s:List UInt8) (k:Nat) (hs:s.length<2^31) (hk:k<s.length):q0f C0 84 [.str s,.int .i64 k] (.tup [.int .i64 (qaE s k).1,.int .i64 (qaE s k).2]):=by
 obtain ⟨b,hb⟩:=q06 hk
 have hbt:=b.toNat_lt
 have hdm:qaE s k=q3x s k b:=by unfold qaE; rw[hb]
 have hkn:(k:Int).toNat=k:=rfl
 have hh:=qjw b
 rw[hdm]
 refine q04 q9K rfl ?_
 by_cases g0:q5Q b=(0,0)
 ·have hdec:q3x s k b=(0,0):=by
   unfold q5Q at g0
   unfold q3x
   repeat' split
   all_goals first | rfl | omega | (simp_all; done)
  rw[g0] at hh
  rw[hdec]
  (repeat' first|simp (disch:=omega) only[go_sem,q9K,enter,hb,hkn]|refine q00 _ (hh) ?_|(apply spl<;>intro h<;>try simp (disch:=omega) only[go_sem,q9K,enter,hb,hkn ,h]))
 by_cases g1:b.toNat<128
 ·have hhm:q5Q b=(1,(b.toNat:Int)):=by unfold q5Q; rw[if_pos g1]
  rw[hhm] at hh
  (repeat' first|simp (disch:=omega) only[go_sem,q9K,enter,hb,hkn]|refine q00 _ (hh) ?_|(apply spl<;>intro h<;>try simp (disch:=omega) only[go_sem,q9K,enter,hb,hkn ,h]))
  refine q08 (α:=Unit) (fun _=>{ tmps:=q0i 64 [(0,.str s),(1,.int .i64 k),(4,.int .i64 b.toNat),(6,.int .i64 1),(7,.int .i64 1)],heap:=[],base:=0 }) (fun _=>True) (fun _=>0) () rfl trivial ?_
  rintro _ _
  obtain ⟨r,hr⟩ : ∃ r:Int,r=(b.toNat:Int):=⟨_,rfl⟩
  have hfin:q3x s k b=q17 r 1:=by
   have hc:q2T r=true:=by unfold q2T; simp; omega
   have hw:q6f r=1:=by unfold q6f; rw[if_pos (by omega)]
   unfold q3x q17
   rw[if_pos g1,hc,hw,hr]
   rfl
  rw[←hr]
  have hs1:=q4Y r
  have hw1:=q67 r
  unfold q17 at hfin
  cases hc:q2T r with
  | false=>
   rw[hc] at hs1 hfin
   simp only[Bool.false_and,Bool.false_eq_true,if_false] at hfin
   rw[hfin]
   (repeat' first|simp (disch:=omega) only[go_sem]|refine q00 _ (hs1) ?_|refine q00 _ (hw1) ?_|(apply spl<;>intro h<;>try simp (disch:=omega) only[go_sem,h]))
  | true=>
   rw[hc] at hs1 hfin
   simp only[Bool.true_and] at hfin
   by_cases hw:q6f r=1
   ·rw[hw] at hw1
    rw[hw,if_pos (by simp)] at hfin
    rw[hfin]
    (repeat' first|simp (disch:=omega) only[go_sem]|refine q00 _ (hs1) ?_|refine q00 _ (hw1) ?_|(apply spl<;>intro h<;>try simp (disch:=omega) only[go_sem,h]))
   ·have hw2:(q6f r == 1)=false:=by simpa using hw
    have hw3 : ¬ (q6f r:Int)=1:=by omega
    rw[hw2] at hfin
    simp only[Bool.false_eq_true,if_false] at hfin
    rw[hfin]
    (repeat' first|simp (disch:=omega) only[go_sem,hw3]|refine q00 _ (hs1) ?_|refine q00 _ (hw1) ?_|(apply spl<;>intro h<;>try simp (disch:=omega) only[go_sem,hw3 ,h]))
 by_cases g2:192≤b.toNat∧b.toNat<224
 ·obtain ⟨g1',g2'⟩:=g2
  have hhm:q5Q b=(2,(b.toNat:Int) % 32):=by
   unfold q5Q
   repeat' split
   all_goals first | rfl | omega
  rw[hhm] at hh
  by_cases hlen:s.length<k+2
  ·have hnone:s[k+1]?=none:=List.getElem?_eq_none (by omega)
   have hdec:q3x s k b=(0,0):=by
    unfold q3x
    repeat' split
    all_goals first | rfl | omega | (rw[hnone]; first | rfl | (cases s[k+1]?<;>first | rfl | (cases s[k+2]?<;>rfl)))
   rw[hdec]
   (repeat' first|simp (disch:=omega) only[go_sem,q9K,enter,hb,hkn]|refine q00 _ (hh) ?_|(apply spl<;>intro h<;>try simp (disch:=omega) only[go_sem,q9K,enter,hb,hkn ,h]))
  ·have hd0:True:=trivial
   obtain ⟨c,hc⟩:=q06 (s:=s) (k:=k+1) (by omega)
   have ct:=c.toNat_lt
   have kn1:((k:Int)+1).toNat=k+1:=by omega
   have hdec:q3x s k b=qpJ b (some c):=by
    unfold q3x
    repeat' split
    all_goals first | omega | (rw[hc])
   rw[q61] at hdec
   (repeat' first|simp (disch:=omega) only[go_sem,q9K,enter,hb,hkn]|refine q00 _ (hh) ?_|(apply spl<;>intro h<;>try simp (disch:=omega) only[go_sem,q9K,enter,hb,hkn ,h]))
   refine q08 (α:=Nat) (fun i=>{ tmps:=q0i 64 [(0,.str s),(1,.int .i64 k),(4,.int .i64 (q1N ((b.toNat:Int) % 32) (((b.toNat:Int) % 32) * 64+(c.toNat:Int) % 64) 0 0 i)),(6,.int .i64 2),(7,.int .i64 i)],heap:=[],base:=0 }) (fun i=>1≤i∧i≤2∧(1<i→q16 c=true)) (fun i=>2-i) 1 rfl (by refine ⟨by omega,by omega,fun h=>by omega⟩) ?_
   rintro i ⟨hi1,hi2,ic⟩
   rcases (by omega:i=1∨i=2) with rfl | rfl
   ·have hp:q1N ((b.toNat:Int) % 32) (((b.toNat:Int) % 32) * 64+(c.toNat:Int) % 64) 0 0 1=((b.toNat:Int) % 32):=rfl
    have hq:q1N ((b.toNat:Int) % 32) (((b.toNat:Int) % 32) * 64+(c.toNat:Int) % 64) 0 0 2=(((b.toNat:Int) % 32) * 64+(c.toNat:Int) % 64):=rfl
    rw[hp]
    cases hcc:q16 c with
    | false=>
     have hno:=qeR hcc
     have hdec0:q3x s k b=(0,0):=by rw[hdec]; simp [hcc]
     rw[hdec0]
     (repeat' first|simp (disch:=omega) only[go_sem,hkn,kn1,hc,q75,hno,c1',c2',c3',c4']|(apply spl<;>intro h<;>try simp (disch:=omega) only[go_sem,hkn,kn1,hc,q75,hno,c1',c2',c3',c4',h]))
    | true=>
     have hyes:=qfS hcc
     (repeat' first|simp (disch:=omega) only[go_sem,hkn,kn1,hc,q75,b63,hyes,pw6,q74,c1',c2',c3',c4']|(apply spl<;>intro h<;>try simp (disch:=omega) only[go_sem,hkn,kn1,hc,q75,b63,hyes,pw6,q74,c1',c2',c3',c4',h]))
     exact ⟨2,by rw[hq]; rfl,⟨by omega,by omega,fun _=>by first | exact hcc | trivial⟩,by omega⟩
   ·have hp:q1N ((b.toNat:Int) % 32) (((b.toNat:Int) % 32) * 64+(c.toNat:Int) % 64) 0 0 2=(((b.toNat:Int) % 32) * 64+(c.toNat:Int) % 64):=rfl
    rw[hp]
    have hcc:=ic (by omega)
    have hcc':=q0w.1 hcc
    obtain ⟨r,hr⟩ : ∃ r:Int,r=(((b.toNat:Int) % 32) * 64+(c.toNat:Int) % 64):=⟨_,rfl⟩
    have er:(((b.toNat:Int)-192) * 64+((c.toNat:Int)-128))=r:=by omega
    have hfin:q3x s k b=q17 r 2:=by
     rw[hdec,er]
     simp [hcc]
    rw[←hr]
    have hs1:=q4Y r
    have hw1:=q67 r
    unfold q17 at hfin
    cases hc:q2T r with
    | false=>
     rw[hc] at hs1 hfin
     simp only[Bool.false_and,Bool.false_eq_true,if_false] at hfin
     rw[hfin]
     (repeat' first|simp (disch:=omega) only[go_sem]|refine q00 _ (hs1) ?_|refine q00 _ (hw1) ?_|(apply spl<;>intro h<;>try simp (disch:=omega) only[go_sem,h]))
    | true=>
     rw[hc] at hs1 hfin
     simp only[Bool.true_and] at hfin
     by_cases hw:q6f r=2
     ·rw[hw] at hw1
      rw[hw,if_pos (by simp)] at hfin
      rw[hfin]
      (repeat' first|simp (disch:=omega) only[go_sem]|refine q00 _ (hs1) ?_|refine q00 _ (hw1) ?_|(apply spl<;>intro h<;>try simp (disch:=omega) only[go_sem,h]))
     ·have hw2:(q6f r == 2)=false:=by simpa using hw
      have hw3 : ¬ (q6f r:Int)=2:=by omega
      rw[hw2] at hfin
      simp only[Bool.false_eq_true,if_false] at hfin
      rw[hfin]
      (repeat' first|simp (disch:=omega) only[go_sem,hw3]|refine q00 _ (hs1) ?_|refine q00 _ (hw1) ?_|(apply spl<;>intro h<;>try simp (disch:=omega) only[go_sem,hw3 ,h]))
 by_cases g3:224≤b.toNat∧b.toNat<240
 ·obtain ⟨g1',g2'⟩:=g3
  have hhm:q5Q b=(3,(b.toNat:Int) % 16):=by
   unfold q5Q
   repeat' split
   all_goals first | rfl | omega
  rw[hhm] at hh
  by_cases hlen:s.length<k+3
  ·have hnone:s[k+2]?=none:=List.getElem?_eq_none (by omega)
   have hdec:q3x s k b=(0,0):=by
    unfold q3x
    repeat' split
    all_goals first | rfl | omega | (rw[hnone]; first | rfl | (cases s[k+1]?<;>first | rfl | (cases s[k+2]?<;>rfl)))
   rw[hdec]
   (repeat' first|simp (disch:=omega) only[go_sem,q9K,enter,hb,hkn]|refine q00 _ (hh) ?_|(apply spl<;>intro h<;>try simp (disch:=omega) only[go_sem,q9K,enter,hb,hkn ,h]))
  ·have hd0:True:=trivial
   obtain ⟨c,hc⟩:=q06 (s:=s) (k:=k+1) (by omega)
   have ct:=c.toNat_lt
   have kn1:((k:Int)+1).toNat=k+1:=by omega
   obtain ⟨d,hd⟩:=q06 (s:=s) (k:=k+2) (by omega)
   have dt:=d.toNat_lt
   have kn2:((k:Int)+2).toNat=k+2:=by omega
   have hdec:q3x s k b=qqc b (some c) (some d):=by
    unfold q3x
    repeat' split
    all_goals first | omega | (rw[hc,hd])
   rw[q5G] at hdec
   (repeat' first|simp (disch:=omega) only[go_sem,q9K,enter,hb,hkn]|refine q00 _ (hh) ?_|(apply spl<;>intro h<;>try simp (disch:=omega) only[go_sem,q9K,enter,hb,hkn ,h]))
   refine q08 (α:=Nat) (fun i=>{ tmps:=q0i 64 [(0,.str s),(1,.int .i64 k),(4,.int .i64 (q1N ((b.toNat:Int) % 16) (((b.toNat:Int) % 16) * 64+(c.toNat:Int) % 64) ((((b.toNat:Int) % 16) * 64+(c.toNat:Int) % 64) * 64+(d.toNat:Int) % 64) 0 i)),(6,.int .i64 3),(7,.int .i64 i)],heap:=[],base:=0 }) (fun i=>1≤i∧i≤3∧(1<i→q16 c=true)∧(2<i→q16 d=true)) (fun i=>3-i) 1 rfl (by refine ⟨by omega,by omega,fun h=>by omega,fun h=>by omega⟩) ?_
   rintro i ⟨hi1,hi2,ic,id⟩
   rcases (by omega:i=1∨i=2∨i=3) with rfl | rfl | rfl
   ·have hp:q1N ((b.toNat:Int) % 16) (((b.toNat:Int) % 16) * 64+(c.toNat:Int) % 64) ((((b.toNat:Int) % 16) * 64+(c.toNat:Int) % 64) * 64+(d.toNat:Int) % 64) 0 1=((b.toNat:Int) % 16):=rfl
    have hq:q1N ((b.toNat:Int) % 16) (((b.toNat:Int) % 16) * 64+(c.toNat:Int) % 64) ((((b.toNat:Int) % 16) * 64+(c.toNat:Int) % 64) * 64+(d.toNat:Int) % 64) 0 2=(((b.toNat:Int) % 16) * 64+(c.toNat:Int) % 64):=rfl
    rw[hp]
    cases hcc:q16 c with
    | false=>
     have hno:=qeR hcc
     have hdec0:q3x s k b=(0,0):=by rw[hdec]; simp [hcc]
     rw[hdec0]
     (repeat' first|simp (disch:=omega) only[go_sem,hkn,kn1,hc,q75,hno,c1',c2',c3',c4']|(apply spl<;>intro h<;>try simp (disch:=omega) only[go_sem,hkn,kn1,hc,q75,hno,c1',c2',c3',c4',h]))
    | true=>
     have hyes:=qfS hcc
     (repeat' first|simp (disch:=omega) only[go_sem,hkn,kn1,hc,q75,b63,hyes,pw6,q74,c1',c2',c3',c4']|(apply spl<;>intro h<;>try simp (disch:=omega) only[go_sem,hkn,kn1,hc,q75,b63,hyes,pw6,q74,c1',c2',c3',c4',h]))
     exact ⟨2,by rw[hq]; rfl,⟨by omega,by omega,fun _=>by first | exact hcc | trivial,fun h=>by omega⟩,by omega⟩
   ·have hp:q1N ((b.toNat:Int) % 16) (((b.toNat:Int) % 16) * 64+(c.toNat:Int) % 64) ((((b.toNat:Int) % 16) * 64+(c.toNat:Int) % 64) * 64+(d.toNat:Int) % 64) 0 2=(((b.toNat:Int) % 16) * 64+(c.toNat:Int) % 64):=rfl
    have hq:q1N ((b.toNat:Int) % 16) (((b.toNat:Int) % 16) * 64+(c.toNat:Int) % 64) ((((b.toNat:Int) % 16) * 64+(c.toNat:Int) % 64) * 64+(d.toNat:Int) % 64) 0 3=((((b.toNat:Int) % 16) * 64+(c.toNat:Int) % 64) * 64+(d.toNat:Int) % 64):=rfl
    rw[hp]
    cases hdc:q16 d with
    | false=>
     have hno:=qeR hdc
     have hdec0:q3x s k b=(0,0):=by rw[hdec]; simp [hdc]
     rw[hdec0]
     (repeat' first|simp (disch:=omega) only[go_sem,hkn,kn2,hd,q75,hno,c1',c2',c3',c4']|(apply spl<;>intro h<;>try simp (disch:=omega) only[go_sem,hkn,kn2,hd,q75,hno,c1',c2',c3',c4',h]))
    | true=>
     have hyes:=qfS hdc
     (repeat' first|simp (disch:=omega) only[go_sem,hkn,kn2,hd,q75,b63,hyes,pw6,q74,c1',c2',c3',c4']|(apply spl<;>intro h<;>try simp (disch:=omega) only[go_sem,hkn,kn2,hd,q75,b63,hyes,pw6,q74,c1',c2',c3',c4',h]))
     exact ⟨3,by rw[hq]; rfl,⟨by omega,by omega,fun h=>ic (by omega),fun _=>by first | exact hdc | trivial⟩,by omega⟩
   ·have hp:q1N ((b.toNat:Int) % 16) (((b.toNat:Int) % 16) * 64+(c.toNat:Int) % 64) ((((b.toNat:Int) % 16) * 64+(c.toNat:Int) % 64) * 64+(d.toNat:Int) % 64) 0 3=((((b.toNat:Int) % 16) * 64+(c.toNat:Int) % 64) * 64+(d.toNat:Int) % 64):=rfl
    rw[hp]
    have hcc:=ic (by omega)
    have hcc':=q0w.1 hcc
    have hdc:=id (by omega)
    have hdc':=q0w.1 hdc
    obtain ⟨r,hr⟩ : ∃ r:Int,r=((((b.toNat:Int) % 16) * 64+(c.toNat:Int) % 64) * 64+(d.toNat:Int) % 64):=⟨_,rfl⟩
    have er:((((b.toNat:Int)-224) * 64+((c.toNat:Int)-128)) * 64+((d.toNat:Int)-128))=r:=by omega
    have hfin:q3x s k b=q17 r 3:=by
     rw[hdec,er]
     simp [hcc,hdc]
    rw[←hr]
    have hs1:=q4Y r
    have hw1:=q67 r
    unfold q17 at hfin
    cases hc:q2T r with
    | false=>
     rw[hc] at hs1 hfin
     simp only[Bool.false_and,Bool.false_eq_true,if_false] at hfin
     rw[hfin]
     (repeat' first|simp (disch:=omega) only[go_sem]|refine q00 _ (hs1) ?_|refine q00 _ (hw1) ?_|(apply spl<;>intro h<;>try simp (disch:=omega) only[go_sem,h]))
    | true=>
     rw[hc] at hs1 hfin
     simp only[Bool.true_and] at hfin
     by_cases hw:q6f r=3
     ·rw[hw] at hw1
      rw[hw,if_pos (by simp)] at hfin
      rw[hfin]
      (repeat' first|simp (disch:=omega) only[go_sem]|refine q00 _ (hs1) ?_|refine q00 _ (hw1) ?_|(apply spl<;>intro h<;>try simp (disch:=omega) only[go_sem,h]))
     ·have hw2:(q6f r == 3)=false:=by simpa using hw
      have hw3 : ¬ (q6f r:Int)=3:=by omega
      rw[hw2] at hfin
      simp only[Bool.false_eq_true,if_false] at hfin
      rw[hfin]
      (repeat' first|simp (disch:=omega) only[go_sem,hw3]|refine q00 _ (hs1) ?_|refine q00 _ (hw1) ?_|(apply spl<;>intro h<;>try simp (disch:=omega) only[go_sem,hw3 ,h]))
 by_cases g4:240≤b.toNat∧b.toNat<248
 ·obtain ⟨g1',g2'⟩:=g4
  have hhm:q5Q b=(4,(b.toNat:Int) % 8):=by
   unfold q5Q
   repeat' split
   all_goals first | rfl | omega
  rw[hhm] at hh
  by_cases hlen:s.length<k+4
  ·have hnone:s[k+3]?=none:=List.getElem?_eq_none (by omega)
   have hdec:q3x s k b=(0,0):=by
    unfold q3x
    repeat' split
    all_goals first | rfl | omega | (rw[hnone]; first | rfl | (cases s[k+1]?<;>first | rfl | (cases s[k+2]?<;>rfl)))
   rw[hdec]
   (repeat' first|simp (disch:=omega) only[go_sem,q9K,enter,hb,hkn]|refine q00 _ (hh) ?_|(apply spl<;>intro h<;>try simp (disch:=omega) only[go_sem,q9K,enter,hb,hkn ,h]))
  ·have hd0:True:=trivial
   obtain ⟨c,hc⟩:=q06 (s:=s) (k:=k+1) (by omega)
   have ct:=c.toNat_lt
   have kn1:((k:Int)+1).toNat=k+1:=by omega
   obtain ⟨d,hd⟩:=q06 (s:=s) (k:=k+2) (by omega)
   have dt:=d.toNat_lt
   have kn2:((k:Int)+2).toNat=k+2:=by omega
   obtain ⟨e,he⟩:=q06 (s:=s) (k:=k+3) (by omega)
   have et:=e.toNat_lt
   have kn3:((k:Int)+3).toNat=k+3:=by omega
   have hdec:q3x s k b=qq2 b (some c) (some d) (some e):=by
    unfold q3x
    repeat' split
    all_goals first | omega | (rw[hc,hd,he])
   rw[q5T] at hdec
   (repeat' first|simp (disch:=omega) only[go_sem,q9K,enter,hb,hkn]|refine q00 _ (hh) ?_|(apply spl<;>intro h<;>try simp (disch:=omega) only[go_sem,q9K,enter,hb,hkn ,h]))
   refine q08 (α:=Nat) (fun i=>{ tmps:=q0i 64 [(0,.str s),(1,.int .i64 k),(4,.int .i64 (q1N ((b.toNat:Int) % 8) (((b.toNat:Int) % 8) * 64+(c.toNat:Int) % 64) ((((b.toNat:Int) % 8) * 64+(c.toNat:Int) % 64) * 64+(d.toNat:Int) % 64) (((((b.toNat:Int) % 8) * 64+(c.toNat:Int) % 64) * 64+(d.toNat:Int) % 64) * 64+(e.toNat:Int) % 64) i)),(6,.int .i64 4),(7,.int .i64 i)],heap:=[],base:=0 }) (fun i=>1≤i∧i≤4∧(1<i→q16 c=true)∧(2<i→q16 d=true)∧(3<i→q16 e=true)) (fun i=>4-i) 1 rfl (by refine ⟨by omega,by omega,fun h=>by omega,fun h=>by omega,fun h=>by omega⟩) ?_
   rintro i ⟨hi1,hi2,ic,id,ie⟩
   rcases (by omega:i=1∨i=2∨i=3∨i=4) with rfl | rfl | rfl | rfl
   ·have hp:q1N ((b.toNat:Int) % 8) (((b.toNat:Int) % 8) * 64+(c.toNat:Int) % 64) ((((b.toNat:Int) % 8) * 64+(c.toNat:Int) % 64) * 64+(d.toNat:Int) % 64) (((((b.toNat:Int) % 8) * 64+(c.toNat:Int) % 64) * 64+(d.toNat:Int) % 64) * 64+(e.toNat:Int) % 64) 1=((b.toNat:Int) % 8):=rfl
    have hq:q1N ((b.toNat:Int) % 8) (((b.toNat:Int) % 8) * 64+(c.toNat:Int) % 64) ((((b.toNat:Int) % 8) * 64+(c.toNat:Int) % 64) * 64+(d.toNat:Int) % 64) (((((b.toNat:Int) % 8) * 64+(c.toNat:Int) % 64) * 64+(d.toNat:Int) % 64) * 64+(e.toNat:Int) % 64) 2=(((b.toNat:Int) % 8) * 64+(c.toNat:Int) % 64):=rfl
    rw[hp]
    cases hcc:q16 c with
    | false=>
     have hno:=qeR hcc
     have hdec0:q3x s k b=(0,0):=by rw[hdec]; simp [hcc]
     rw[hdec0]
     (repeat' first|simp (disch:=omega) only[go_sem,hkn,kn1,hc,q75,hno,c1',c2',c3',c4']|(apply spl<;>intro h<;>try simp (disch:=omega) only[go_sem,hkn,kn1,hc,q75,hno,c1',c2',c3',c4',h]))
    | true=>
     have hyes:=qfS hcc
     (repeat' first|simp (disch:=omega) only[go_sem,hkn,kn1,hc,q75,b63,hyes,pw6,q74,c1',c2',c3',c4']|(apply spl<;>intro h<;>try simp (disch:=omega) only[go_sem,hkn,kn1,hc,q75,b63,hyes,pw6,q74,c1',c2',c3',c4',h]))
     exact ⟨2,by rw[hq]; rfl,⟨by omega,by omega,fun _=>by first | exact hcc | trivial,fun h=>by omega,fun h=>by omega⟩,by omega⟩
   ·have hp:q1N ((b.toNat:Int) % 8) (((b.toNat:Int) % 8) * 64+(c.toNat:Int) % 64) ((((b.toNat:Int) % 8) * 64+(c.toNat:Int) % 64) * 64+(d.toNat:Int) % 64) (((((b.toNat:Int) % 8) * 64+(c.toNat:Int) % 64) * 64+(d.toNat:Int) % 64) * 64+(e.toNat:Int) % 64) 2=(((b.toNat:Int) % 8) * 64+(c.toNat:Int) % 64):=rfl
    have hq:q1N ((b.toNat:Int) % 8) (((b.toNat:Int) % 8) * 64+(c.toNat:Int) % 64) ((((b.toNat:Int) % 8) * 64+(c.toNat:Int) % 64) * 64+(d.toNat:Int) % 64) (((((b.toNat:Int) % 8) * 64+(c.toNat:Int) % 64) * 64+(d.toNat:Int) % 64) * 64+(e.toNat:Int) % 64) 3=((((b.toNat:Int) % 8) * 64+(c.toNat:Int) % 64) * 64+(d.toNat:Int) % 64):=rfl
    rw[hp]
    cases hdc:q16 d with
    | false=>
     have hno:=qeR hdc
     have hdec0:q3x s k b=(0,0):=by rw[hdec]; simp [hdc]
     rw[hdec0]
     (repeat' first|simp (disch:=omega) only[go_sem,hkn,kn2,hd,q75,hno,c1',c2',c3',c4']|(apply spl<;>intro h<;>try simp (disch:=omega) only[go_sem,hkn,kn2,hd,q75,hno,c1',c2',c3',c4',h]))
    | true=>
     have hyes:=qfS hdc
     (repeat' first|simp (disch:=omega) only[go_sem,hkn,kn2,hd,q75,b63,hyes,pw6,q74,c1',c2',c3',c4']|(apply spl<;>intro h<;>try simp (disch:=omega) only[go_sem,hkn,kn2,hd,q75,b63,hyes,pw6,q74,c1',c2',c3',c4',h]))
     exact ⟨3,by rw[hq]; rfl,⟨by omega,by omega,fun h=>ic (by omega),fun _=>by first | exact hdc | trivial,fun h=>by omega⟩,by omega⟩
   ·have hp:q1N ((b.toNat:Int) % 8) (((b.toNat:Int) % 8) * 64+(c.toNat:Int) % 64) ((((b.toNat:Int) % 8) * 64+(c.toNat:Int) % 64) * 64+(d.toNat:Int) % 64) (((((b.toNat:Int) % 8) * 64+(c.toNat:Int) % 64) * 64+(d.toNat:Int) % 64) * 64+(e.toNat:Int) % 64) 3=((((b.toNat:Int) % 8) * 64+(c.toNat:Int) % 64) * 64+(d.toNat:Int) % 64):=rfl
    have hq:q1N ((b.toNat:Int) % 8) (((b.toNat:Int) % 8) * 64+(c.toNat:Int) % 64) ((((b.toNat:Int) % 8) * 64+(c.toNat:Int) % 64) * 64+(d.toNat:Int) % 64) (((((b.toNat:Int) % 8) * 64+(c.toNat:Int) % 64) * 64+(d.toNat:Int) % 64) * 64+(e.toNat:Int) % 64) 4=(((((b.toNat:Int) % 8) * 64+(c.toNat:Int) % 64) * 64+(d.toNat:Int) % 64) * 64+(e.toNat:Int) % 64):=rfl
    rw[hp]
    cases hec:q16 e with
    | false=>
     have hno:=qeR hec
     have hdec0:q3x s k b=(0,0):=by rw[hdec]; simp [hec]
     rw[hdec0]
     (repeat' first|simp (disch:=omega) only[go_sem,hkn,kn3,he,q75,hno,c1',c2',c3',c4']|(apply spl<;>intro h<;>try simp (disch:=omega) only[go_sem,hkn,kn3,he,q75,hno,c1',c2',c3',c4',h]))
    | true=>
     have hyes:=qfS hec
     (repeat' first|simp (disch:=omega) only[go_sem,hkn,kn3,he,q75,b63,hyes,pw6,q74,c1',c2',c3',c4']|(apply spl<;>intro h<;>try simp (disch:=omega) only[go_sem,hkn,kn3,he,q75,b63,hyes,pw6,q74,c1',c2',c3',c4',h]))
     exact ⟨4,by rw[hq]; rfl,⟨by omega,by omega,fun h=>ic (by omega),fun h=>id (by omega),fun _=>by first | exact hec | trivial⟩,by omega⟩
   ·have hp:q1N ((b.toNat:Int) % 8) (((b.toNat:Int) % 8) * 64+(c.toNat:Int) % 64) ((((b.toNat:Int) % 8) * 64+(c.toNat:Int) % 64) * 64+(d.toNat:Int) % 64) (((((b.toNat:Int) % 8) * 64+(c.toNat:Int) % 64) * 64+(d.toNat:Int) % 64) * 64+(e.toNat:Int) % 64) 4=(((((b.toNat:Int) % 8) * 64+(c.toNat:Int) % 64) * 64+(d.toNat:Int) % 64) * 64+(e.toNat:Int) % 64):=rfl
    rw[hp]
    have hcc:=ic (by omega)
    have hcc':=q0w.1 hcc
    have hdc:=id (by omega)
    have hdc':=q0w.1 hdc
    have hec:=ie (by omega)
    have hec':=q0w.1 hec
    obtain ⟨r,hr⟩ : ∃ r:Int,r=(((((b.toNat:Int) % 8) * 64+(c.toNat:Int) % 64) * 64+(d.toNat:Int) % 64) * 64+(e.toNat:Int) % 64):=⟨_,rfl⟩
    have er:(((((b.toNat:Int)-240) * 64+((c.toNat:Int)-128)) * 64+((d.toNat:Int)-128)) * 64+((e.toNat:Int)-128))=r:=by omega
    have hfin:q3x s k b=q17 r 4:=by
     rw[hdec,er]
     simp [hcc,hdc,hec]
    rw[←hr]
    have hs1:=q4Y r
    have hw1:=q67 r
    unfold q17 at hfin
    cases hc:q2T r with
    | false=>
     rw[hc] at hs1 hfin
     simp only[Bool.false_and,Bool.false_eq_true,if_false] at hfin
     rw[hfin]
     (repeat' first|simp (disch:=omega) only[go_sem]|refine q00 _ (hs1) ?_|refine q00 _ (hw1) ?_|(apply spl<;>intro h<;>try simp (disch:=omega) only[go_sem,h]))
    | true=>
     rw[hc] at hs1 hfin
     simp only[Bool.true_and] at hfin
     by_cases hw:q6f r=4
     ·rw[hw] at hw1
      rw[hw,if_pos (by simp)] at hfin
      rw[hfin]
      (repeat' first|simp (disch:=omega) only[go_sem]|refine q00 _ (hs1) ?_|refine q00 _ (hw1) ?_|(apply spl<;>intro h<;>try simp (disch:=omega) only[go_sem,h]))
     ·have hw2:(q6f r == 4)=false:=by simpa using hw
      have hw3 : ¬ (q6f r:Int)=4:=by omega
      rw[hw2] at hfin
      simp only[Bool.false_eq_true,if_false] at hfin
      rw[hfin]
      (repeat' first|simp (disch:=omega) only[go_sem,hw3]|refine q00 _ (hs1) ?_|refine q00 _ (hw1) ?_|(apply spl<;>intro h<;>try simp (disch:=omega) only[go_sem,hw3 ,h]))
 exfalso
 apply g0
 unfold q5Q
 repeat' split
 all_goals first | rfl | omega
end Ago
set_option maxRecDepth 100000
set_option maxHeartbeats 4000000
namespace Ago
open Go (IntKind)
theorem qmN (s:List UInt8) (hs:s.length<2^30) : ∃ n:Int,q0f C0 63 [.str s] (.tup [.int .i64 n,.int .i64 (if utf s then 0 else 5)]):=by
 have h:=q3A (C:=C0) (f:=63) (ts:=[.str s]) (k:=fun v=>∃ n:Int,v = .tup [.int .i64 n,.int .i64 (if utf s then 0 else 5)]) qoF rfl (by
  (repeat' first|simp (disch:=omega) only[go_sem,qoF,enter]|(apply spl<;>intro h<;>try simp (disch:=omega) only[go_sem,qoF,enter,h]))
  refine q08 (α:=Nat × Nat) (fun a=>{ tmps:=q0i 26 [(0,.str s),(4,.int .i64 a.2),(5,.int .i64 a.1)],heap:=[],base:=0 }) (fun a=>a.1≤s.length∧a.2≤a.1∧utf s=q5f s (s.length-a.1+1) a.1) (fun a=>s.length-a.1) (0,0) rfl ⟨by simp,by simp,rfl⟩ ?_
  rintro ⟨k,j⟩ ⟨hk,hl,hw⟩
  simp only at hk hl hw
  by_cases hlt:k<s.length
  ·have hd:=qdz s k (by omega) hlt
   obtain ⟨m,hm,hsz⟩:=q5Y s k
   rw[hm] at hd
   by_cases h0:m=0
   ·subst h0
    rw[q7W hlt hm] at hw
    rw[hw]
    (repeat' first|simp (disch:=omega) only[go_sem]|refine q00 _ (hd) ?_|(apply spl<;>intro h<;>try simp (disch:=omega) only[go_sem,h]))
    exact ⟨_,rfl⟩
   ·rw[q7o hlt hm h0] at hw
    (repeat' first|simp (disch:=omega) only[go_sem]|refine q00 _ (hd) ?_|(apply spl<;>intro h<;>try simp (disch:=omega) only[go_sem,h]))
    exact ⟨(k+m,j+1),rfl,⟨by simp only; omega,by simp only; omega,hw⟩,by simp only; omega⟩
  ·rw[q9S (by omega)] at hw
   rw[hw]
   (repeat' first|simp (disch:=omega) only[go_sem]|(apply spl<;>intro h<;>try simp (disch:=omega) only[go_sem,h]))
   exact ⟨_,rfl⟩)
 obtain ⟨v,h1,n,rfl⟩:=h
 exact ⟨n,h1⟩
theorem q76 (s:List UInt8) (hs:s.length<2^30):q0f C0 46 [.str s] (.bool (utf s)):=by
 obtain ⟨n,hb⟩:=qmN s hs
 refine q04 qn5 rfl ?_
 cases hu:utf s with
 | true=>
  rw[hu] at hb
  simp only[if_true] at hb
  (repeat' first|simp (disch:=omega) only[go_sem,qn5,enter]|refine q00 _ (hb) ?_|(apply spl<;>intro h<;>try simp (disch:=omega) only[go_sem,qn5,enter ,h]))
 | false=>
  rw[hu] at hb
  simp only[Bool.false_eq_true,if_false] at hb
  (repeat' first|simp (disch:=omega) only[go_sem,qn5,enter]|refine q00 _ (hb) ?_|(apply spl<;>intro h<;>try simp (disch:=omega) only[go_sem,qn5,enter ,h]))
end Ago
set_option maxRecDepth 100000
set_option maxHeartbeats 4000000
namespace Ago
open Go (IntKind)
def qqE (k:List UInt8):Int:=if utf k=false then 5 else if 1024<k.length then 10 else 0
theorem ql5 (k:List UInt8) (hk:k.length<2^30):q0f C0 151 [.str k] (.int .i64 (qqE k)):=by
 have hu:=q76 k hk
 refine q04 q9J rfl ?_
 unfold qqE
 cases hb:utf k with
 | false=>
  rw[hb] at hu
  rw[if_pos rfl]
  (repeat' first|simp (disch:=omega) only[go_sem,q9J,enter]|refine q00 _ (hu) ?_|(apply spl<;>intro h<;>try simp (disch:=omega) only[go_sem,q9J,enter ,h]))
 | true=>
  rw[hb] at hu
  rw[if_neg (by simp)]
  by_cases h:1024<k.length
  ·rw[if_pos h]
   (repeat' first|simp (disch:=omega) only[go_sem,q9J,enter]|refine q00 _ (hu) ?_|(apply spl<;>intro h<;>try simp (disch:=omega) only[go_sem,q9J,enter ,h]))
  ·rw[if_neg h]
   (repeat' first|simp (disch:=omega) only[go_sem,q9J,enter]|refine q00 _ (hu) ?_|(apply spl<;>intro h<;>try simp (disch:=omega) only[go_sem,q9J,enter ,h]))
end Ago
set_option maxRecDepth 100000
set_option maxHeartbeats 4000000
namespace Ago
open Go (IntKind)
def qeu (v:V):Bool:=
 (!(v.s.kind == 1) && v.s.bool) || (!(v.s.kind == 2) && !qoj v.s.num) || (!(v.s.kind == 3) && !tmZ v.s.time) ||
 (!(v.s.kind == 4) && !(v.s.text == [])) || (!(v.s.kind == 5) && decide (0<v.s.bytes.length)) || (!(v.s.kind == 6) && decide (0<v.l.length)) || (!(v.s.kind == 7) && decide (0<v.f.length))
theorem qa9 {α:Type} (l:List α):((l.length:Int) == 0) = !decide (0<l.length):=by
 cases l with
 | nil=>rfl
 | cons x l=>simp; omega
theorem qcp (v:V):ownM v=(decide (0≤v.s.kind∧v.s.kind≤7) && !qeu v):=by
 unfold ownM qeu
 simp only[qa9,Bool.not_or,Bool.not_and,Bool.not_not,Bool.and_assoc,Bool.not_eq_eq_eq_not,beq_false]
theorem qgS (v:V):q0f C0 139 [q0j v] (.bool (qeu v)):=by
 refine q04 qhB rfl ?_
 rw[q07]
 (repeat' first|simp (disch:=omega) only[go_sem,qhB,enter,List.length_map,q0d]|(apply spl<;>intro h<;>try simp (disch:=omega) only[go_sem,qhB,enter,List.length_map,q0d,h]))
 all_goals (congr 2; unfold qeu qoj tmZ; simp_all [List.length_pos_iff])
 all_goals grind
end Ago
set_option maxRecDepth 100000
set_option maxHeartbeats 4000000
namespace Ago
open Go (IntKind)
def setMap (l:List (List UInt8)):List (AV × AV):=l.map fun x=>(.str x,.bool true)
theorem qkS (l:List (List UInt8)):qmh (.map (setMap l)):=qeA fun x hx=>by
 unfold setMap at hx
 obtain ⟨y,_,rfl⟩:=List.mem_map.1 hx
 exact ⟨qbs y,qeW true⟩
theorem q8l (k:List UInt8) : ∀ (l:List (List UInt8)) (i:Nat),(l.contains k=false→findKey (.one .str) (.str k) (setMap l) i=some none)∧(l.contains k=true→∃ j,findKey (.one .str) (.str k) (setMap l) i=some (some (j,.bool true)))
 | [],i=>⟨fun _=>rfl,fun h=>by simp at h⟩
 | x::l,i=>by
  obtain ⟨h1,h2⟩:=q8l k l (i+1)
  by_cases he:k=x
  ·subst he
   refine ⟨fun h=>by simp at h,fun _=>⟨i,?_⟩⟩
   simp [setMap,findKey,q4k,q3p]
  ·have e:findKey (.one .str) (.str k) (setMap (x::l)) i=findKey (.one .str) (.str k) (setMap l) (i+1):=by
    have:(k == x)=false:=by simpa using he
    simp [setMap,findKey,q4k,q3p,this]
   rw[e]
   have hc:(x::l).contains k=l.contains k:=by
    have:(k == x)=false:=by simpa using he
    rw[List.contains_cons,this,Bool.false_or]
   rw[hc]
   exact ⟨h1,h2⟩
theorem qi4 (f:List (List UInt8 × V)) (hf:f.length<2^30) (hk : ∀ x,x∈f→x.1.length<2^30):q0f C0 142 [.tsl 14 (f.map q0r)] (.int .i64 (q4q (f.map (·.1)))):=by
 refine q04 qhS rfl ?_
 (repeat' first|simp (disch:=omega) only[go_sem,qhS,enter]|(apply spl<;>intro h<;>try simp (disch:=omega) only[go_sem,qhS,enter,h]))
 refine q08 (α:=Nat) (fun i=>{ tmps:=q0i 28 [(3,.mref 0),(8,.tsl 14 (f.map q0r)),(9,.int .i64 f.length),(10,.int .i64 i)],heap:=[.map (setMap ((f.map (·.1)).take i))],base:=0 })
  (fun i=>i≤f.length∧q4q (f.map (·.1))=q4y ((f.map (·.1)).take i) ((f.map (·.1)).drop i)) (fun i=>f.length-i) 0 (by first | rfl | (simp only[List.length_map]; rfl)) ⟨Nat.zero_le _,rfl⟩ ?_
 rintro i ⟨hi,hm⟩
 by_cases hlt:i<f.length
 ·obtain ⟨x,hx⟩:=q06 hlt
  have hx2:=q09 (g:=q0r) hx
  have hx3:=q09 (g:=fun y:List UInt8 × V=>y.1) hx
  rw[q0D] at hx2
  have hu:=ql5 x.1 (hk x (List.mem_of_getElem? hx))
  rw[q9l hx3] at hm
  unfold qqE at hu
  cases hux:utf x.1 with
  | false=>
   rw[if_pos hux] at hu
   rw[if_pos hux] at hm
   rw[hm]
   (repeat' first|simp (disch:=omega) only[go_sem,hx2,List.length_map]|refine q00 _ (hu) ?_|(apply spl<;>intro h<;>try simp (disch:=omega) only[go_sem,hx2,List.length_map ,h]))
  | true=>
   rw[if_neg (by rw[hux]; simp)] at hu hm
   by_cases h1:1024<x.1.length
   ·rw[if_pos h1] at hm hu
    rw[hm]
    (repeat' first|simp (disch:=omega) only[go_sem,hx2,List.length_map]|refine q00 _ (hu) ?_|(apply spl<;>intro h<;>try simp (disch:=omega) only[go_sem,hx2,List.length_map ,h]))
   ·rw[if_neg h1] at hm hu
    obtain ⟨hf1,hf2⟩:=q8l x.1 ((f.map (·.1)).take i) 0
    cases hc:((f.map (·.1)).take i).contains x.1 with
    | true=>
     obtain ⟨j,hj⟩:=hf2 hc
     rw[if_pos hc] at hm
     rw[hm]
     (repeat' first|simp (disch:=omega) only[go_sem,hx2,List.length_map,hj]|refine q00 _ (hu) ?_|(apply spl<;>intro h<;>try simp (disch:=omega) only[go_sem,hx2,List.length_map,hj ,h]))
    | false=>
     have hj:=hf1 hc
     rw[if_neg (by rw[hc]; simp)] at hm
     (repeat' first|simp (disch:=omega) only[go_sem,hx2,List.length_map,hj]|refine q00 _ (hu) ?_|(apply spl<;>intro h<;>try simp (disch:=omega) only[go_sem,hx2,List.length_map,hj ,h]))
     have e:setMap ((f.map (·.1)).take i)++[(.str x.1,.bool true)]=setMap ((f.map (·.1)).take (i+1)):=by
      rw[List.take_add_one,hx3]
      simp [setMap]
     rw[e]
     exact ⟨i+1,(q5K (.cons (qkS _) (.cons (q7e _ _ _) .nil))).trans rfl,⟨hlt,hm⟩,by omega⟩
 ·have e:q4q (f.map (·.1))=0:=by
   rw[hm,List.drop_of_length_le (by simp; omega)]
   unfold q4y
   rfl
  rw[e]
  (repeat' first|simp (disch:=omega) only[go_sem,List.length_map]|(apply spl<;>intro h<;>try simp (disch:=omega) only[go_sem,List.length_map,h]))
end Ago
set_option maxRecDepth 100000
set_option maxHeartbeats 4000000
namespace Ago
open Go (IntKind)

def Flat (H:Heap):Prop:=∀ j b,H[j]?=some b→∃ n els,b=Blk.row n els false true j
theorem Flat.nil:Flat []:=fun j b h=>by simp at h
theorem Flat.push {H:Heap} (h:Flat H) (n:Nat) (els:List AV):Flat (H++[.row n els false true H.length]):=fun j b hj=>by
 by_cases hlt:j<H.length
 ·rw[List.getElem?_append_left hlt] at hj
  exact h j b hj
 ·rw[List.getElem?_append_right (by omega)] at hj
  have e:j-H.length=0:=by
   have:=(List.getElem?_eq_some_iff.1 hj).1
   simp at this
   omega
  rw[e] at hj
  obtain rfl:j=H.length:=by omega
  cases hj
  exact ⟨n,els,rfl⟩
theorem Flat.push' {H:Heap} {k:Nat} (h:Flat H) (n:Nat) (els:List AV) (hk:k=H.length):Flat (H++[.row n els false true k]):=by
 subst hk
 exact h.push n els
theorem Flat.set {H:Heap} (h:Flat H) (r n:Nat) (els:List AV):Flat (H.set r (.row n els false true r)):=fun j b hj=>by
 rw[List.getElem?_set] at hj
 split at hj
 ·rename_i e
  subst e
  split at hj
  ·cases hj
   exact ⟨n,els,rfl⟩
  ·cases hj
 ·exact h j b hj
theorem q69 (r k:Nat) : ∀ (H:Heap) (i:Nat),(∀ j b,H[j]?=some b→∃ n els,b=Blk.row n els false true (i+j))→q1i r r k H i=some H
 | [],_,_=>rfl
 | b::H,i,h=>by
  have ih:=q69 r k H (i+1) fun j b hj=>by
   obtain ⟨n,els,e⟩:=h (j+1) b (by simpa using hj)
   exact ⟨n,els,by rw[e]; congr 1; omega⟩
  obtain ⟨n,els,rfl⟩:=h 0 b (by simp)
  unfold q1i
  rw[ih]
  simp only[Nat.add_zero]
  rw[if_neg (by omega)]
theorem Flat.strike {H:Heap} (h:Flat H) (r k:Nat):q1i r r k H 0=some H:=q69 r k H 0 fun j b hj=>by
 rw[Nat.zero_add]
 exact h j b hj
theorem Flat.refs {H:Heap} (h:Flat H):H.flatMap Blk.refs=[]:=by
 rw[List.flatMap_eq_nil_iff]
 intro b hb
 obtain ⟨j,hj⟩:=List.getElem?_of_mem hb
 obtain ⟨n,els,rfl⟩:=h j b hj
 rfl
theorem Flat.left {H E:Heap} (h:Flat (H++E)):Flat H:=fun j b hj=>h j b (by
 rw[List.getElem?_append_left (List.getElem?_eq_some_iff.1 hj).1]
 exact hj)

theorem qlT {H l:Heap} {b:Blk} {m:Nat} (h:m=H.length):(H++b::l)[m]?=some b:=by
 subst h
 rw[List.getElem?_append_right (Nat.le_refl _),Nat.sub_self]
 rfl
theorem qqF {H l:Heap} {a b:Blk} {m:Nat} (h:m=H.length+1):(H++a::b::l)[m]?=some b:=by
 subst h
 rw[List.getElem?_append_right (by omega),Nat.add_sub_cancel_left]
 rfl
theorem qrm {H l:Heap} {b x:Blk} {m:Nat} (h:m=H.length):(H++b::l).set m x=H++x::l:=by
 subst h
 rw[List.set_append_right _ _ (Nat.le_refl _),Nat.sub_self]
 rfl
theorem qr4 {H l:Heap} {a b x:Blk} {m:Nat} (h:m=H.length+1):(H++a::b::l).set m x=H++a::x::l:=by
 subst h
 rw[List.set_append_right _ _ (by omega),Nat.add_sub_cancel_left]
 rfl
theorem q4o {H l:Heap} {m:Nat} (h:m<H.length):(H++l)[m]?=H[m]?:=List.getElem?_append_left h
theorem q3B {H l:Heap} {m:Nat} {x:Blk} (h:m<H.length):(H++l).set m x=H.set m x++l:=List.set_append_left _ _ h


theorem q4x (ks:List Nat) : ∀ (E:Heap) (j:Nat),(∀ b,b∈E→∃ n els fam,b=Blk.row n els false true fam)→q1R ks E j=[]
 | [],_,_=>rfl
 | b::E,j,h=>by
  obtain ⟨n,els,fam,rfl⟩:=h b (by simp)
  unfold q1R
  exact q4x ks E (j+1) fun b hb=>h b (by simp [hb])
theorem Flat.mem {H:Heap} (h:Flat H) : ∀ b,b∈H→∃ n els fam,b=Blk.row n els false true fam:=fun b hb=>by
 obtain ⟨j,hj⟩:=List.getElem?_of_mem hb
 obtain ⟨n,els,rfl⟩:=h j b hj
 exact ⟨n,els,j,rfl⟩
theorem q9P {H:Heap} {f:Nat→Option Nat} {g:Nat→Nat} {m:Nat} (hg : ∀ j,j<m→g j=j) : ∀ (H:Heap) (i:Nat),(∀ j b,H[j]?=some b→∃ n els,b=Blk.row n els false true (i+j))→i+H.length≤m→H.map (Blk.ren f g)=H
 | [],_,_,_=>rfl
 | b::H,i,h,hm=>by
  have ih:=q9P (H:=H) (f:=f) hg H (i+1) (fun j b hj=>by
   obtain ⟨n,els,e⟩:=h (j+1) b (by simpa using hj)
   exact ⟨n,els,by rw[e]; congr 1; omega⟩) (by simp at hm; omega)
  obtain ⟨n,els,rfl⟩:=h 0 b (by simp)
  rw[List.map_cons,ih]
  simp only[Blk.ren,if_true,Nat.add_zero]
  rw[hg i (by simp at hm; omega)]

theorem qaH (H:Heap) (base:Nat) : ∀ (k:Nat) (todo seen:List Nat),(∀ r,r∈todo→r<base)→q4u H base k todo seen=seen
 | 0,_,_,_=>rfl
 | _+1,[],_,_=>rfl
 | k+1,r::todo,seen,h=>by
  unfold q4u
  rw[if_pos (h r (by simp))]
  exact qaH H base k todo seen fun x hx=>h x (by simp [hx])

theorem q2n {live:List Nat} {tm:List AV} {H E:Heap} {rb m:Nat} (hm:m=H.length) (hF:Flat (H++E)) {L:List AV} (hL:q32 live 0 tm=L) (hr : ∀ r,r∈L.flatMap (AV.refsN 6)→r<m) (hi:L.map (AV.renN (q3K m []) 6)=L) :
  St.norm live ⟨tm,H++E,m,rb⟩=⟨L,H,m,0⟩:=by
 subst hm
 unfold St.norm St.normTm
 rw[hL]
 have h1:((H++E).take H.length)=H:=by simp
 have h2:((H++E).drop H.length)=E:=by simp
 simp only[h1]
 rw[hF.left.refs,List.append_nil,qaH _ _ _ _ _ hr]
 unfold St.normBy
 simp only[h1,h2,List.map_nil,List.append_nil]
 rw[q4x [] E _ fun b hb=>hF.mem b (by simp [hb])]
 have hc:q31 (q3K H.length []) H=true:=by
  unfold q31
  rw[List.all_eq_true]
  intro b hb
  obtain ⟨n,els,fam,rfl⟩:=hF.left.mem b hb
  rfl
 simp only[hc,qby,q7H,Bool.and_self,q7q]
 rw[hi,q9P (m:=H.length) (H:=H) (fun j hj=>by unfold q80; rw[if_pos hj]) H 0 (fun j b hj=>by rw[Nat.zero_add]; exact hF.left j b hj) (by omega)]

theorem q2c {live:List Nat} {tm:List AV} {H E:Heap} {rb m n:Nat} {els:List AV} (hm:m=H.length) (hF:Flat (H ++ .row n els false true m::E)) {L:List AV} (hL:q32 live 0 tm=L)
  (hr:q4u (H ++ .row n els false true m::E) m 4000 (L.flatMap (AV.refsN 6)) []=[m]) (hi:L.map (AV.renN (q3K m [m]) 6)=L) :
  St.norm live ⟨tm,H ++ .row n els false true m::E,m,rb⟩=⟨L,H++[.row n els false true m],m,0⟩:=by
 subst hm
 unfold St.norm St.normTm
 rw[hL]
 have h1:((H ++ .row n els false true H.length::E).take H.length)=H:=by simp
 have h2:((H ++ .row n els false true H.length::E).drop H.length) = .row n els false true H.length::E:=by simp
 have hFl:Flat H:=hF.left
 simp only[h1]
 rw[hFl.refs,List.append_nil,hr]
 unfold St.normBy
 have h3:(H ++ .row n els false true H.length::E).getD H.length .gone = .row n els false true H.length:=by
  rw[List.getD_eq_getElem?_getD,qlT rfl]
  rfl
 simp only[h1,h2,List.map_cons,List.map_nil,h3]
 rw[q4x [H.length] (.row n els false true H.length::E) _ fun b hb=>hF.mem b (by simp at hb ⊢; exact .inr hb)]
 have hF1:=hFl.push n els
 have hc:q31 (q3K H.length [H.length]) (H++[.row n els false true H.length])=true:=by
  unfold q31
  rw[List.all_eq_true]
  intro b hb
  obtain ⟨n,els,fam,rfl⟩:=hF1.mem b hb
  rfl
 simp only[hc,qby,q7H,Bool.and_self,q7q]
 have hg : ∀ j,j<H.length+1→q80 (H++Blk.row n els false true H.length::E) H.length [H.length] j=j:=fun j hj=>by
  unfold q80
  by_cases hlt:j<H.length
  ·rw[if_pos hlt]
  ·rw[if_neg hlt]
   have:j=H.length:=by omega
   subst this
   rw[List.findIdx_cons,h3]
   simp [Blk.famOf]
 have hren:=q9P (m:=H.length+1) (H:=H) (f:=q3K H.length [H.length]) hg (H++[Blk.row n els false true H.length]) 0 (fun j b hj=>by rw[Nat.zero_add]; exact hF1 j b hj) (by simp)
 rw[hi,hren]
end Ago
set_option maxRecDepth 100000
set_option maxHeartbeats 4000000
namespace Ago
open Go (IntKind)
theorem q10 {g:AV→AV} (hg:g .dead = .dead) (n:Nat) : ∀ (l:List (Nat × AV)),(q0i n l).map g=q0i n (l.map fun x=>(x.1,g x.2)):=by
 intro l
 unfold q0i
 suffices h : ∀ (l:List (Nat × AV)) (s:List AV),(l.foldl (fun s x=>s.set x.1 x.2) s).map g=(l.map fun x=>(x.1,g x.2)).foldl (fun s x=>s.set x.1 x.2) (s.map g) by
  rw[h,List.map_replicate,hg]
 intro l
 induction l with
 | nil=>intro s; rfl
 | cons x l ih=>
  intro s
  rw[List.foldl_cons,ih,List.map_set]
  rfl
def cnt (r:Nat) (n:Int):Blk:=.row 1 [.int .i64 n] false true r
theorem q5I {H E:Heap} {m:Nat} {v:AV} (hm:m=H.length) (hF:Flat (H++E)) (hv:q9Y v):q8D m v (H++E)=⟨[v],H,m,0⟩:=by
 refine q2n hm hF rfl (fun r hr=>?_) ?_
 ·simp only[List.flatMap_cons,List.flatMap_nil,List.append_nil] at hr
  rw[hv.1] at hr
  cases hr
 ·simp only[List.map_cons,List.map_nil]
  rw[hv.2]
def qcr (v:V):Int:=
 if v.s.kind=2∧q0Q v.s.num=false∨v.s.kind=3∧q8X v.s.time=false then 2
 else if v.s.kind=4∧utf v.s.text=false then 5
 else if 65536<v.s.text.length∨65536<v.s.bytes.length then 10
 else q4q (v.f.map (·.1))
theorem qmB {v:V} (h:ownM v=true) (hk:v.s.kind≠2):v.s.num=⟨false,[],0⟩:=by
 unfold ownM qoj at h
 cases hn:v.s.num with
 | mk a b c=>simp_all
theorem qjn {v:V} (h:ownM v=true) (hk:v.s.kind≠4):v.s.text=[]:=by
 unfold ownM at h
 simp_all
theorem qlK:utf []=true:=by decide
theorem qm0 {v:V} (h:ownM v=true):q9x v=qcr v:=by
 unfold q9x qcr
 rw[if_neg (by rw[h]; simp)]
 have h1:q0Q v.s.num=false→v.s.kind=2:=fun hd=>Classical.byContradiction fun hk=>by
  rw[qmB h hk] at hd
  revert hd
  decide
 have h2:utf v.s.text=false→v.s.kind=4:=fun hd=>Classical.byContradiction fun hk=>by
  rw[qjn h hk,qlK] at hd
  cases hd
 have e1:(q0Q v.s.num=false∨v.s.kind=3∧q8X v.s.time=false)↔(v.s.kind=2∧q0Q v.s.num=false∨v.s.kind=3∧q8X v.s.time=false):=
  ⟨fun h=>h.elim (fun h=>.inl ⟨h1 h,h⟩) .inr,fun h=>h.elim (fun h=>.inl h.2) .inr⟩
 have e2:utf v.s.text=false↔(v.s.kind=4∧utf v.s.text=false):=⟨fun h=>⟨h2 h,h⟩,fun h=>h.2⟩
 simp only[e1,←e2]
theorem q1e {m:Nat} {res:List ResV} {v:AV} {H E:Heap} {tm:List AV} {b rb:Nat} {e:Ex} (he:e = .normal∨e = .ret) (hm:m=H.length) (hF:Flat (H++E)) (hv:q9Y v) (hr:results res ⟨tm,H++E,b,rb⟩=some v):qlW m res v H e ⟨tm,H++E,b,rb⟩:=by
 refine q5H he v hr ?_ ?_
 ·rw[q5I hm hF hv]
  rfl
 ·rw[q5I hm hF hv]
def qgz (base:Nat) (res:List ResV) (k:AV→Heap→Prop) (e:Ex) (s:St):Prop:=(e = .normal∨e = .ret)∧∃ u,results res s=some u∧k ((q8D base u s.heap).tmps.getD 0 .dead) (q8D base u s.heap).heap
theorem q7k {C:Ctx} {f:Nat} (fn:AFn) {args:List AV} {H:Heap} {k:AV→Heap→Prop} (hf:C.code f=some fn) (h : @q0Y (enter fn args H) ⟨aw (q1M C) (q0f C) fn.body (qgz H.length fn.res k)⟩) : ∃ v H',q1M C f args H v H'∧k v H':=by
 unfold q0Y at h
 obtain ⟨e,s,h1,he,u,h2,h3⟩:=q22 _ _ _ h
 exact ⟨_,_,.run hf h1 he h2,h3⟩
theorem q2a {m:Nat} {res:List ResV} {k:AV→Heap→Prop} {v:AV} {H E:Heap} {tm:List AV} {b rb:Nat} {e:Ex} (he:e = .normal∨e = .ret) (hm:m=H.length) (hF:Flat (H++E)) (hv:q9Y v) (hr:results res ⟨tm,H++E,b,rb⟩=some v) (hk:k v H):qgz m res k e ⟨tm,H++E,b,rb⟩:=by
 refine ⟨he,v,hr,?_⟩
 rw[q5I hm hF hv]
 exact hk
theorem q44 {m:Nat} {res:List ResV} {k:AV→Heap→Prop} {v:AV} {H:Heap} {tm:List AV} {b rb:Nat} {e:Ex} (he:e = .normal∨e = .ret) (hm:m=H.length) (hF:Flat H) (hv:q9Y v) (hr:results res ⟨tm,H,b,rb⟩=some v) (hk:k v H):qgz m res k e ⟨tm,H,b,rb⟩:=by
 refine ⟨he,v,hr,?_⟩
 have:=q5I (E:=[]) hm (by rw[List.append_nil]; exact hF) hv
 rw[List.append_nil] at this
 rw[this]
 exact hk
theorem q2N {X:Heap} {m r:Nat} (hr:r<m) {n:Nat} {els:List AV} (hX:X[m]?=some (.row n els false true m)) {L:List AV} (hL:L.flatMap (AV.refsN 6)=[r,m]):q4u X m 4000 (L.flatMap (AV.refsN 6)) []=[m]:=by
 rw[hL]
 unfold q4u
 rw[if_pos hr]
 unfold q4u
 rw[if_neg (Nat.lt_irrefl m),if_neg (by simp),hX]
 simp only[Blk.refs,if_true,List.nil_append]
 unfold q4u
 rfl
theorem q12 {m r:Nat} {ks:List Nat} (hr:r<m):q3K m ks r=some r:=by unfold q3K; rw[if_pos hr]
theorem q2R {m:Nat}:q3K m [m] m=some m:=by simp [q3K]
theorem q2S {α:Type} {l:List α} {k:Nat} {x:α} (hx:l[k]?=some x):l.drop k=x::l.drop (k+1):=by
 obtain ⟨h3,h4⟩:=List.getElem?_eq_some_iff.1 hx
 rw[List.drop_eq_getElem_cons h3,h4]
theorem q5E {v:V} (h:ownM v=true) (F:V→Int→Int × Int) (s:Int):q6c F v.kids s=q6c F (v.l++v.f.map (·.2)) s:=by
 unfold ownM at h
 simp only[Bool.and_eq_true,Bool.or_eq_true,beq_iff_eq] at h
 obtain ⟨⟨_,h6⟩,h7⟩:=h
 unfold V.kids
 split
 ·have:v.l=[]:=List.eq_nil_of_length_eq_zero (by omega)
  rw[this,List.nil_append]
 ·have:v.f=[]:=List.eq_nil_of_length_eq_zero (by omega)
  rw[this,List.map_nil,List.append_nil]
theorem qlQ : ∀ (n:Nat) (v:V),v.bulk≤n→n≤2^24→∀ (f:Nat) (d seen:Int),0≤d→49<d+f→d≤49→0<f→0≤seen→seen≤65536→∀ (H:Heap) (r:Nat),Flat H→r<H.length→H[r]?=some (cnt r seen) →
  ∃ s':Int,q1M C0 133 [q0j v,.int .i64 d,.ptr 1 r 0 0] H (.int .i64 (q1x f v d seen).2) (H.set r (cnt r s'))∧((q1x f v d seen).2=0→s'=(q1x f v d seen).1):=by
 intro n
 induction n with
 | zero=>
  intro v hv
  have:1≤v.bulk:=q1b _
  omega
 | succ n ih=>
  intro v hv hn f d seen hd1 hdf hd2 hf0 hs1 hs2 H r hF hr hH
  obtain ⟨f,rfl⟩ : ∃ g,f=g+1:=⟨f-1,by omega⟩
  have L:=V.lens (v:=v) (N:=2^24) (by omega)
  have hll:=L.list
  have hlf:=L.fields
  have h139:=qgS v
  have h140:=q4T v.s.num (by have:=L.digits; omega)
  have h141:=qmZ v.s.time
  have h46:=q76 v.s.text (by have:=L.text; omega)
  have h142:=qi4 v.f (by have:=L.fields; omega) (fun x hx=>by have:=(L.fkids x hx).2; omega)
  have hle:=q07 v
  unfold q11 at h140
  unfold qfi at h141
  rw[q07] at h139 ⊢
  unfold cnt at hH
  unfold cnt
  have hs1' : ∀ els,q1i r r 0 (H++[.row 13 els false true H.length]) 0=some (H++[.row 13 els false true H.length]):=fun els=>(hF.push 13 els).strike r 0
  have hg1 : ∀ l,(H.set r (.row 1 [.int .i64 (seen+1)] false true r)++l)[r]?=some (.row 1 [.int .i64 (seen+1)] false true r):=fun l=>by
   rw[q4o (by simpa using hr),List.getElem?_set_self hr]
  have hp0 : ∀ b l,(H.set r (.row 1 [.int .i64 (seen+1)] false true r)++b::l)[H.length]?=some b:=fun b l=>qlT (by simp)
  have hFb : ∀ els,Flat (H.set r (.row 1 [.int .i64 (seen+1)] false true r)++[.row 13 els false true H.length]):=fun els=>(hF.set r 1 [.int .i64 (seen+1)]).push' (k:=H.length) 13 els (by simp)
  rw[show q1x (f+1) v d seen=if 48<d then (seen,9) else if 65536≤seen then (seen,10) else if q9x v≠0 then (seen,q9x v) else q6c (fun x s=>q1x f x (d+1) s) v.kids (seen+1) from rfl]
  generalize hFF:(fun x s=>q1x f x (d+1) s)=F
  have hp0' : ∀ X b l,(H.set r X++b::l)[H.length]?=some b:=fun X b l=>qlT (by simp)
  have hp1' : ∀ X a b l,(H.set r X++a::b::l)[H.length+1]?=some b:=fun X a b l=>qqF (by simp)
  have hq1' : ∀ X a b c,(H.set r X++[a,b]).set (H.length+1) c=H.set r X++[a,c]:=fun X a b c=>qr4 (by simp)
  have hg1' : ∀ X l,(H.set r X++l)[r]?=some X:=fun X l=>by
   rw[q4o (by simpa using hr),List.getElem?_set_self hr]
  have hF1 : ∀ n els es,Flat (H.set r (.row n es false true r)++[.row 13 els false true H.length]):=fun n els es=>(hF.set r n es).push' (k:=H.length) 13 els (by simp)
  have hF2 : ∀ n els es els',Flat (H.set r (.row n es false true r)++[.row 13 els false true H.length,.row 13 els' false true (H.length+1)]):=fun n els es els'=>by
   have:=(hF1 n els es).push' (k:=H.length+1) 13 els' (by simp)
   rwa [List.append_assoc] at this
  have hs2' : ∀ n els es els',q1i (H.length+1) (H.length+1) 0 (H.set r (.row n es false true r)++[.row 13 els false true H.length,.row 13 els' false true (H.length+1)]) 0=some (H.set r (.row n es false true r)++[.row 13 els false true H.length,.row 13 els' false true (H.length+1)]):=fun n els es els'=>(hF2 n els es els').strike _ _
  have hF3 : ∀ n els es,Flat (H.set r (.row n es false true r)++[.row 14 els false true H.length]):=fun n els es=>(hF.set r n es).push' (k:=H.length) 14 els (by simp)
  have hs3' : ∀ n els es,q1i H.length H.length 0 (H.set r (.row n es false true r)++[.row 14 els false true H.length]) 0=some (H.set r (.row n es false true r)++[.row 14 els false true H.length]):=fun n els es=>(hF3 n els es).strike _ _
  have hq0' : ∀ X a c,(H.set r X++[a]).set H.length c=H.set r X++[c]:=fun X a c=>qrm (by simp)
  have fin : ∀ {X:Int × Int},(∃ w H',q1M C0 133 [q0j v,.int .i64 d,.ptr 1 r 0 0] H w H'∧∃ s':Int,w = .int .i64 X.2∧H'=H.set r (.row 1 [.int .i64 s'] false true r)∧(X.2=0→s'=X.1)) →
    ∃ s':Int,q1M C0 133 [q0j v,.int .i64 d,.ptr 1 r 0 0] H (.int .i64 X.2) (H.set r (.row 1 [.int .i64 s'] false true r))∧(X.2=0→s'=X.1):=fun {X} h=>by
   obtain ⟨w,H',h1,s',rfl,rfl,h2⟩:=h
   exact ⟨s',h1,h2⟩
  rw[hle] at fin
  by_cases g1:48<d
  ·rw[if_pos g1]
   refine ⟨seen+1,q1X q0N rfl ?_,by simp⟩
   (repeat' first|simp (disch:=omega) only[go_sem,q0N,enter,List.length_map,q4o,q3B,hH,hs1',hg1,hp0]|(apply spl<;>intro h<;>try simp (disch:=omega) only[go_sem,q0N,enter,List.length_map,q4o,q3B,hH,hs1',hg1,hp0,h]))
   exact q1e (.inr rfl) (by simp) (hFb _) (q0u _ _) rfl
  ·rw[if_neg g1]
   by_cases g2:65536≤seen
   ·rw[if_pos g2]
    refine ⟨seen+1,q1X q0N rfl ?_,by simp⟩
    (repeat' first|simp (disch:=omega) only[go_sem,q0N,enter,List.length_map,q4o,q3B,hH,hs1',hg1,hp0]|(apply spl<;>intro h<;>try simp (disch:=omega) only[go_sem,q0N,enter,List.length_map,q4o,q3B,hH,hs1',hg1,hp0,h]))
    exact q1e (.inr rfl) (by simp) (hFb _) (q0u _ _) rfl
   ·rw[if_neg g2]
    cases hown:ownM v with
    | false=>
     have e1:q9x v=6:=by unfold q9x; rw[if_pos hown]
     rw[if_pos (by rw[e1]; decide),e1]
     rw[qcp] at hown
     refine ⟨seen+1,q1X q0N rfl ?_,by simp⟩
     (repeat' first|simp (disch:=omega) only[go_sem,q0N,enter,List.length_map,q4o,q3B,hH,hs1',hg1,hp0]|refine q00 _ (h139) ?_|(apply spl<;>intro h<;>try simp (disch:=omega) only[go_sem,q0N,enter,List.length_map,q4o,q3B,hH,hs1',hg1,hp0 ,h]))
     all_goals first | exact q1e (.inr rfl) (by simp) (hFb _) (q0u _ _) rfl | skip
     all_goals (exfalso; simp only[Bool.and_eq_false_iff,decide_eq_false_iff_not,Bool.not_eq_false'] at hown; first | omega | (rcases hown with h | h; omega; simp_all))
    | true=>
     have hown':=hown
     rw[qcp] at hown'
     simp only[Bool.and_eq_true,decide_eq_true_eq,Bool.not_eq_true'] at hown'
     obtain ⟨⟨hk0,hk7⟩,hex⟩:=hown'
     rw[hex] at h139
     rw[qm0 hown]
     by_cases hk2:v.s.kind=2
     ·have hk:=hk2
      cases hb:q0Q v.s.num with
      | false=>
       rw[hb] at h140
       have ho:qcr v=2:=by unfold qcr; rw[hb,if_pos (.inl ⟨hk2,rfl⟩)]
       rw[if_pos (by rw[ho]; decide),ho]
       refine ⟨seen+1,q1X q0N rfl ?_,by simp⟩
       (repeat' first|simp (disch:=omega) only[go_sem,q0N,enter,List.length_map,q4o,q3B,hH,hs1',hg1,hp0]|refine q00 _ (h139) ?_|refine q00 _ (h140) ?_|(apply spl<;>intro h<;>try simp (disch:=omega) only[go_sem,q0N,enter,List.length_map,q4o,q3B,hH,hs1',hg1,hp0 ,h]))
       exact q1e (.inr rfl) (by simp) (hFb _) (q0u _ _) rfl
      | true=>
       rw[hb] at h140
       have ho:qcr v=(if 65536<v.s.text.length∨65536<v.s.bytes.length then 10 else q4q (v.f.map (·.1))):=by unfold qcr; rw[hb,if_neg (by rw[hk2]; simp),if_neg (by rw[hk2]; simp)]
       rw[ho]
       by_cases hsz:65536<v.s.text.length∨65536<v.s.bytes.length
       ·rw[if_pos hsz,if_pos (by decide)]
        refine ⟨seen+1,q1X q0N rfl ?_,by simp⟩
        (repeat' first|simp (disch:=omega) only[go_sem,q0N,enter,List.length_map,q0d,q4o,q3B,hH,hs1',hg1,hp0]|refine q00 _ (h139) ?_|refine q00 _ (h140) ?_|refine q00 _ (h141) ?_|refine q00 _ (h46) ?_|refine q00 _ (h142) ?_|(apply spl<;>intro h<;>try simp (disch:=omega) only[go_sem,q0N,enter,List.length_map,q0d,q4o,q3B,hH,hs1',hg1,hp0 ,h]))
        all_goals first | omega | exact q1e (.inr rfl) (by simp) (hFb _) (q0u _ _) rfl
       ·rw[if_neg hsz]
        by_cases hkey:q4q (v.f.map (·.1))=0
        ·rw[hkey] at h142
         rw[if_neg (by rw[hkey]; simp),q5E hown]
         refine fin (q7k q0N rfl ?_)
         (repeat' first|simp (disch:=omega) only[go_sem,q0N,enter,List.length_map,q0d,q4o,q3B,hH,hs1',hg1,hp0]|refine q00 _ (h139) ?_|refine q00 _ (h140) ?_|refine q00 _ (h141) ?_|refine q00 _ (h46) ?_|refine q00 _ (h142) ?_|(apply spl<;>intro h<;>try simp (disch:=omega) only[go_sem,q0N,enter,List.length_map,q0d,q4o,q3B,hH,hs1',hg1,hp0 ,h]))
         all_goals try omega
         refine q08 (α:=Nat × Int) (fun a=>{ tmps:=q0i 121 [(1,.int .i64 d),(2,.ptr 1 r 0 0),(3,.ptr 13 H.length 0 0),(89,.tsl 13 (v.l.map q0j)),(90,.int .i64 v.l.length),(91,.int .i64 a.1)],heap:=H.set r (.row 1 [.int .i64 a.2] false true r)++[.row 13 [q0j v] false true H.length],base:=H.length })
          (fun a=>a.1≤v.l.length∧q6c F (v.l++v.f.map (·.2)) (seen+1)=q6c F (v.l.drop a.1++v.f.map (·.2)) a.2∧0≤a.2∧a.2≤65536) (fun a=>v.l.length-a.1) (0,seen+1)
          (by rw[hle]; exact q2c (by simp) (hFb _) rfl (q2N hr (hp0 _ _) rfl) (by (try rw[q10 rfl]); simp only[List.map_cons,List.map_nil,AV.renN,q12 hr,q2R])) ⟨Nat.zero_le _,rfl,by simp only; omega,by simp only; omega⟩ ?_
         rintro ⟨k,sn⟩ ⟨hk1,hm,hs3,hs4⟩
         simp only at hk1 hm hs3 hs4
         rw[hle]
         by_cases hlt:k<v.l.length
         ·obtain ⟨x,hx⟩:=q06 hlt
          have hxm:=List.mem_of_getElem? hx
          have hx2:=q09 (g:=q0j) hx
          rw[q2S hx,List.cons_append,q1Q] at hm
          have hxk:=L.kids x hxm
          obtain ⟨s',hr1,hr2⟩:=ih x (by omega) (by omega) f (d+1) sn (by omega) (by omega) (by omega) (by omega) (by omega) (by omega) (H.set r (.row 1 [.int .i64 sn] false true r)++[.row 13 [q0j v] false true H.length,.row 13 [q0j x] false true (H.length+1)]) r (hF2 _ _ _ _) (by simp; omega) (hg1' _ _)
          have hrg:=q1j f x (d+1) sn hs3 hs4
          rw[q3B (by simpa using hr),List.set_set] at hr1
          unfold cnt at hr1
          have hFx:F x sn=q1x f x (d+1) sn:=by rw[←hFF]
          rw[hFx] at hm
          generalize q1x f x (d+1) sn=R at hr1 hr2 hm hrg
          rw[q07 x] at hx2 hr1
          rw[hle] at hr1
          by_cases he:R.2=0
          ·rw[if_pos he] at hm
           rw[he] at hr1
           have hs':=hr2 he
           (repeat' first|simp (disch:=omega) only[go_sem,hx2,List.length_map,List.append_assoc,List.length_append,List.length_set,hg1',hp0',hp1',hq1',hs2']|(refine q0l _ _ hr1 ?_)|(apply spl<;>intro h<;>try simp (disch:=omega) only[go_sem,hx2,List.length_map,List.append_assoc,List.length_append,List.length_set,hg1',hp0',hp1',hq1',hs2' ,h]))
           refine ⟨(k+1,R.1),?_,⟨hlt,hm,hrg.1,hrg.2⟩,by simp only; omega⟩
           rw[hs']
           exact q2c (by simp) (hF2 _ _ _ _) rfl (q2N hr (hp0' _ _ _) rfl) (by (try rw[q10 rfl]); simp only[List.map_cons,List.map_nil,AV.renN,q12 hr,q2R])
          ·rw[if_neg he] at hm
           rw[hm]
           (repeat' first|simp (disch:=omega) only[go_sem,hx2,he,List.length_map,List.append_assoc,List.length_append,List.length_set,hg1',hp0',hp1',hq1',hs2']|(refine q0l _ _ hr1 ?_)|(apply spl<;>intro h<;>try simp (disch:=omega) only[go_sem,hx2,he,List.length_map,List.append_assoc,List.length_append,List.length_set,hg1',hp0',hp1',hq1',hs2' ,h]))
           exact q2a (.inr rfl) (by simp) (hF2 _ _ _ _) (q0u _ _) rfl ⟨_,rfl,rfl,by simp [he]⟩
         ·rw[List.drop_of_length_le (by omega),List.nil_append] at hm
          (repeat' first|simp (disch:=omega) only[go_sem,List.length_map,hp0']|(apply spl<;>intro h<;>try simp (disch:=omega) only[go_sem,List.length_map,hp0',h]))
          refine q08 (α:=Nat × Int) (fun a=>{ tmps:=q0i 121 [(1,.int .i64 d),(2,.ptr 1 r 0 0),(105,.tsl 14 (v.f.map q0r)),(106,.int .i64 v.f.length),(107,.int .i64 a.1)],heap:=H.set r (.row 1 [.int .i64 a.2] false true r),base:=H.length })
           (fun a=>a.1≤v.f.length∧q6c F (v.l++v.f.map (·.2)) (seen+1)=q6c F ((v.f.map (·.2)).drop a.1) a.2∧0≤a.2∧a.2≤65536) (fun a=>v.f.length-a.1) (0,sn)
           (q2n (by simp) (hF1 _ _ _) rfl (fun q hq=>by have:q=r:=(List.mem_singleton.1 (show q∈[r] from hq)); omega) (by (try rw[q10 rfl]); simp only[List.map_cons,List.map_nil,AV.renN,q12 hr])) ⟨Nat.zero_le _,hm,hs3,hs4⟩ ?_
          clear hm hlt hk1 hs3 hs4
          rintro ⟨k,sn⟩ ⟨hk1,hm,hs3,hs4⟩
          simp only at hk1 hm hs3 hs4
          by_cases hlt:k<v.f.length
          ·obtain ⟨x,hx⟩:=q06 hlt
           have hxm:=List.mem_of_getElem? hx
           have hx2:=q09 (g:=q0r) hx
           have hx3:=q09 (g:=fun y:List UInt8 × V=>y.2) hx
           rw[q2S hx3,q1Q] at hm
           have hxk:=(L.fkids x hxm).1
           obtain ⟨s',hr1,hr2⟩:=ih x.2 (by omega) (by omega) f (d+1) sn (by omega) (by omega) (by omega) (by omega) (by omega) (by omega) (H.set r (.row 1 [.int .i64 sn] false true r)++[.row 14 [q0r x] false true H.length]) r (hF3 _ _ _) (by simp; omega) (hg1' _ _)
           have hrg:=q1j f x.2 (d+1) sn hs3 hs4
           rw[q3B (by simpa using hr),List.set_set] at hr1
           unfold cnt at hr1
           have hFx:F x.2 sn=q1x f x.2 (d+1) sn:=by rw[←hFF]
           rw[hFx] at hm
           generalize q1x f x.2 (d+1) sn=R at hr1 hr2 hm hrg
           rw[q0D] at hx2 hr1
           rw[q07 x.2] at hr1
           by_cases he:R.2=0
           ·rw[if_pos he] at hm
            rw[he] at hr1
            have hs':=hr2 he
            (repeat' first|simp (disch:=omega) only[go_sem,hx2,List.length_map,List.append_assoc,List.length_append,List.length_set,hg1',hp0',hq0',hs3']|(refine q0l _ _ hr1 ?_)|(apply spl<;>intro h<;>try simp (disch:=omega) only[go_sem,hx2,List.length_map,List.append_assoc,List.length_append,List.length_set,hg1',hp0',hq0',hs3' ,h]))
            refine ⟨(k+1,R.1),?_,⟨hlt,hm,hrg.1,hrg.2⟩,by simp only; omega⟩
            rw[hs']
            exact q2n (by simp) (hF3 _ _ _) rfl (fun q hq=>by have:q=r:=(List.mem_singleton.1 (show q∈[r] from hq)); omega) (by (try rw[q10 rfl]); simp only[List.map_cons,List.map_nil,AV.renN,q12 hr])
           ·rw[if_neg he] at hm
            rw[hm]
            (repeat' first|simp (disch:=omega) only[go_sem,hx2,he,List.length_map,List.append_assoc,List.length_append,List.length_set,hg1',hp0',hq0',hs3']|(refine q0l _ _ hr1 ?_)|(apply spl<;>intro h<;>try simp (disch:=omega) only[go_sem,hx2,he,List.length_map,List.append_assoc,List.length_append,List.length_set,hg1',hp0',hq0',hs3' ,h]))
            exact q2a (.inr rfl) (by simp) (hF3 _ _ _) (q0u _ _) rfl ⟨_,rfl,rfl,by simp [he]⟩
          ·rw[List.drop_of_length_le (by simp; omega)] at hm
           rw[hm]
           (repeat' first|simp (disch:=omega) only[go_sem,List.length_map]|(apply spl<;>intro h<;>try simp (disch:=omega) only[go_sem,List.length_map,h]))
           exact q44 (.inr rfl) (by simp) (hF.set r _ _) (q0u _ _) rfl ⟨_,rfl,rfl,fun _=>rfl⟩
        ·rw[if_pos hkey]
         refine ⟨seen+1,q1X q0N rfl ?_,fun h=>absurd h hkey⟩
         (repeat' first|simp (disch:=omega) only[go_sem,q0N,enter,List.length_map,q0d,q4o,q3B,hH,hs1',hg1,hp0]|refine q00 _ (h139) ?_|refine q00 _ (h140) ?_|refine q00 _ (h141) ?_|refine q00 _ (h46) ?_|refine q00 _ (h142) ?_|(apply spl<;>intro h<;>try simp (disch:=omega) only[go_sem,q0N,enter,List.length_map,q0d,q4o,q3B,hH,hs1',hg1,hp0 ,h]))
         all_goals first | omega | exact q1e (.inr rfl) (by simp) (hFb _) (q0u _ _) rfl
     ·by_cases hk3:v.s.kind=3
      ·have hk:=hk3
       cases hb:q8X v.s.time with
       | false=>
        rw[hb] at h141
        have ho:qcr v=2:=by unfold qcr; rw[hb,if_pos (.inr ⟨hk3,rfl⟩)]
        rw[if_pos (by rw[ho]; decide),ho]
        refine ⟨seen+1,q1X q0N rfl ?_,by simp⟩
        (repeat' first|simp (disch:=omega) only[go_sem,q0N,enter,List.length_map,q4o,q3B,hH,hs1',hg1,hp0]|refine q00 _ (h139) ?_|refine q00 _ (h141) ?_|(apply spl<;>intro h<;>try simp (disch:=omega) only[go_sem,q0N,enter,List.length_map,q4o,q3B,hH,hs1',hg1,hp0 ,h]))
        exact q1e (.inr rfl) (by simp) (hFb _) (q0u _ _) rfl
       | true=>
        rw[hb] at h141
        have ho:qcr v=(if 65536<v.s.text.length∨65536<v.s.bytes.length then 10 else q4q (v.f.map (·.1))):=by unfold qcr; rw[hb,if_neg (by rw[hk3]; simp),if_neg (by rw[hk3]; simp)]
        rw[ho]
        by_cases hsz:65536<v.s.text.length∨65536<v.s.bytes.length
        ·rw[if_pos hsz,if_pos (by decide)]
         refine ⟨seen+1,q1X q0N rfl ?_,by simp⟩
         (repeat' first|simp (disch:=omega) only[go_sem,q0N,enter,List.length_map,q0d,q4o,q3B,hH,hs1',hg1,hp0]|refine q00 _ (h139) ?_|refine q00 _ (h140) ?_|refine q00 _ (h141) ?_|refine q00 _ (h46) ?_|refine q00 _ (h142) ?_|(apply spl<;>intro h<;>try simp (disch:=omega) only[go_sem,q0N,enter,List.length_map,q0d,q4o,q3B,hH,hs1',hg1,hp0 ,h]))
         all_goals first | omega | exact q1e (.inr rfl) (by simp) (hFb _) (q0u _ _) rfl
        ·rw[if_neg hsz]
         by_cases hkey:q4q (v.f.map (·.1))=0
         ·rw[hkey] at h142
          rw[if_neg (by rw[hkey]; simp),q5E hown]
          refine fin (q7k q0N rfl ?_)
          (repeat' first|simp (disch:=omega) only[go_sem,q0N,enter,List.length_map,q0d,q4o,q3B,hH,hs1',hg1,hp0]|refine q00 _ (h139) ?_|refine q00 _ (h140) ?_|refine q00 _ (h141) ?_|refine q00 _ (h46) ?_|refine q00 _ (h142) ?_|(apply spl<;>intro h<;>try simp (disch:=omega) only[go_sem,q0N,enter,List.length_map,q0d,q4o,q3B,hH,hs1',hg1,hp0 ,h]))
          all_goals try omega
          refine q08 (α:=Nat × Int) (fun a=>{ tmps:=q0i 121 [(1,.int .i64 d),(2,.ptr 1 r 0 0),(3,.ptr 13 H.length 0 0),(89,.tsl 13 (v.l.map q0j)),(90,.int .i64 v.l.length),(91,.int .i64 a.1)],heap:=H.set r (.row 1 [.int .i64 a.2] false true r)++[.row 13 [q0j v] false true H.length],base:=H.length })
           (fun a=>a.1≤v.l.length∧q6c F (v.l++v.f.map (·.2)) (seen+1)=q6c F (v.l.drop a.1++v.f.map (·.2)) a.2∧0≤a.2∧a.2≤65536) (fun a=>v.l.length-a.1) (0,seen+1)
           (by rw[hle]; exact q2c (by simp) (hFb _) rfl (q2N hr (hp0 _ _) rfl) (by (try rw[q10 rfl]); simp only[List.map_cons,List.map_nil,AV.renN,q12 hr,q2R])) ⟨Nat.zero_le _,rfl,by simp only; omega,by simp only; omega⟩ ?_
          rintro ⟨k,sn⟩ ⟨hk1,hm,hs3,hs4⟩
          simp only at hk1 hm hs3 hs4
          rw[hle]
          by_cases hlt:k<v.l.length
          ·obtain ⟨x,hx⟩:=q06 hlt
           have hxm:=List.mem_of_getElem? hx
           have hx2:=q09 (g:=q0j) hx
           rw[q2S hx,List.cons_append,q1Q] at hm
           have hxk:=L.kids x hxm
           obtain ⟨s',hr1,hr2⟩:=ih x (by omega) (by omega) f (d+1) sn (by omega) (by omega) (by omega) (by omega) (by omega) (by omega) (H.set r (.row 1 [.int .i64 sn] false true r)++[.row 13 [q0j v] false true H.length,.row 13 [q0j x] false true (H.length+1)]) r (hF2 _ _ _ _) (by simp; omega) (hg1' _ _)
           have hrg:=q1j f x (d+1) sn hs3 hs4
           rw[q3B (by simpa using hr),List.set_set] at hr1
           unfold cnt at hr1
           have hFx:F x sn=q1x f x (d+1) sn:=by rw[←hFF]
           rw[hFx] at hm
           generalize q1x f x (d+1) sn=R at hr1 hr2 hm hrg
           rw[q07 x] at hx2 hr1
           rw[hle] at hr1
           by_cases he:R.2=0
           ·rw[if_pos he] at hm
            rw[he] at hr1
            have hs':=hr2 he
            (repeat' first|simp (disch:=omega) only[go_sem,hx2,List.length_map,List.append_assoc,List.length_append,List.length_set,hg1',hp0',hp1',hq1',hs2']|(refine q0l _ _ hr1 ?_)|(apply spl<;>intro h<;>try simp (disch:=omega) only[go_sem,hx2,List.length_map,List.append_assoc,List.length_append,List.length_set,hg1',hp0',hp1',hq1',hs2' ,h]))
            refine ⟨(k+1,R.1),?_,⟨hlt,hm,hrg.1,hrg.2⟩,by simp only; omega⟩
            rw[hs']
            exact q2c (by simp) (hF2 _ _ _ _) rfl (q2N hr (hp0' _ _ _) rfl) (by (try rw[q10 rfl]); simp only[List.map_cons,List.map_nil,AV.renN,q12 hr,q2R])
           ·rw[if_neg he] at hm
            rw[hm]
            (repeat' first|simp (disch:=omega) only[go_sem,hx2,he,List.length_map,List.append_assoc,List.length_append,List.length_set,hg1',hp0',hp1',hq1',hs2']|(refine q0l _ _ hr1 ?_)|(apply spl<;>intro h<;>try simp (disch:=omega) only[go_sem,hx2,he,List.length_map,List.append_assoc,List.length_append,List.length_set,hg1',hp0',hp1',hq1',hs2' ,h]))
            exact q2a (.inr rfl) (by simp) (hF2 _ _ _ _) (q0u _ _) rfl ⟨_,rfl,rfl,by simp [he]⟩
          ·rw[List.drop_of_length_le (by omega),List.nil_append] at hm
           (repeat' first|simp (disch:=omega) only[go_sem,List.length_map,hp0']|(apply spl<;>intro h<;>try simp (disch:=omega) only[go_sem,List.length_map,hp0',h]))
           refine q08 (α:=Nat × Int) (fun a=>{ tmps:=q0i 121 [(1,.int .i64 d),(2,.ptr 1 r 0 0),(105,.tsl 14 (v.f.map q0r)),(106,.int .i64 v.f.length),(107,.int .i64 a.1)],heap:=H.set r (.row 1 [.int .i64 a.2] false true r),base:=H.length })
            (fun a=>a.1≤v.f.length∧q6c F (v.l++v.f.map (·.2)) (seen+1)=q6c F ((v.f.map (·.2)).drop a.1) a.2∧0≤a.2∧a.2≤65536) (fun a=>v.f.length-a.1) (0,sn)
            (q2n (by simp) (hF1 _ _ _) rfl (fun q hq=>by have:q=r:=(List.mem_singleton.1 (show q∈[r] from hq)); omega) (by (try rw[q10 rfl]); simp only[List.map_cons,List.map_nil,AV.renN,q12 hr])) ⟨Nat.zero_le _,hm,hs3,hs4⟩ ?_
           clear hm hlt hk1 hs3 hs4
           rintro ⟨k,sn⟩ ⟨hk1,hm,hs3,hs4⟩
           simp only at hk1 hm hs3 hs4
           by_cases hlt:k<v.f.length
           ·obtain ⟨x,hx⟩:=q06 hlt
            have hxm:=List.mem_of_getElem? hx
            have hx2:=q09 (g:=q0r) hx
            have hx3:=q09 (g:=fun y:List UInt8 × V=>y.2) hx
            rw[q2S hx3,q1Q] at hm
            have hxk:=(L.fkids x hxm).1
            obtain ⟨s',hr1,hr2⟩:=ih x.2 (by omega) (by omega) f (d+1) sn (by omega) (by omega) (by omega) (by omega) (by omega) (by omega) (H.set r (.row 1 [.int .i64 sn] false true r)++[.row 14 [q0r x] false true H.length]) r (hF3 _ _ _) (by simp; omega) (hg1' _ _)
            have hrg:=q1j f x.2 (d+1) sn hs3 hs4
            rw[q3B (by simpa using hr),List.set_set] at hr1
            unfold cnt at hr1
            have hFx:F x.2 sn=q1x f x.2 (d+1) sn:=by rw[←hFF]
            rw[hFx] at hm
            generalize q1x f x.2 (d+1) sn=R at hr1 hr2 hm hrg
            rw[q0D] at hx2 hr1
            rw[q07 x.2] at hr1
            by_cases he:R.2=0
            ·rw[if_pos he] at hm
             rw[he] at hr1
             have hs':=hr2 he
             (repeat' first|simp (disch:=omega) only[go_sem,hx2,List.length_map,List.append_assoc,List.length_append,List.length_set,hg1',hp0',hq0',hs3']|(refine q0l _ _ hr1 ?_)|(apply spl<;>intro h<;>try simp (disch:=omega) only[go_sem,hx2,List.length_map,List.append_assoc,List.length_append,List.length_set,hg1',hp0',hq0',hs3' ,h]))
             refine ⟨(k+1,R.1),?_,⟨hlt,hm,hrg.1,hrg.2⟩,by simp only; omega⟩
             rw[hs']
             exact q2n (by simp) (hF3 _ _ _) rfl (fun q hq=>by have:q=r:=(List.mem_singleton.1 (show q∈[r] from hq)); omega) (by (try rw[q10 rfl]); simp only[List.map_cons,List.map_nil,AV.renN,q12 hr])
            ·rw[if_neg he] at hm
             rw[hm]
             (repeat' first|simp (disch:=omega) only[go_sem,hx2,he,List.length_map,List.append_assoc,List.length_append,List.length_set,hg1',hp0',hq0',hs3']|(refine q0l _ _ hr1 ?_)|(apply spl<;>intro h<;>try simp (disch:=omega) only[go_sem,hx2,he,List.length_map,List.append_assoc,List.length_append,List.length_set,hg1',hp0',hq0',hs3' ,h]))
             exact q2a (.inr rfl) (by simp) (hF3 _ _ _) (q0u _ _) rfl ⟨_,rfl,rfl,by simp [he]⟩
           ·rw[List.drop_of_length_le (by simp; omega)] at hm
            rw[hm]
            (repeat' first|simp (disch:=omega) only[go_sem,List.length_map]|(apply spl<;>intro h<;>try simp (disch:=omega) only[go_sem,List.length_map,h]))
            exact q44 (.inr rfl) (by simp) (hF.set r _ _) (q0u _ _) rfl ⟨_,rfl,rfl,fun _=>rfl⟩
         ·rw[if_pos hkey]
          refine ⟨seen+1,q1X q0N rfl ?_,fun h=>absurd h hkey⟩
          (repeat' first|simp (disch:=omega) only[go_sem,q0N,enter,List.length_map,q0d,q4o,q3B,hH,hs1',hg1,hp0]|refine q00 _ (h139) ?_|refine q00 _ (h140) ?_|refine q00 _ (h141) ?_|refine q00 _ (h46) ?_|refine q00 _ (h142) ?_|(apply spl<;>intro h<;>try simp (disch:=omega) only[go_sem,q0N,enter,List.length_map,q0d,q4o,q3B,hH,hs1',hg1,hp0 ,h]))
          all_goals first | omega | exact q1e (.inr rfl) (by simp) (hFb _) (q0u _ _) rfl
      ·by_cases hk4:v.s.kind=4
       ·have hk:=hk4
        cases hb:utf v.s.text with
        | false=>
         rw[hb] at h46
         have ho:qcr v=5:=by unfold qcr; rw[if_neg (by rw[hk4]; simp),hb,if_pos ⟨hk4,rfl⟩]
         rw[if_pos (by rw[ho]; decide),ho]
         refine ⟨seen+1,q1X q0N rfl ?_,by simp⟩
         (repeat' first|simp (disch:=omega) only[go_sem,q0N,enter,List.length_map,q4o,q3B,hH,hs1',hg1,hp0]|refine q00 _ (h139) ?_|refine q00 _ (h46) ?_|(apply spl<;>intro h<;>try simp (disch:=omega) only[go_sem,q0N,enter,List.length_map,q4o,q3B,hH,hs1',hg1,hp0 ,h]))
         exact q1e (.inr rfl) (by simp) (hFb _) (q0u _ _) rfl
        | true=>
         rw[hb] at h46
         have ho:qcr v=(if 65536<v.s.text.length∨65536<v.s.bytes.length then 10 else q4q (v.f.map (·.1))):=by unfold qcr; rw[hb,if_neg (by rw[hk4]; simp),if_neg (by rw[hk4]; simp)]
         rw[ho]
         by_cases hsz:65536<v.s.text.length∨65536<v.s.bytes.length
         ·rw[if_pos hsz,if_pos (by decide)]
          refine ⟨seen+1,q1X q0N rfl ?_,by simp⟩
          (repeat' first|simp (disch:=omega) only[go_sem,q0N,enter,List.length_map,q0d,q4o,q3B,hH,hs1',hg1,hp0]|refine q00 _ (h139) ?_|refine q00 _ (h140) ?_|refine q00 _ (h141) ?_|refine q00 _ (h46) ?_|refine q00 _ (h142) ?_|(apply spl<;>intro h<;>try simp (disch:=omega) only[go_sem,q0N,enter,List.length_map,q0d,q4o,q3B,hH,hs1',hg1,hp0 ,h]))
          all_goals first | omega | exact q1e (.inr rfl) (by simp) (hFb _) (q0u _ _) rfl
         ·rw[if_neg hsz]
          by_cases hkey:q4q (v.f.map (·.1))=0
          ·rw[hkey] at h142
           rw[if_neg (by rw[hkey]; simp),q5E hown]
           refine fin (q7k q0N rfl ?_)
           (repeat' first|simp (disch:=omega) only[go_sem,q0N,enter,List.length_map,q0d,q4o,q3B,hH,hs1',hg1,hp0]|refine q00 _ (h139) ?_|refine q00 _ (h140) ?_|refine q00 _ (h141) ?_|refine q00 _ (h46) ?_|refine q00 _ (h142) ?_|(apply spl<;>intro h<;>try simp (disch:=omega) only[go_sem,q0N,enter,List.length_map,q0d,q4o,q3B,hH,hs1',hg1,hp0 ,h]))
           all_goals try omega
           refine q08 (α:=Nat × Int) (fun a=>{ tmps:=q0i 121 [(1,.int .i64 d),(2,.ptr 1 r 0 0),(3,.ptr 13 H.length 0 0),(89,.tsl 13 (v.l.map q0j)),(90,.int .i64 v.l.length),(91,.int .i64 a.1)],heap:=H.set r (.row 1 [.int .i64 a.2] false true r)++[.row 13 [q0j v] false true H.length],base:=H.length })
            (fun a=>a.1≤v.l.length∧q6c F (v.l++v.f.map (·.2)) (seen+1)=q6c F (v.l.drop a.1++v.f.map (·.2)) a.2∧0≤a.2∧a.2≤65536) (fun a=>v.l.length-a.1) (0,seen+1)
            (by rw[hle]; exact q2c (by simp) (hFb _) rfl (q2N hr (hp0 _ _) rfl) (by (try rw[q10 rfl]); simp only[List.map_cons,List.map_nil,AV.renN,q12 hr,q2R])) ⟨Nat.zero_le _,rfl,by simp only; omega,by simp only; omega⟩ ?_
           rintro ⟨k,sn⟩ ⟨hk1,hm,hs3,hs4⟩
           simp only at hk1 hm hs3 hs4
           rw[hle]
           by_cases hlt:k<v.l.length
           ·obtain ⟨x,hx⟩:=q06 hlt
            have hxm:=List.mem_of_getElem? hx
            have hx2:=q09 (g:=q0j) hx
            rw[q2S hx,List.cons_append,q1Q] at hm
            have hxk:=L.kids x hxm
            obtain ⟨s',hr1,hr2⟩:=ih x (by omega) (by omega) f (d+1) sn (by omega) (by omega) (by omega) (by omega) (by omega) (by omega) (H.set r (.row 1 [.int .i64 sn] false true r)++[.row 13 [q0j v] false true H.length,.row 13 [q0j x] false true (H.length+1)]) r (hF2 _ _ _ _) (by simp; omega) (hg1' _ _)
            have hrg:=q1j f x (d+1) sn hs3 hs4
            rw[q3B (by simpa using hr),List.set_set] at hr1
            unfold cnt at hr1
            have hFx:F x sn=q1x f x (d+1) sn:=by rw[←hFF]
            rw[hFx] at hm
            generalize q1x f x (d+1) sn=R at hr1 hr2 hm hrg
            rw[q07 x] at hx2 hr1
            rw[hle] at hr1
            by_cases he:R.2=0
            ·rw[if_pos he] at hm
             rw[he] at hr1
             have hs':=hr2 he
             (repeat' first|simp (disch:=omega) only[go_sem,hx2,List.length_map,List.append_assoc,List.length_append,List.length_set,hg1',hp0',hp1',hq1',hs2']|(refine q0l _ _ hr1 ?_)|(apply spl<;>intro h<;>try simp (disch:=omega) only[go_sem,hx2,List.length_map,List.append_assoc,List.length_append,List.length_set,hg1',hp0',hp1',hq1',hs2' ,h]))
             refine ⟨(k+1,R.1),?_,⟨hlt,hm,hrg.1,hrg.2⟩,by simp only; omega⟩
             rw[hs']
             exact q2c (by simp) (hF2 _ _ _ _) rfl (q2N hr (hp0' _ _ _) rfl) (by (try rw[q10 rfl]); simp only[List.map_cons,List.map_nil,AV.renN,q12 hr,q2R])
            ·rw[if_neg he] at hm
             rw[hm]
             (repeat' first|simp (disch:=omega) only[go_sem,hx2,he,List.length_map,List.append_assoc,List.length_append,List.length_set,hg1',hp0',hp1',hq1',hs2']|(refine q0l _ _ hr1 ?_)|(apply spl<;>intro h<;>try simp (disch:=omega) only[go_sem,hx2,he,List.length_map,List.append_assoc,List.length_append,List.length_set,hg1',hp0',hp1',hq1',hs2' ,h]))
             exact q2a (.inr rfl) (by simp) (hF2 _ _ _ _) (q0u _ _) rfl ⟨_,rfl,rfl,by simp [he]⟩
           ·rw[List.drop_of_length_le (by omega),List.nil_append] at hm
            (repeat' first|simp (disch:=omega) only[go_sem,List.length_map,hp0']|(apply spl<;>intro h<;>try simp (disch:=omega) only[go_sem,List.length_map,hp0',h]))
            refine q08 (α:=Nat × Int) (fun a=>{ tmps:=q0i 121 [(1,.int .i64 d),(2,.ptr 1 r 0 0),(105,.tsl 14 (v.f.map q0r)),(106,.int .i64 v.f.length),(107,.int .i64 a.1)],heap:=H.set r (.row 1 [.int .i64 a.2] false true r),base:=H.length })
             (fun a=>a.1≤v.f.length∧q6c F (v.l++v.f.map (·.2)) (seen+1)=q6c F ((v.f.map (·.2)).drop a.1) a.2∧0≤a.2∧a.2≤65536) (fun a=>v.f.length-a.1) (0,sn)
             (q2n (by simp) (hF1 _ _ _) rfl (fun q hq=>by have:q=r:=(List.mem_singleton.1 (show q∈[r] from hq)); omega) (by (try rw[q10 rfl]); simp only[List.map_cons,List.map_nil,AV.renN,q12 hr])) ⟨Nat.zero_le _,hm,hs3,hs4⟩ ?_
            clear hm hlt hk1 hs3 hs4
            rintro ⟨k,sn⟩ ⟨hk1,hm,hs3,hs4⟩
            simp only at hk1 hm hs3 hs4
            by_cases hlt:k<v.f.length
            ·obtain ⟨x,hx⟩:=q06 hlt
             have hxm:=List.mem_of_getElem? hx
             have hx2:=q09 (g:=q0r) hx
             have hx3:=q09 (g:=fun y:List UInt8 × V=>y.2) hx
             rw[q2S hx3,q1Q] at hm
             have hxk:=(L.fkids x hxm).1
             obtain ⟨s',hr1,hr2⟩:=ih x.2 (by omega) (by omega) f (d+1) sn (by omega) (by omega) (by omega) (by omega) (by omega) (by omega) (H.set r (.row 1 [.int .i64 sn] false true r)++[.row 14 [q0r x] false true H.length]) r (hF3 _ _ _) (by simp; omega) (hg1' _ _)
             have hrg:=q1j f x.2 (d+1) sn hs3 hs4
             rw[q3B (by simpa using hr),List.set_set] at hr1
             unfold cnt at hr1
             have hFx:F x.2 sn=q1x f x.2 (d+1) sn:=by rw[←hFF]
             rw[hFx] at hm
             generalize q1x f x.2 (d+1) sn=R at hr1 hr2 hm hrg
             rw[q0D] at hx2 hr1
             rw[q07 x.2] at hr1
             by_cases he:R.2=0
             ·rw[if_pos he] at hm
              rw[he] at hr1
              have hs':=hr2 he
              (repeat' first|simp (disch:=omega) only[go_sem,hx2,List.length_map,List.append_assoc,List.length_append,List.length_set,hg1',hp0',hq0',hs3']|(refine q0l _ _ hr1 ?_)|(apply spl<;>intro h<;>try simp (disch:=omega) only[go_sem,hx2,List.length_map,List.append_assoc,List.length_append,List.length_set,hg1',hp0',hq0',hs3' ,h]))
              refine ⟨(k+1,R.1),?_,⟨hlt,hm,hrg.1,hrg.2⟩,by simp only; omega⟩
              rw[hs']
              exact q2n (by simp) (hF3 _ _ _) rfl (fun q hq=>by have:q=r:=(List.mem_singleton.1 (show q∈[r] from hq)); omega) (by (try rw[q10 rfl]); simp only[List.map_cons,List.map_nil,AV.renN,q12 hr])
             ·rw[if_neg he] at hm
              rw[hm]
              (repeat' first|simp (disch:=omega) only[go_sem,hx2,he,List.length_map,List.append_assoc,List.length_append,List.length_set,hg1',hp0',hq0',hs3']|(refine q0l _ _ hr1 ?_)|(apply spl<;>intro h<;>try simp (disch:=omega) only[go_sem,hx2,he,List.length_map,List.append_assoc,List.length_append,List.length_set,hg1',hp0',hq0',hs3' ,h]))
              exact q2a (.inr rfl) (by simp) (hF3 _ _ _) (q0u _ _) rfl ⟨_,rfl,rfl,by simp [he]⟩
            ·rw[List.drop_of_length_le (by simp; omega)] at hm
             rw[hm]
             (repeat' first|simp (disch:=omega) only[go_sem,List.length_map]|(apply spl<;>intro h<;>try simp (disch:=omega) only[go_sem,List.length_map,h]))
             exact q44 (.inr rfl) (by simp) (hF.set r _ _) (q0u _ _) rfl ⟨_,rfl,rfl,fun _=>rfl⟩
          ·rw[if_pos hkey]
           refine ⟨seen+1,q1X q0N rfl ?_,fun h=>absurd h hkey⟩
           (repeat' first|simp (disch:=omega) only[go_sem,q0N,enter,List.length_map,q0d,q4o,q3B,hH,hs1',hg1,hp0]|refine q00 _ (h139) ?_|refine q00 _ (h140) ?_|refine q00 _ (h141) ?_|refine q00 _ (h46) ?_|refine q00 _ (h142) ?_|(apply spl<;>intro h<;>try simp (disch:=omega) only[go_sem,q0N,enter,List.length_map,q0d,q4o,q3B,hH,hs1',hg1,hp0 ,h]))
           all_goals first | omega | exact q1e (.inr rfl) (by simp) (hFb _) (q0u _ _) rfl
       ·have hk:True:=trivial
        have ho:qcr v=(if 65536<v.s.text.length∨65536<v.s.bytes.length then 10 else q4q (v.f.map (·.1))):=by unfold qcr; rw[if_neg (by simp [hk2,hk3]),if_neg (by simp [hk4])]
        rw[ho]
        by_cases hsz:65536<v.s.text.length∨65536<v.s.bytes.length
        ·rw[if_pos hsz,if_pos (by decide)]
         refine ⟨seen+1,q1X q0N rfl ?_,by simp⟩
         (repeat' first|simp (disch:=omega) only[go_sem,q0N,enter,List.length_map,q0d,q4o,q3B,hH,hs1',hg1,hp0]|refine q00 _ (h139) ?_|refine q00 _ (h140) ?_|refine q00 _ (h141) ?_|refine q00 _ (h46) ?_|refine q00 _ (h142) ?_|(apply spl<;>intro h<;>try simp (disch:=omega) only[go_sem,q0N,enter,List.length_map,q0d,q4o,q3B,hH,hs1',hg1,hp0 ,h]))
         all_goals first | omega | exact q1e (.inr rfl) (by simp) (hFb _) (q0u _ _) rfl
        ·rw[if_neg hsz]
         by_cases hkey:q4q (v.f.map (·.1))=0
         ·rw[hkey] at h142
          rw[if_neg (by rw[hkey]; simp),q5E hown]
          refine fin (q7k q0N rfl ?_)
          (repeat' first|simp (disch:=omega) only[go_sem,q0N,enter,List.length_map,q0d,q4o,q3B,hH,hs1',hg1,hp0]|refine q00 _ (h139) ?_|refine q00 _ (h140) ?_|refine q00 _ (h141) ?_|refine q00 _ (h46) ?_|refine q00 _ (h142) ?_|(apply spl<;>intro h<;>try simp (disch:=omega) only[go_sem,q0N,enter,List.length_map,q0d,q4o,q3B,hH,hs1',hg1,hp0 ,h]))
          all_goals try omega
          refine q08 (α:=Nat × Int) (fun a=>{ tmps:=q0i 121 [(1,.int .i64 d),(2,.ptr 1 r 0 0),(3,.ptr 13 H.length 0 0),(89,.tsl 13 (v.l.map q0j)),(90,.int .i64 v.l.length),(91,.int .i64 a.1)],heap:=H.set r (.row 1 [.int .i64 a.2] false true r)++[.row 13 [q0j v] false true H.length],base:=H.length })
           (fun a=>a.1≤v.l.length∧q6c F (v.l++v.f.map (·.2)) (seen+1)=q6c F (v.l.drop a.1++v.f.map (·.2)) a.2∧0≤a.2∧a.2≤65536) (fun a=>v.l.length-a.1) (0,seen+1)
           (by rw[hle]; exact q2c (by simp) (hFb _) rfl (q2N hr (hp0 _ _) rfl) (by (try rw[q10 rfl]); simp only[List.map_cons,List.map_nil,AV.renN,q12 hr,q2R])) ⟨Nat.zero_le _,rfl,by simp only; omega,by simp only; omega⟩ ?_
          rintro ⟨k,sn⟩ ⟨hk1,hm,hs3,hs4⟩
          simp only at hk1 hm hs3 hs4
          rw[hle]
          by_cases hlt:k<v.l.length
          ·obtain ⟨x,hx⟩:=q06 hlt
           have hxm:=List.mem_of_getElem? hx
           have hx2:=q09 (g:=q0j) hx
           rw[q2S hx,List.cons_append,q1Q] at hm
           have hxk:=L.kids x hxm
           obtain ⟨s',hr1,hr2⟩:=ih x (by omega) (by omega) f (d+1) sn (by omega) (by omega) (by omega) (by omega) (by omega) (by omega) (H.set r (.row 1 [.int .i64 sn] false true r)++[.row 13 [q0j v] false true H.length,.row 13 [q0j x] false true (H.length+1)]) r (hF2 _ _ _ _) (by simp; omega) (hg1' _ _)
           have hrg:=q1j f x (d+1) sn hs3 hs4
           rw[q3B (by simpa using hr),List.set_set] at hr1
           unfold cnt at hr1
           have hFx:F x sn=q1x f x (d+1) sn:=by rw[←hFF]
           rw[hFx] at hm
           generalize q1x f x (d+1) sn=R at hr1 hr2 hm hrg
           rw[q07 x] at hx2 hr1
           rw[hle] at hr1
           by_cases he:R.2=0
           ·rw[if_pos he] at hm
            rw[he] at hr1
            have hs':=hr2 he
            (repeat' first|simp (disch:=omega) only[go_sem,hx2,List.length_map,List.append_assoc,List.length_append,List.length_set,hg1',hp0',hp1',hq1',hs2']|(refine q0l _ _ hr1 ?_)|(apply spl<;>intro h<;>try simp (disch:=omega) only[go_sem,hx2,List.length_map,List.append_assoc,List.length_append,List.length_set,hg1',hp0',hp1',hq1',hs2' ,h]))
            refine ⟨(k+1,R.1),?_,⟨hlt,hm,hrg.1,hrg.2⟩,by simp only; omega⟩
            rw[hs']
            exact q2c (by simp) (hF2 _ _ _ _) rfl (q2N hr (hp0' _ _ _) rfl) (by (try rw[q10 rfl]); simp only[List.map_cons,List.map_nil,AV.renN,q12 hr,q2R])
           ·rw[if_neg he] at hm
            rw[hm]
            (repeat' first|simp (disch:=omega) only[go_sem,hx2,he,List.length_map,List.append_assoc,List.length_append,List.length_set,hg1',hp0',hp1',hq1',hs2']|(refine q0l _ _ hr1 ?_)|(apply spl<;>intro h<;>try simp (disch:=omega) only[go_sem,hx2,he,List.length_map,List.append_assoc,List.length_append,List.length_set,hg1',hp0',hp1',hq1',hs2' ,h]))
            exact q2a (.inr rfl) (by simp) (hF2 _ _ _ _) (q0u _ _) rfl ⟨_,rfl,rfl,by simp [he]⟩
          ·rw[List.drop_of_length_le (by omega),List.nil_append] at hm
           (repeat' first|simp (disch:=omega) only[go_sem,List.length_map,hp0']|(apply spl<;>intro h<;>try simp (disch:=omega) only[go_sem,List.length_map,hp0',h]))
           refine q08 (α:=Nat × Int) (fun a=>{ tmps:=q0i 121 [(1,.int .i64 d),(2,.ptr 1 r 0 0),(105,.tsl 14 (v.f.map q0r)),(106,.int .i64 v.f.length),(107,.int .i64 a.1)],heap:=H.set r (.row 1 [.int .i64 a.2] false true r),base:=H.length })
            (fun a=>a.1≤v.f.length∧q6c F (v.l++v.f.map (·.2)) (seen+1)=q6c F ((v.f.map (·.2)).drop a.1) a.2∧0≤a.2∧a.2≤65536) (fun a=>v.f.length-a.1) (0,sn)
            (q2n (by simp) (hF1 _ _ _) rfl (fun q hq=>by have:q=r:=(List.mem_singleton.1 (show q∈[r] from hq)); omega) (by (try rw[q10 rfl]); simp only[List.map_cons,List.map_nil,AV.renN,q12 hr])) ⟨Nat.zero_le _,hm,hs3,hs4⟩ ?_
           clear hm hlt hk1 hs3 hs4
           rintro ⟨k,sn⟩ ⟨hk1,hm,hs3,hs4⟩
           simp only at hk1 hm hs3 hs4
           by_cases hlt:k<v.f.length
           ·obtain ⟨x,hx⟩:=q06 hlt
            have hxm:=List.mem_of_getElem? hx
            have hx2:=q09 (g:=q0r) hx
            have hx3:=q09 (g:=fun y:List UInt8 × V=>y.2) hx
            rw[q2S hx3,q1Q] at hm
            have hxk:=(L.fkids x hxm).1
            obtain ⟨s',hr1,hr2⟩:=ih x.2 (by omega) (by omega) f (d+1) sn (by omega) (by omega) (by omega) (by omega) (by omega) (by omega) (H.set r (.row 1 [.int .i64 sn] false true r)++[.row 14 [q0r x] false true H.length]) r (hF3 _ _ _) (by simp; omega) (hg1' _ _)
            have hrg:=q1j f x.2 (d+1) sn hs3 hs4
            rw[q3B (by simpa using hr),List.set_set] at hr1
            unfold cnt at hr1
            have hFx:F x.2 sn=q1x f x.2 (d+1) sn:=by rw[←hFF]
            rw[hFx] at hm
            generalize q1x f x.2 (d+1) sn=R at hr1 hr2 hm hrg
            rw[q0D] at hx2 hr1
            rw[q07 x.2] at hr1
            by_cases he:R.2=0
            ·rw[if_pos he] at hm
             rw[he] at hr1
             have hs':=hr2 he
             (repeat' first|simp (disch:=omega) only[go_sem,hx2,List.length_map,List.append_assoc,List.length_append,List.length_set,hg1',hp0',hq0',hs3']|(refine q0l _ _ hr1 ?_)|(apply spl<;>intro h<;>try simp (disch:=omega) only[go_sem,hx2,List.length_map,List.append_assoc,List.length_append,List.length_set,hg1',hp0',hq0',hs3' ,h]))
             refine ⟨(k+1,R.1),?_,⟨hlt,hm,hrg.1,hrg.2⟩,by simp only; omega⟩
             rw[hs']
             exact q2n (by simp) (hF3 _ _ _) rfl (fun q hq=>by have:q=r:=(List.mem_singleton.1 (show q∈[r] from hq)); omega) (by (try rw[q10 rfl]); simp only[List.map_cons,List.map_nil,AV.renN,q12 hr])
            ·rw[if_neg he] at hm
             rw[hm]
             (repeat' first|simp (disch:=omega) only[go_sem,hx2,he,List.length_map,List.append_assoc,List.length_append,List.length_set,hg1',hp0',hq0',hs3']|(refine q0l _ _ hr1 ?_)|(apply spl<;>intro h<;>try simp (disch:=omega) only[go_sem,hx2,he,List.length_map,List.append_assoc,List.length_append,List.length_set,hg1',hp0',hq0',hs3' ,h]))
             exact q2a (.inr rfl) (by simp) (hF3 _ _ _) (q0u _ _) rfl ⟨_,rfl,rfl,by simp [he]⟩
           ·rw[List.drop_of_length_le (by simp; omega)] at hm
            rw[hm]
            (repeat' first|simp (disch:=omega) only[go_sem,List.length_map]|(apply spl<;>intro h<;>try simp (disch:=omega) only[go_sem,List.length_map,h]))
            exact q44 (.inr rfl) (by simp) (hF.set r _ _) (q0u _ _) rfl ⟨_,rfl,rfl,fun _=>rfl⟩
         ·rw[if_pos hkey]
          refine ⟨seen+1,q1X q0N rfl ?_,fun h=>absurd h hkey⟩
          (repeat' first|simp (disch:=omega) only[go_sem,q0N,enter,List.length_map,q0d,q4o,q3B,hH,hs1',hg1,hp0]|refine q00 _ (h139) ?_|refine q00 _ (h140) ?_|refine q00 _ (h141) ?_|refine q00 _ (h46) ?_|refine q00 _ (h142) ?_|(apply spl<;>intro h<;>try simp (disch:=omega) only[go_sem,q0N,enter,List.length_map,q0d,q4o,q3B,hH,hs1',hg1,hp0 ,h]))
          all_goals first | omega | exact q1e (.inr rfl) (by simp) (hFb _) (q0u _ _) rfl
end Ago
set_option maxRecDepth 100000
set_option maxHeartbeats 4000000
namespace Ago
open Go (IntKind)
theorem q8Z (v:V) (hv:v.bulk≤2^24):q0f C0 126 [q0j v] (.int .i64 (q3q v)):=by
 have hF:Flat [.row 13 [q0j v] false true 0,.row 1 [.int .i64 0] false true 1]:=(Flat.nil.push' 13 [q0j v] (k:=0) rfl).push' 1 [.int .i64 0] (k:=1) rfl
 obtain ⟨s',h,_⟩:=qlQ _ v (Nat.le_refl _) hv 49 1 0 (by omega) (by omega) (by omega) (by omega) (by omega) (by omega) _ 1 hF (by simp) rfl
 refine q04 qhb rfl ?_
 unfold q3q
 generalize (q1x 49 v 1 0).2=e at h ⊢
 rw[q07] at h ⊢
 (repeat' first|simp (disch:=omega) only[go_sem,qhb,enter]|(refine q0l _ _ h ?_)|(apply spl<;>intro h<;>try simp (disch:=omega) only[go_sem,qhb,enter ,h]))
 all_goals rfl
end Ago
set_option maxRecDepth 100000
set_option maxHeartbeats 4000000
namespace Ago
open Go (IntKind)
attribute [go_sem] List.length_map q0d
end Ago
set_option maxRecDepth 100000
set_option maxHeartbeats 4000000
namespace Ago
open Go (IntKind)
def qaG:Nat→V→V
 | 0,v=>.mk v.s [] []
 | n+1,v=>.mk v.s (v.l.map (qaG n)) (v.f.map fun x=>(x.1,qaG n x.2))
def q8G (n:Nat) (v:V):AV:=q0j (qaG n v)
def qft (n:Nat) (x:List UInt8 × V):AV:=q0r (x.1,qaG n x.2)
theorem qkF (v:V):q0j (qaG 0 v) = .agg [.int .i64 v.s.kind,.bool v.s.bool,.bool v.s.num.neg,.str v.s.num.digits,.int .i64 v.s.num.exp,.int .i64 v.s.time.kind,.int .i64 v.s.time.day,.int .i64 v.s.time.nano,.int .i64 v.s.time.off,.str v.s.text,.tsl 1 (q7D v.s.bytes),.tsl 13 [],.tsl 14 []]:=by
 rw[q07]
 rfl
theorem qdO (n:Nat) (v:V):q0j (qaG (n+1) v) = .agg [.int .i64 v.s.kind,.bool v.s.bool,.bool v.s.num.neg,.str v.s.num.digits,.int .i64 v.s.num.exp,.int .i64 v.s.time.kind,.int .i64 v.s.time.day,.int .i64 v.s.time.nano,.int .i64 v.s.time.off,.str v.s.text,.tsl 1 (q7D v.s.bytes),.tsl 13 (v.l.map (q8G n)),.tsl 14 (v.f.map (qft n))]:=by
 rw[q07]
 simp only[qaG,V.s,V.l,V.f,List.map_map]
 rfl
theorem q8A (n:Nat) (v:V):q8G n v = .agg [.int .i64 v.s.kind,.bool v.s.bool,.bool v.s.num.neg,.str v.s.num.digits,.int .i64 v.s.num.exp,.int .i64 v.s.time.kind,.int .i64 v.s.time.day,.int .i64 v.s.time.nano,.int .i64 v.s.time.off,.str v.s.text,.tsl 1 (q7D v.s.bytes),.tsl 13 ((qaG n v).l.map q0j),.tsl 14 ((qaG n v).f.map q0r)]:=by
 unfold q8G
 rw[q07]
 cases n<;>rfl
theorem qgu (n:Nat) (x:List UInt8 × V):qft n x = .agg [.str x.1,.int .i64 x.2.s.kind,.bool x.2.s.bool,.bool x.2.s.num.neg,.str x.2.s.num.digits,.int .i64 x.2.s.num.exp,.int .i64 x.2.s.time.kind,.int .i64 x.2.s.time.day,.int .i64 x.2.s.time.nano,.int .i64 x.2.s.time.off,.str x.2.s.text,.tsl 1 (q7D x.2.s.bytes),.tsl 13 ((qaG n x.2).l.map q0j),.tsl 14 ((qaG n x.2).f.map q0r)]:=by
 unfold qft
 rw[q0D]
 cases n<;>rfl
theorem qn1 : ∀ (n:Nat) (v:V),v.bulk≤2^24→∀ (left:Int),left=n→left<2^30→q0f C0 45 [q0j v,.int .i64 left] (q0j (qaG n v)):=by
 intro n
 induction n with
 | zero=>
  intro v hv left hl1 hl2
  have L:=V.lens hv
  have hcl:=qll (code:=code) (clR:=clR) (clP:=clP) (f:=62) rfl (q7D v.s.bytes) (by have:=L.bytes; rw[q0d]; unfold lim; omega) (by have:=L.bytes; rw[q0d]; omega)
  refine q04 qnv rfl ?_
  rw[qkF,q07]
  simp (disch:=omega) only[go_sem,qnv,enter]
  refine q00 _ hcl ?_
  (repeat' first|simp (disch:=omega) only[go_sem]|(apply spl<;>intro h<;>try simp (disch:=omega) only[go_sem,h]))
  all_goals first | omega | rfl | skip
 | succ n ih=>
  intro v hv left hl1 hl2
  have L:=V.lens hv
  have hcl:=qll (code:=code) (clR:=clR) (clP:=clP) (f:=62) rfl (q7D v.s.bytes) (by have:=L.bytes; rw[q0d]; unfold lim; omega) (by have:=L.bytes; rw[q0d]; omega)
  refine q04 qnv rfl ?_
  rw[qdO,q07]
  have hle:=q07 v
  simp (disch:=omega) only[go_sem,qnv,enter]
  refine q00 _ hcl ?_
  (repeat' first|simp (disch:=omega) only[go_sem]|(apply spl<;>intro h<;>try simp (disch:=omega) only[go_sem,h]))
  all_goals try omega
  refine q08 (α:=Nat × List AV) (fun a=>{ tmps:=q0i 59 [(1,.int .i64 left),(2,.ptr 13 0 0 0),(4,.ptr 13 1 0 0),(5,q0x 13 2 a.2),(21,.tsl 13 (v.l.map q0j)),(22,.int .i64 v.l.length),(23,.int .i64 a.1)],heap:=[.row 13 [q0j v] false true 0,.row 13 [q2G] false true 1]++q0y 13 2 a.2,base:=0 }) (fun a=>a.1≤v.l.length∧a.2=(v.l.take a.1).map (q8G n)) (fun a=>v.l.length-a.1) (0,[]) (by rw[q07]; rfl) (by simp) ?_
  rintro ⟨k,els⟩ ⟨hk1,hels⟩
  simp only at hk1 hels
  rw[q07]
  by_cases hlt:k<v.l.length
  ·obtain ⟨x,hx⟩:=q06 hlt
   have hxm:=List.mem_of_getElem? hx
   have hx2:=q09 (g:=q0j) hx
   have hr:=ih x (by have:=L.kids x hxm; omega) (left-1) (by omega) (by omega)
   have hnew:els++[q8G n x]=(v.l.take (k+1)).map (q8G n):=by rw[hels,List.take_add_one,hx]; simp
   have hr2:q0f C0 45 [q0j x,.int .i64 (left-1)] (q8G n x):=hr
   rw[q8A] at hnew
   rw[q07,q8A] at hr2
   rw[q07] at hx2
   have hlen:els.length=k:=by rw[hels]; simp; omega
   have hll:=L.list
   cases els with
   | nil=>
    (repeat' first|simp (disch:=omega) only[go_sem,hx2,List.length_map,q0x,q0y,q2G]|refine q00 _ (hr2) ?_|(apply spl<;>intro h<;>try simp (disch:=omega) only[go_sem,hx2,List.length_map,q0x,q0y,q2G ,h]))
    refine ⟨(k+1,(v.l.take (k+1)).map (q8G n)),?_,⟨hlt,rfl⟩,by simp only; omega⟩
    simp only[←hnew,hle]
    rfl
   | cons y els=>
    simp only[List.length_cons] at hlen
    (repeat' first|simp (disch:=omega) only[go_sem,hx2,List.length_map,q0x,q0y,q2G]|refine q00 _ (hr2) ?_|(apply spl<;>intro h<;>try simp (disch:=omega) only[go_sem,hx2,List.length_map,q0x,q0y,q2G ,h]))
    refine ⟨(k+1,(v.l.take (k+1)).map (q8G n)),?_,⟨hlt,rfl⟩,by simp only; omega⟩
    simp only[←hnew,hle,List.cons_append,q0x,q0y,List.length_append,List.length_cons,List.length_nil]
    rfl
  ·rw[q0C hlt hk1] at hels
   cases els with
   | nil=>
    (repeat' first|simp (disch:=omega) only[go_sem,q0x,q0y,q2G]|(apply spl<;>intro h<;>try simp (disch:=omega) only[go_sem,q0x,q0y,q2G,h]))
    refine q08 (α:=Nat × List AV) (fun a=>{ tmps:=q0i 59 [(1,.int .i64 left),(2,.ptr 13 0 0 0),(4,.ptr 13 1 0 0),(5,.snil 13),(8,q0x 14 2 a.2),(36,.tsl 14 (v.f.map q0r)),(37,.int .i64 v.f.length),(38,.int .i64 a.1)],heap:=[.row 13 [q0j v] false true 0,.row 13 [q2G] false true 1]++q0y 14 2 a.2,base:=0 }) (fun a=>a.1≤v.f.length∧a.2=(v.f.take a.1).map (qft n)) (fun a=>v.f.length-a.1) (0,[]) (by rw[q07]; rfl) (by simp) ?_
    clear hk1 hlt
    rintro ⟨k,fs⟩ ⟨hk1,hels2⟩
    simp only at hk1 hels2
    rw[q07]
    by_cases hlt:k<v.f.length
    ·obtain ⟨x,hx⟩:=q06 hlt
     have hxm:=List.mem_of_getElem? hx
     have hx2:=q09 (g:=q0r) hx
     have hr:=ih x.2 (by have:=(L.fkids x hxm).1; omega) (left-1) (by omega) (by omega)
     have hnew:fs++[qft n x]=(v.f.take (k+1)).map (qft n):=by rw[hels2,List.take_add_one,hx]; simp
     rw[qgu] at hnew
     rw[q0D] at hx2
     have hr2:q0f C0 45 [q0j x.2,.int .i64 (left-1)] (q8G n x.2):=hr
     rw[q07,q8A] at hr2
     have hlen:fs.length=k:=by rw[hels2]; simp; omega
     have hll:=L.fields
     cases fs with
     | nil=>
      (repeat' first|simp (disch:=omega) only[go_sem,hx2,q0x,q0y,q2G]|refine q00 _ (hr2) ?_|(apply spl<;>intro h<;>try simp (disch:=omega) only[go_sem,hx2,q0x,q0y,q2G ,h]))
      refine ⟨(k+1,(v.f.take (k+1)).map (qft n)),?_,⟨hlt,rfl⟩,by simp only; omega⟩
      simp only[←hnew,hle]
      rfl
     | cons z fs=>
      simp only[List.length_cons] at hlen
      (repeat' first|simp (disch:=omega) only[go_sem,hx2,q0x,q0y,q2G]|refine q00 _ (hr2) ?_|(apply spl<;>intro h<;>try simp (disch:=omega) only[go_sem,hx2,q0x,q0y,q2G ,h]))
      refine ⟨(k+1,(v.f.take (k+1)).map (qft n)),?_,⟨hlt,rfl⟩,by simp only; omega⟩
      simp only[←hnew,hle,List.cons_append,q0x,q0y,List.length_append,List.length_cons,List.length_nil]
      rfl
    ·rw[q0C hlt hk1] at hels2
     rw[←hels,←hels2]
     cases fs with
     | nil=>(repeat' first|simp (disch:=omega) only[go_sem,q0x,q0y,q2G,List.take_length]|(apply spl<;>intro h<;>try simp (disch:=omega) only[go_sem,q0x,q0y,q2G,List.take_length,h]))
     | cons z fs=>(repeat' first|simp (disch:=omega) only[go_sem,q0x,q0y,q2G,List.take_length]|(apply spl<;>intro h<;>try simp (disch:=omega) only[go_sem,q0x,q0y,q2G,List.take_length,h]))
   | cons y els=>
    (repeat' first|simp (disch:=omega) only[go_sem,q0x,q0y,q2G]|(apply spl<;>intro h<;>try simp (disch:=omega) only[go_sem,q0x,q0y,q2G,h]))
    refine q08 (α:=Nat × List AV) (fun a=>{ tmps:=q0i 59 [(1,.int .i64 left),(2,.ptr 13 0 0 0),(4,.ptr 13 1 0 0),(5,.sref 13 2 0 (els.length+1)),(8,q0x 14 3 a.2),(36,.tsl 14 (v.f.map q0r)),(37,.int .i64 v.f.length),(38,.int .i64 a.1)],heap:=[.row 13 [q0j v] false true 0,.row 13 [q2G] false true 1,.row 13 (y::els) false true 2]++q0y 14 3 a.2,base:=0 }) (fun a=>a.1≤v.f.length∧a.2=(v.f.take a.1).map (qft n)) (fun a=>v.f.length-a.1) (0,[]) (by rw[q07]; rfl) (by simp) ?_
    clear hk1 hlt
    rintro ⟨k,fs⟩ ⟨hk1,hels2⟩
    simp only at hk1 hels2
    rw[q07]
    by_cases hlt:k<v.f.length
    ·obtain ⟨x,hx⟩:=q06 hlt
     have hxm:=List.mem_of_getElem? hx
     have hx2:=q09 (g:=q0r) hx
     have hr:=ih x.2 (by have:=(L.fkids x hxm).1; omega) (left-1) (by omega) (by omega)
     have hnew:fs++[qft n x]=(v.f.take (k+1)).map (qft n):=by rw[hels2,List.take_add_one,hx]; simp
     rw[qgu] at hnew
     rw[q0D] at hx2
     have hr2:q0f C0 45 [q0j x.2,.int .i64 (left-1)] (q8G n x.2):=hr
     rw[q07,q8A] at hr2
     have hlen:fs.length=k:=by rw[hels2]; simp; omega
     have hll:=L.fields
     cases fs with
     | nil=>
      (repeat' first|simp (disch:=omega) only[go_sem,hx2,q0x,q0y,q2G]|refine q00 _ (hr2) ?_|(apply spl<;>intro h<;>try simp (disch:=omega) only[go_sem,hx2,q0x,q0y,q2G ,h]))
      refine ⟨(k+1,(v.f.take (k+1)).map (qft n)),?_,⟨hlt,rfl⟩,by simp only; omega⟩
      simp only[←hnew,hle]
      rfl
     | cons z fs=>
      simp only[List.length_cons] at hlen
      (repeat' first|simp (disch:=omega) only[go_sem,hx2,q0x,q0y,q2G]|refine q00 _ (hr2) ?_|(apply spl<;>intro h<;>try simp (disch:=omega) only[go_sem,hx2,q0x,q0y,q2G ,h]))
      refine ⟨(k+1,(v.f.take (k+1)).map (qft n)),?_,⟨hlt,rfl⟩,by simp only; omega⟩
      simp only[←hnew,hle,List.cons_append,q0x,q0y,List.length_append,List.length_cons,List.length_nil]
      rfl
    ·rw[q0C hlt hk1] at hels2
     rw[←hels,←hels2]
     cases fs with
     | nil=>(repeat' first|simp (disch:=omega) only[go_sem,q0x,q0y,q2G,List.take_length]|(apply spl<;>intro h<;>try simp (disch:=omega) only[go_sem,q0x,q0y,q2G,List.take_length,h]))
     | cons z fs=>(repeat' first|simp (disch:=omega) only[go_sem,q0x,q0y,q2G,List.take_length]|(apply spl<;>intro h<;>try simp (disch:=omega) only[go_sem,q0x,q0y,q2G,List.take_length,h]))
theorem qd1 (v:V) (hv:v.bulk≤2^24):q0f C0 26 [q0j v] (q0j (qaG 65536 v)):=by
 have hr:=qn1 65536 v hv 65536 rfl (by omega)
 have e : ∃ l f,q0j (qaG 65536 v) = .agg [.int .i64 v.s.kind,.bool v.s.bool,.bool v.s.num.neg,.str v.s.num.digits,.int .i64 v.s.num.exp,.int .i64 v.s.time.kind,.int .i64 v.s.time.day,.int .i64 v.s.time.nano,.int .i64 v.s.time.off,.str v.s.text,.tsl 1 (q7D v.s.bytes),.tsl 13 l,.tsl 14 f]:=⟨_,_,qdO 65535 v⟩
 obtain ⟨l,f,e⟩:=e
 rw[e] at hr ⊢
 refine q04 qpb rfl ?_
 rw[q07] at hr ⊢
 (repeat' first|simp (disch:=omega) only[go_sem,qpb,enter]|refine q00 _ (hr) ?_|(apply spl<;>intro h<;>try simp (disch:=omega) only[go_sem,qpb,enter ,h]))
end Ago
set_option maxRecDepth 100000
set_option maxHeartbeats 4000000
namespace Ago
open Go (IntKind)
attribute [go_sem] List.length_map q0d
end Ago
set_option maxRecDepth 100000
set_option maxHeartbeats 4000000
namespace Ago
open Go (IntKind)
theorem qbP : ∀ (n:Nat) (v:V),v.bulk≤n→n≤2^24→q0f C0 29 [q0j v,q0j v] (.bool true):=by
 intro n
 induction n with
 | zero=>
  intro v hv
  have:1≤v.bulk:=q1b _
  omega
 | succ n ih=>
  intro v hv hn
  have L:=V.lens (v:=v) (N:=2^24) (by omega)
  have hb:=q5J v.s.bytes
  refine q04 qoU rfl ?_
  rw[q07 v]
  (repeat' first|simp (disch:=omega) only[go_sem,qoU,enter,hb,bne_self_eq_false]|(apply spl<;>intro h<;>try simp (disch:=omega) only[go_sem,qoU,enter,hb,bne_self_eq_false,h]))
  refine q08 (α:=Nat) (fun k=>{ tmps:=q0i 122 [(2,.ptr 13 0 0 0),(3,.ptr 13 1 0 0),(5,.int .i64 k)],heap:=[.row 13 [q0j v] false true 0,.row 13 [q0j v] false true 1],base:=0 }) (fun k=>k≤v.l.length) (fun k=>v.l.length-k) 0 (by rw[q07]; rfl) (Nat.zero_le _) ?_
  rintro k hk1
  rw[q07 v]
  have hll:=L.list
  have hlf:=L.fields
  by_cases hlt:k<v.l.length
  ·obtain ⟨x,hx⟩:=q06 hlt
   have hx2:=q09 (g:=q0j) hx
   have hr:=ih x (by have:=L.kids x (List.mem_of_getElem? hx); omega) (by omega)
   rw[q07 x] at hx2 hr
   (repeat' first|simp (disch:=omega) only[go_sem,hx2]|refine q00 _ (hr) ?_|(apply spl<;>intro h<;>try simp (disch:=omega) only[go_sem,hx2 ,h]))
   exact ⟨k+1,rfl,hlt,by omega⟩
  ·(repeat' first|simp (disch:=omega) only[go_sem]|(apply spl<;>intro h<;>try simp (disch:=omega) only[go_sem,h]))
   refine q08 (α:=Nat) (fun k=>{ tmps:=q0i 122 [(2,.ptr 13 0 0 0),(3,.ptr 13 1 0 0),(6,.int .i64 k)],heap:=[.row 13 [q0j v] false true 0,.row 13 [q0j v] false true 1],base:=0 }) (fun k=>k≤v.f.length) (fun k=>v.f.length-k) 0 (by rw[q07]; rfl) (Nat.zero_le _) ?_
   clear hk1 hlt
   rintro k hk1
   rw[q07 v]
   by_cases hlt:k<v.f.length
   ·obtain ⟨x,hx⟩:=q06 hlt
    have hx2:=q09 (g:=q0r) hx
    have hr:=ih x.2 (by have:=(L.fkids x (List.mem_of_getElem? hx)).1; omega) (by omega)
    rw[q0D x] at hx2
    rw[q07] at hr
    have hkk:(x.1 == x.1)=true:=by simp
    (repeat' first|simp (disch:=omega) only[go_sem,hx2,hkk,bne_self_eq_false]|refine q00 _ (hr) ?_|(apply spl<;>intro h<;>try simp (disch:=omega) only[go_sem,hx2,hkk,bne_self_eq_false ,h]))
    exact ⟨k+1,rfl,hlt,by omega⟩
   ·(repeat' first|simp (disch:=omega) only[go_sem]|(apply spl<;>intro h<;>try simp (disch:=omega) only[go_sem,h]))
end Ago
set_option maxRecDepth 100000
set_option maxHeartbeats 4000000
namespace Ago
open Go (IntKind)
end Ago
set_option maxRecDepth 100000
set_option maxHeartbeats 4000000
namespace Ago
open Go (IntKind)
end Ago
set_option maxRecDepth 100000
set_option maxHeartbeats 4000000
namespace Ago
open Go (IntKind)
end Ago
set_option maxRecDepth 100000
set_option maxHeartbeats 4000000
namespace Ago
open Go (IntKind)

end Ago
set_option maxRecDepth 100000
set_option maxHeartbeats 4000000
namespace Ago
open Go (IntKind)
end Ago
set_option maxRecDepth 100000
set_option maxHeartbeats 4000000
namespace Ago
open Go (IntKind)
end Ago
set_option maxRecDepth 100000
set_option maxHeartbeats 4000000
namespace Ago
open Go (IntKind)
inductive Gd:Nat→V→Prop where
 | mk {n:Nat} {v:V} (h:q9x v=0) (hk : ∀ x,x∈v.kids→Gd n x):Gd (n+1) v
theorem qag {v:V} (h:q9x v=0):ownM v=true∧q0Q v.s.num=true∧(v.s.kind=3→q8X v.s.time=true)∧utf v.s.text=true∧v.s.text.length≤65536∧v.s.bytes.length≤65536∧q4q (v.f.map (·.1))=0:=by
 unfold q9x at h
 split at h
 ·cases h
 ·rename_i h1
  split at h
  ·cases h
  ·rename_i h2
   split at h
   ·cases h
   ·rename_i h3
    split at h
    ·cases h
    ·rename_i h4
     rw[not_or] at h2 h4
     refine ⟨by simpa using h1,by simpa using h2.1,fun hk=>?_,by simpa using h3,by omega,by omega,h⟩
     cases ht:q8X v.s.time with
     | true=>rfl
     | false=>exact (h2.2 ⟨hk,ht⟩).elim
theorem Gd.mono {n:Nat} {v:V} (h:Gd n v) : ∀ {m:Nat},n≤m→Gd m v:=by
 induction h with
 | mk h _ ih=>
  intro m hm
  obtain ⟨m,rfl⟩ : ∃ k,m=k+1:=⟨m-1,by omega⟩
  exact .mk h fun x hx=>ih x hx (by omega)
theorem qb1 {F:V→Int→Int × Int} : ∀ (l:List V) (s:Int),(q6c F l s).2=0→∀ x,x∈l→∃ s',(F x s').2=0
 | [],_,_,x,hx=>by cases hx
 | y::l,s,h,x,hx=>by
  rw[q1Q] at h
  split at h
  ·rename_i h1
   rcases List.mem_cons.1 hx with rfl | hx
   ·exact ⟨s,h1⟩
   ·exact qb1 l _ h x hx
  ·rename_i h1
   exact (h1 h).elim
theorem qhs : ∀ (k:Nat) (v:V) (d s:Int),0≤d→(q1x k v d s).2=0→Gd (49-d).toNat v
 | 0,v,d,s,_,h=>by simp [q1x] at h
 | k+1,v,d,s,hd,h=>by
  unfold q1x at h
  split at h
  ·cases h
  ·split at h
   ·cases h
   ·split at h
    ·rename_i h3
     exact (h3 h).elim
    ·rename_i h1 _ h3
     have hk:=qb1 _ _ h
     rw[show (49-d).toNat=(49-(d+1)).toNat+1 by omega]
     refine .mk (Classical.not_not.1 h3) fun x hx=>?_
     obtain ⟨s',hs'⟩:=hk x hx
     exact qhs k x (d+1) s' (by omega) hs'
theorem qjp {v:V} (h:q3q v=0):Gd 48 v:=qhs 49 v 1 0 (by omega) h


theorem Gd.own {n:Nat} {v:V} (h:Gd n v):ownM v=true:=by
 cases h with
 | mk h _=>exact (qag h).1
theorem Gd.kids {n:Nat} {v:V} (h:Gd (n+1) v) : ∀ x,x∈v.kids→Gd n x:=by
 cases h with
 | mk _ hk=>exact hk
end Ago
