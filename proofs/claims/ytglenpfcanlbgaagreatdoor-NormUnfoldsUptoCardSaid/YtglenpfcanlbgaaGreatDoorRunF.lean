/- The program's own looks at decimals and times. -/
import Derived.Test.YtglenpfcanlbgaaGreatDoorRunA
import Derived.Test.YtglenpfcanlbgaaGreatDoorMachE
set_option linter.unusedSimpArgs false
set_option linter.unusedVariables false
set_option maxRecDepth 100000
set_option maxHeartbeats 4000000
namespace Ago
open Go (IntKind)
theorem allI_run (s:List UInt8) (hs:s.length<2^31):PRun C0 158 [.str s] (.bool (digits s)):=by
 refine prun_of ac158 rfl ?_
 simp (disch:=omega) only[go_sem,ac158,enter]
 refine loop_of (α:=Nat) (fun k=>{ tmps:=slots 20 [(0,.str s),(5,.int .i64 s.length),(6,.int .i64 k)],heap:=[],base:=0 }) (fun k=>k≤s.length∧(s.take k).all digit=true) (fun k=>s.length-k) 0 rfl ⟨Nat.zero_le _,rfl⟩ ?_
 rintro k ⟨hk,hd⟩
 by_cases hlt:k<s.length
 ·obtain ⟨c,hc⟩:=get_some hlt
  by_cases h:48≤c.toNat∧c.toNat≤57
  ·(repeat' first|simp (disch:=omega) only[go_sem,hc]|(apply spl<;>intro h<;>try simp (disch:=omega) only[go_sem,hc,h]))
   exact ⟨k+1,rfl,⟨hlt,take_succ_all hc hd (by simp [digit,h])⟩,by omega⟩
  ·have hn:digits s=false:=not_all hc (by simp [digit]; omega)
   rw[hn]
   (repeat' first|simp (disch:=omega) only[go_sem,hc]|(apply spl<;>intro h<;>try simp (disch:=omega) only[go_sem,hc,h]))
 ·rw[take_len hlt hk] at hd
  have hn:digits s=true:=hd
  rw[hn]
  (repeat' first|simp (disch:=omega) only[go_sem]|(apply spl<;>intro h<;>try simp (disch:=omega) only[go_sem,h]))
theorem validD_run (s:List UInt8) (hs:s.length<2^31):PRun C0 149 [.str s] (.bool (numeral s)):=by
 have ha:=allI_run s hs
 refine prun_of ac149 rfl ?_
 unfold numeral
 cases s with
 | nil=>
  (repeat' first|simp (disch:=omega) only[go_sem,ac149,enter]|refine pure_of _ (ha) ?_|(apply spl<;>intro h<;>try simp (disch:=omega) only[go_sem,ac149,enter ,h]))
  all_goals rfl
 | cons c s=>
  have hb:(c::s == ([]:List UInt8))=false:=rfl
  have hc:=zero48 c
  simp only[List.length_cons] at hs
  by_cases hl:(c::s).length≤600
  ·cases hd:digits (c::s) with
   | true=>
    rw[hd] at ha
    by_cases h0:c=48
    ·have h0':=hc.2 h0
     (repeat' first|simp (disch:=omega) only[go_sem,ac149,enter,hb,h0',hl]|refine pure_of _ (ha) ?_|(apply spl<;>intro h<;>try simp (disch:=omega) only[go_sem,ac149,enter,hb,h0',hl ,h]))
     all_goals (first | omega | simp_all)
     all_goals omega
    ·have h0' : ¬ (c.toNat:Int)=48:=fun e=>h0 (hc.1 e)
     (repeat' first|simp (disch:=omega) only[go_sem,ac149,enter,hb,h0',hl]|refine pure_of _ (ha) ?_|(apply spl<;>intro h<;>try simp (disch:=omega) only[go_sem,ac149,enter,hb,h0',hl ,h]))
     all_goals (first | omega | simp_all)
     all_goals omega
   | false=>
    rw[hd] at ha
    (repeat' first|simp (disch:=omega) only[go_sem,ac149,enter,hb,hl]|refine pure_of _ (ha) ?_|(apply spl<;>intro h<;>try simp (disch:=omega) only[go_sem,ac149,enter,hb,hl ,h]))
    all_goals simp_all
  ·have hl2:600<s.length+1:=by simp at hl; omega
   (repeat' first|simp (disch:=omega) only[go_sem,ac149,enter,hb,hl]|refine pure_of _ (ha) ?_|(apply spl<;>intro h<;>try simp (disch:=omega) only[go_sem,ac149,enter,hb,hl ,h]))
   all_goals (first | omega | simp_all)
   all_goals (intros; omega)
theorem zerosI_run (s:List UInt8) (hs:s.length<2^31):PRun C0 150 [.str s] (.int .i64 (zeros s)):=by
 have hr:=trimRight_run s hs
 have hz:=zeros_le s
 have hlen:(s.take (s.length-zeros s)).length=s.length-zeros s:=by simp
 have e1:((s.length:Int)-((s.length-zeros s:Nat):Int))=zeros s:=by omega
 refine prun_of ac150 rfl ?_
 (repeat' first|simp (disch:=omega) only[go_sem,ac150,enter,hlen,e1]|refine pure_of _ (hr) ?_|(apply spl<;>intro h<;>try simp (disch:=omega) only[go_sem,ac150,enter,hlen,e1 ,h]))
theorem decOkI_run (d:Dec) (hs:d.digits.length<2^31):PRun C0 140 [encDec d] (.bool (decOk d)):=by
 refine prun_of ac140 rfl ?_
 obtain ⟨neg,ds,exp⟩:=d
 simp only[encDec] at *
 by_cases h0:ds=[]
 ·subst h0
  (repeat' first|simp (disch:=omega) only[go_sem,ac140,enter]|(apply spl<;>intro h<;>try simp (disch:=omega) only[go_sem,ac140,enter,h]))
  all_goals simp [decOk]
 ·have hb:(ds == ([]:List UInt8))=false:=by simp [h0]
  have hz:=zerosI_run ds hs
  have hv:=validD_run ds hs
  (repeat' first|simp (disch:=omega) only[go_sem,ac140,enter,hb]|refine pure_of _ (hv) ?_|refine pure_of _ (hz) ?_|(apply spl<;>intro h<;>try simp (disch:=omega) only[go_sem,ac140,enter,hb ,h]))
  all_goals simp [decOk,h0]
  all_goals first | omega | (intros; omega) | (simp_all; done) | skip
  all_goals (have:(zeros ds:Int)=0↔zeros ds=0:=by omega)
  all_goals simp_all
  all_goals omega
end Ago
namespace Ago
open Go (IntKind)
def tmIn (t:Tm):Bool:=decide (1≤t.kind∧t.kind≤4∧0≤t.day∧t.day≤3652058∧0≤t.nano∧t.nano≤86399999999999∧-1439≤t.off∧t.off≤1439)
def tmOk (t:Tm):Bool:=tmIn t && decide (t.kind=2→t.day=0) && decide (t.kind=1→t.nano=0) && decide (t.kind=4∨t.off=0)
def encTm (t:Tm):AV:=.agg [.int .i64 t.kind,.int .i64 t.day,.int .i64 t.nano,.int .i64 t.off]
theorem tm_false {t:Tm} (h : ¬ (1≤t.kind∧t.kind≤4∧0≤t.day∧t.day≤3652058∧0≤t.nano∧t.nano≤86399999999999∧-1439≤t.off∧t.off≤1439)):tmOk t=false:=by
 unfold tmOk tmIn
 rw[decide_eq_false h]
 rfl
theorem tmI_run (t:Tm):PRun C0 141 [encTm t] (.bool (tmOk t)):=by
 refine prun_of ac141 rfl ?_
 unfold encTm
 (repeat' first|simp (disch:=omega) only[go_sem,ac141,enter]|(apply spl<;>intro h<;>try simp (disch:=omega) only[go_sem,ac141,enter,h]))
 all_goals first
  | (rw[tm_false (by omega)]; done)
  | (simp [tmOk,tmIn]; omega)
  | (
   have e:tmOk t=(t.off == 0):=by
    rw[Bool.eq_iff_iff]
    simp [tmOk,tmIn]
    omega
   rw[e])
end Ago
set_option maxRecDepth 100000
set_option maxHeartbeats 4000000
namespace Ago
open Go (IntKind)
theorem dated_run (t:Int):PRun C0 91 [.int .i64 t] (.bool (decide (t=1∨t=3∨t=4))):=by
 refine prun_of ac91 rfl ?_
 (repeat' first|simp (disch:=omega) only[go_sem,ac91,enter]|(apply spl<;>intro h<;>try simp (disch:=omega) only[go_sem,ac91,enter,h]))
 all_goals first
  | (simp; omega)
  | (congr 2; rw[Bool.eq_iff_iff]; simp; omega)
  | (simp_all; done)
theorem clocked_run (t:Int):PRun C0 92 [.int .i64 t] (.bool (decide (t=2∨t=3∨t=4))):=by
 refine prun_of ac92 rfl ?_
 (repeat' first|simp (disch:=omega) only[go_sem,ac92,enter]|(apply spl<;>intro h<;>try simp (disch:=omega) only[go_sem,ac92,enter,h]))
 all_goals first
  | (simp; omega)
  | (congr 2; rw[Bool.eq_iff_iff]; simp; omega)
  | (simp_all; done)
theorem tm_run (t:Tm):PRun C0 80 [encTm t] (.bool (tmOk t)):=by
 have h1:=dated_run t.kind
 have h2:=clocked_run t.kind
 refine prun_of ac80 rfl ?_
 unfold encTm
 (repeat' first|simp (disch:=omega) only[go_sem,ac80,enter]|refine pure_of _ (h1) ?_|refine pure_of _ (h2) ?_|(apply spl<;>intro h<;>try simp (disch:=omega) only[go_sem,ac80,enter ,h]))
 all_goals first
  | (rw[tm_false (by omega)]; done)
  | (simp [tmOk,tmIn]; omega)
  | (
   have e:tmOk t=(t.off == 0):=by
    rw[Bool.eq_iff_iff]
    simp [tmOk,tmIn]
    omega
   rw[e])

def numZ (d:Dec):Bool:=d.neg == false && (d.digits == [] && d.exp == 0)
def tmZ (t:Tm):Bool:=t.kind == 0 && (t.day == 0 && (t.nano == 0 && t.off == 0))
def ownM (v:V):Bool:=
 decide (0≤v.s.kind∧v.s.kind≤7) && (v.s.kind == 1 || v.s.bool == false) && (v.s.kind == 2 || numZ v.s.num) && (v.s.kind == 3 || tmZ v.s.time) &&
 (v.s.kind == 4 || v.s.text == []) && (v.s.kind == 5 || (v.s.bytes.length:Int) == 0) && (v.s.kind == 6 || (v.l.length:Int) == 0) && (v.s.kind == 7 || (v.f.length:Int) == 0)
theorem own_run (v:V):PRun C0 78 [encV v] (.bool (ownM v)):=by
 refine prun_of ac78 rfl ?_
 rw[encV_eq]
 (repeat' first|simp (disch:=omega) only[go_sem,ac78,enter,List.length_map,encB_len]|(apply spl<;>intro h<;>try simp (disch:=omega) only[go_sem,ac78,enter,List.length_map,encB_len,h]))
 all_goals (congr 2; unfold ownM numZ tmZ; simp_all)
 all_goals omega
end Ago
set_option maxRecDepth 100000
set_option maxHeartbeats 4000000
namespace Ago
open Go (IntKind)
def keysGo:List (List UInt8)→List (List UInt8)→Int
 | _,[]=>0
 | pre,x::l=>if utf x=false then 5 else if 1024<x.length then 10 else if pre.contains x then 8 else keysGo (pre++[x]) l
def keysM (l:List (List UInt8)):Int:=keysGo [] l
theorem keysM_step {l:List (List UInt8)} {i:Nat} {x:List UInt8} (h:l[i]?=some x):keysGo (l.take i) (l.drop i)=if utf x=false then 5 else if 1024<x.length then 10 else if (l.take i).contains x then 8 else keysGo (l.take (i+1)) (l.drop (i+1)):=by
 have hl:=(List.getElem?_eq_some_iff.1 h)
 obtain ⟨hlt,hx⟩:=hl
 rw[List.drop_eq_getElem_cons hlt,hx]
 conv=>lhs; unfold keysGo
 rw[List.take_add_one,h]
 rfl
theorem keys_run (f:List (List UInt8 × V)) (hf:f.length<2^30) (hk : ∀ x,x∈f→x.1.length<2^30):PRun C0 81 [.tsl 14 (f.map encFd)] (.int .i64 (keysM (f.map (·.1)))):=by
 refine prun_of ac81 rfl ?_
 (repeat' first|simp (disch:=omega) only[go_sem,ac81,enter]|(apply spl<;>intro h<;>try simp (disch:=omega) only[go_sem,ac81,enter,h]))
 refine loop_of (α:=Nat) (fun i=>{ tmps:=slots 41 [(0,.tsl 14 (f.map encFd)),(3,.int .i64 i)],heap:=[],base:=0 }) (fun i=>i≤f.length∧keysM (f.map (·.1))=keysGo ((f.map (·.1)).take i) ((f.map (·.1)).drop i)) (fun i=>f.length-i) 0 rfl ⟨Nat.zero_le _,rfl⟩ ?_
 rintro i ⟨hi,hm⟩
 by_cases hlt:i<f.length
 ·obtain ⟨x,hx⟩:=get_some hlt
  have hx2:=map_get (g:=encFd) hx
  have hx3:=map_get (g:=fun y:List UInt8 × V=>y.1) hx
  rw[encFd_eq] at hx2
  have hu:=utf_run x.1 (hk x (List.mem_of_getElem? hx))
  rw[keysM_step hx3] at hm
  cases hux:utf x.1 with
  | false=>
   rw[hux] at hu hm
   rw[if_pos rfl] at hm
   rw[hm]
   (repeat' first|simp (disch:=omega) only[go_sem,hx2,List.length_map]|refine pure_of _ (hu) ?_|(apply spl<;>intro h<;>try simp (disch:=omega) only[go_sem,hx2,List.length_map ,h]))
  | true=>
   rw[hux] at hu hm
   rw[if_neg (by simp)] at hm
   by_cases h1:1024<x.1.length
   ·rw[if_pos h1] at hm
    rw[hm]
    (repeat' first|simp (disch:=omega) only[go_sem,hx2,List.length_map]|refine pure_of _ (hu) ?_|(apply spl<;>intro h<;>try simp (disch:=omega) only[go_sem,hx2,List.length_map ,h]))
   ·rw[if_neg h1] at hm
    (repeat' first|simp (disch:=omega) only[go_sem,hx2,List.length_map]|refine pure_of _ (hu) ?_|(apply spl<;>intro h<;>try simp (disch:=omega) only[go_sem,hx2,List.length_map ,h]))
    refine loop_of (α:=Nat) (fun j=>{ tmps:=slots 41 [(0,.tsl 14 (f.map encFd)),(3,.int .i64 i),(4,.int .i64 j)],heap:=[],base:=0 }) (fun j=>j≤i∧∀ y,y∈(f.map (·.1)).take j→y≠x.1) (fun j=>i-j) 0 rfl ⟨Nat.zero_le _,by simp⟩ ?_
    rintro j ⟨hj,hne⟩
    by_cases hlt2:j<i
    ·obtain ⟨y,hy⟩:=get_some (s:=f) (k:=j) (by omega)
     have hy2:=map_get (g:=encFd) hy
     have hy3:=map_get (g:=fun y:List UInt8 × V=>y.1) hy
     rw[encFd_eq] at hy2
     by_cases he:y.1=x.1
     ·have hc:((f.map (·.1)).take i).contains x.1=true:=by
       rw[List.contains_iff_mem]
       refine List.mem_of_getElem? (i:=j) ?_
       rw[List.getElem?_take_of_lt hlt2,hy3,he]
      rw[if_pos hc] at hm
      rw[hm]
      have he2:(y.1 == x.1)=true:=by simpa using he
      (repeat' first|simp (disch:=omega) only[go_sem,hx2,hy2,he2,List.length_map]|(apply spl<;>intro h<;>try simp (disch:=omega) only[go_sem,hx2,hy2,he2,List.length_map,h]))
     ·have he2:(y.1 == x.1)=false:=by simpa using he
      (repeat' first|simp (disch:=omega) only[go_sem,hx2,hy2,he2,List.length_map]|(apply spl<;>intro h<;>try simp (disch:=omega) only[go_sem,hx2,hy2,he2,List.length_map,h]))
      refine ⟨j+1,rfl,⟨hlt2,fun z hz=>?_⟩,by omega⟩
      rw[List.take_add_one,hy3] at hz
      rcases List.mem_append.1 hz with hz | hz
      ·exact hne z hz
      ·have:z=y.1:=by simpa using hz
       rw[this]
       exact he
    ·have hji:j=i:=by omega
     subst hji
     have hc:((f.map (·.1)).take j).contains x.1=false:=by
      rw[Bool.eq_false_iff]
      intro h
      rw[List.contains_iff_mem] at h
      exact hne _ h rfl
     rw[if_neg (by rw[hc]; simp)] at hm
     (repeat' first|simp (disch:=omega) only[go_sem,hx2,List.length_map]|(apply spl<;>intro h<;>try simp (disch:=omega) only[go_sem,hx2,List.length_map,h]))
     exact ⟨j+1,rfl,⟨hlt,hm⟩,by omega⟩
 ·have e:keysM (f.map (·.1))=0:=by
   rw[hm,List.drop_of_length_le (by simp; omega)]
   unfold keysGo
   rfl
  rw[e]
  (repeat' first|simp (disch:=omega) only[go_sem,List.length_map]|(apply spl<;>intro h<;>try simp (disch:=omega) only[go_sem,List.length_map,h]))
end Ago
set_option maxRecDepth 100000
set_option maxHeartbeats 4000000
namespace Ago
open Go (IntKind)
def oneM (v:V):Int:=
 if ownM v=false then 6
 else if decOk v.s.num=false∨v.s.kind=3∧tmOk v.s.time=false then 2
 else if utf v.s.text=false then 5
 else if 65536<v.s.text.length∨65536<v.s.bytes.length then 10
 else keysM (v.f.map (·.1))
theorem one_run (v:V) (hv:v.bulk≤2^24):PRun C0 57 [encV v] (.int .i64 (oneM v)):=by
 have L:=V.lens hv
 have h1:=own_run v
 have h2:=decOk_run v.s.num (by have:=L.digits; omega)
 have h3:=utf_run v.s.text (by have:=L.text; omega)
 have h4:=tm_run v.s.time
 have h5:=keys_run v.f (by have:=L.fields; omega) (fun x hx=>by have:=(L.fkids x hx).2; omega)
 unfold encTm at h4
 unfold encDec at h2
 rw[encV_eq] at h1 ⊢
 refine prun_of ac57 rfl ?_
 unfold oneM
 cases hb1:ownM v with
 | false=>
  rw[hb1] at h1
  (repeat' first|simp (disch:=omega) only[go_sem,ac57,enter,List.length_map,encB_len]|refine pure_of _ (h1) ?_|refine pure_of _ (h2) ?_|refine pure_of _ (h3) ?_|refine pure_of _ (h4) ?_|refine pure_of _ (h5) ?_|(apply spl<;>intro h<;>try simp (disch:=omega) only[go_sem,ac57,enter,List.length_map,encB_len ,h]))
 | true=>
  rw[hb1] at h1
  rw[if_neg (by simp)]
  cases hb2:decOk v.s.num with
  | false=>
   rw[hb2] at h2
   rw[if_pos (.inl rfl)]
   (repeat' first|simp (disch:=omega) only[go_sem,ac57,enter,List.length_map,encB_len]|refine pure_of _ (h1) ?_|refine pure_of _ (h2) ?_|refine pure_of _ (h3) ?_|refine pure_of _ (h4) ?_|refine pure_of _ (h5) ?_|(apply spl<;>intro h<;>try simp (disch:=omega) only[go_sem,ac57,enter,List.length_map,encB_len ,h]))
  | true=>
   rw[hb2] at h2
   by_cases hb4:v.s.kind=3∧tmOk v.s.time=false
   ·rw[if_pos (.inr hb4)]
    rw[hb4.2] at h4
    have hk:=hb4.1
    rw[hk] at h1
    (repeat' first|simp (disch:=omega) only[go_sem,ac57,enter,List.length_map,encB_len,hk]|refine pure_of _ (h1) ?_|refine pure_of _ (h2) ?_|refine pure_of _ (h3) ?_|refine pure_of _ (h4) ?_|refine pure_of _ (h5) ?_|(apply spl<;>intro h<;>try simp (disch:=omega) only[go_sem,ac57,enter,List.length_map,encB_len,hk ,h]))
   ·rw[if_neg (by simpa using hb4)]
    have hkt:v.s.kind=3→tmOk v.s.time=true:=fun h=>by
     cases ht:tmOk v.s.time with
     | true=>rfl
     | false=>exact (hb4 ⟨h,ht⟩).elim
    cases hb3:utf v.s.text with
    | false=>
     rw[hb3] at h3
     rw[if_pos rfl]
     by_cases hk:v.s.kind=3
     ·rw[hkt hk] at h4; rw[hk] at h1
      (repeat' first|simp (disch:=omega) only[go_sem,ac57,enter,List.length_map,encB_len,hk]|refine pure_of _ (h1) ?_|refine pure_of _ (h2) ?_|refine pure_of _ (h3) ?_|refine pure_of _ (h4) ?_|refine pure_of _ (h5) ?_|(apply spl<;>intro h<;>try simp (disch:=omega) only[go_sem,ac57,enter,List.length_map,encB_len,hk ,h]))
     ·(repeat' first|simp (disch:=omega) only[go_sem,ac57,enter,List.length_map,encB_len,hk]|refine pure_of _ (h1) ?_|refine pure_of _ (h2) ?_|refine pure_of _ (h3) ?_|refine pure_of _ (h4) ?_|refine pure_of _ (h5) ?_|(apply spl<;>intro h<;>try simp (disch:=omega) only[go_sem,ac57,enter,List.length_map,encB_len,hk ,h]))
    | true=>
     rw[hb3] at h3
     rw[if_neg (by simp)]
     by_cases hs:65536<v.s.text.length∨65536<v.s.bytes.length
     ·rw[if_pos hs]
      by_cases hk:v.s.kind=3
      ·rw[hkt hk] at h4; rw[hk] at h1
       (repeat' first|simp (disch:=omega) only[go_sem,ac57,enter,List.length_map,encB_len,hk]|refine pure_of _ (h1) ?_|refine pure_of _ (h2) ?_|refine pure_of _ (h3) ?_|refine pure_of _ (h4) ?_|refine pure_of _ (h5) ?_|(apply spl<;>intro h<;>try simp (disch:=omega) only[go_sem,ac57,enter,List.length_map,encB_len,hk ,h]))
       all_goals first | omega | rfl
      ·(repeat' first|simp (disch:=omega) only[go_sem,ac57,enter,List.length_map,encB_len,hk]|refine pure_of _ (h1) ?_|refine pure_of _ (h2) ?_|refine pure_of _ (h3) ?_|refine pure_of _ (h4) ?_|refine pure_of _ (h5) ?_|(apply spl<;>intro h<;>try simp (disch:=omega) only[go_sem,ac57,enter,List.length_map,encB_len,hk ,h]))
       all_goals first | omega | rfl
     ·rw[if_neg hs]
      by_cases hk:v.s.kind=3
      ·rw[hkt hk] at h4; rw[hk] at h1
       (repeat' first|simp (disch:=omega) only[go_sem,ac57,enter,List.length_map,encB_len,hk]|refine pure_of _ (h1) ?_|refine pure_of _ (h2) ?_|refine pure_of _ (h3) ?_|refine pure_of _ (h4) ?_|refine pure_of _ (h5) ?_|(apply spl<;>intro h<;>try simp (disch:=omega) only[go_sem,ac57,enter,List.length_map,encB_len,hk ,h]))
       all_goals first | omega | rfl
      ·(repeat' first|simp (disch:=omega) only[go_sem,ac57,enter,List.length_map,encB_len,hk]|refine pure_of _ (h1) ?_|refine pure_of _ (h2) ?_|refine pure_of _ (h3) ?_|refine pure_of _ (h4) ?_|refine pure_of _ (h5) ?_|(apply spl<;>intro h<;>try simp (disch:=omega) only[go_sem,ac57,enter,List.length_map,encB_len,hk ,h]))
       all_goals first | omega | rfl
end Ago
set_option maxRecDepth 100000
set_option maxHeartbeats 4000000
namespace Ago
open Go (IntKind)
def seqL (f:V→Int→Int × Int):List V→Int→Int × Int
 | [],seen=>(seen,0)
 | x::l,seen=>if (f x seen).2=0 then seqL f l (f x seen).1 else f x seen
def lookM:Nat→V→Int→Int→Int × Int
 | 0,_,_,seen=>(seen,9)
 | k+1,v,d,seen=>if 48<d then (seen,9) else if 65536≤seen then (seen,10) else if oneM v≠0 then (seen,oneM v) else seqL (fun x s=>lookM k x (d+1) s) v.kids (seen+1)
theorem seqL_step {f:V→Int→Int × Int} {l:List V} {x:V} {seen:Int}:seqL f (x::l) seen=if (f x seen).2=0 then seqL f l (f x seen).1 else f x seen:=rfl
theorem seqL_range {f:V→Int→Int × Int} (hf : ∀ x s,0≤s→s≤65536→0≤(f x s).1∧(f x s).1≤65536) : ∀ (l:List V) (s:Int),0≤s→s≤65536→0≤(seqL f l s).1∧(seqL f l s).1≤65536
 | [],s,h1,h2=>⟨h1,h2⟩
 | x::l,s,h1,h2=>by
  have h:=hf x s h1 h2
  rw[seqL_step]
  split
  ·exact seqL_range hf l _ h.1 h.2
  ·exact h
theorem lookM_range : ∀ (k:Nat) (v:V) (d s:Int),0≤s→s≤65536→0≤(lookM k v d s).1∧(lookM k v d s).1≤65536
 | 0,v,d,s,h1,h2=>⟨h1,h2⟩
 | k+1,v,d,s,h1,h2=>by
  unfold lookM
  split
  ·exact ⟨h1,h2⟩
  ·split
   ·exact ⟨h1,h2⟩
   ·split
    ·exact ⟨h1,h2⟩
    ·exact seqL_range (fun x s h1 h2=>lookM_range k x (d+1) s h1 h2) _ _ (by omega) (by omega)
theorem look_run : ∀ (n:Nat) (v:V),v.bulk≤n→n≤2^24→∀ (f:Nat) (d seen:Int),0≤d→49<d+f→d≤49→0<f→0≤seen→seen≤65536→PRun C0 39 [encV v,.int .i64 d,.int .i64 seen] (.tup [.int .i64 (lookM f v d seen).1,.int .i64 (lookM f v d seen).2]):=by
 intro n
 induction n with
 | zero=>
  intro v hv
  have:1≤v.bulk:=bulk_one _
  omega
 | succ n ih=>
  intro v hv hn f d seen hd1 hdf hd2 hf0 hs1 hs2
  obtain ⟨f,rfl⟩ : ∃ g,f=g+1:=⟨f-1,by omega⟩
  have h1:=one_run v (by omega)
  have h2:=kids_run v (by omega)
  obtain ⟨kb1,kb2⟩:=kids_bulk (v:=v) (by omega)
  rw[encV_eq] at h1 h2 ⊢
  rw[show lookM (f+1) v d seen=if 48<d then (seen,9) else if 65536≤seen then (seen,10) else if oneM v≠0 then (seen,oneM v) else seqL (fun x s=>lookM f x (d+1) s) v.kids (seen+1) from rfl]
  refine prun_of ac39 rfl ?_
  by_cases g1:48<d
  ·rw[if_pos g1]
   (repeat' first|simp (disch:=omega) only[go_sem,ac39,enter,List.length_map]|refine pure_of _ (h1) ?_|refine pure_of _ (h2) ?_|(apply spl<;>intro h<;>try simp (disch:=omega) only[go_sem,ac39,enter,List.length_map ,h]))
  ·rw[if_neg g1]
   by_cases g2:65536≤seen
   ·rw[if_pos g2]
    (repeat' first|simp (disch:=omega) only[go_sem,ac39,enter,List.length_map]|refine pure_of _ (h1) ?_|refine pure_of _ (h2) ?_|(apply spl<;>intro h<;>try simp (disch:=omega) only[go_sem,ac39,enter,List.length_map ,h]))
   ·rw[if_neg g2]
    by_cases g3:oneM v=0
    ·rw[if_neg (by simpa using g3)]
     rw[g3] at h1
     (repeat' first|simp (disch:=omega) only[go_sem,ac39,enter,List.length_map]|refine pure_of _ (h1) ?_|refine pure_of _ (h2) ?_|(apply spl<;>intro h<;>try simp (disch:=omega) only[go_sem,ac39,enter,List.length_map ,h]))
     refine loop_of (α:=Nat × Int) (fun a=>{ tmps:=slots 50 [(1,.int .i64 d),(2,.int .i64 a.2),(9,.tsl 13 (v.kids.map encV)),(10,.int .i64 a.1)],heap:=[],base:=0 }) (fun a=>a.1≤v.kids.length∧seqL (fun x s=>lookM f x (d+1) s) v.kids (seen+1)=seqL (fun x s=>lookM f x (d+1) s) (v.kids.drop a.1) a.2∧0≤a.2∧a.2≤65536) (fun a=>v.kids.length-a.1) (0,seen+1) rfl ⟨Nat.zero_le _,rfl,by simp only; omega,by simp only; omega⟩ ?_
     rintro ⟨k,sn⟩ ⟨hk,hm,hs3,hs4⟩
     simp only at hk hm hs3 hs4
     by_cases hlt:k<v.kids.length
     ·obtain ⟨x,hx⟩:=get_some hlt
      have hxm:=List.mem_of_getElem? hx
      have hx2:=map_get (g:=encV) hx
      have hdr:v.kids.drop k=x::v.kids.drop (k+1):=by
       obtain ⟨h3,h4⟩:=List.getElem?_eq_some_iff.1 hx
       rw[List.drop_eq_getElem_cons h3,h4]
      have hr:=ih x (by have:=kb1 x hxm; omega) (by omega) f (d+1) sn (by omega) (by omega) (by omega) (by omega) (by omega) (by omega)
      have hrg:=lookM_range f x (d+1) sn hs3 hs4
      rw[hdr,seqL_step] at hm
      generalize lookM f x (d+1) sn=r at hr hm hrg
      rw[encV_eq] at hx2 hr
      by_cases he:r.2=0
      ·rw[if_pos he] at hm
       rw[he] at hr
       (repeat' first|simp (disch:=omega) only[go_sem,hx2,List.length_map]|refine pure_of _ (hr) ?_|(apply spl<;>intro h<;>try simp (disch:=omega) only[go_sem,hx2,List.length_map ,h]))
       exact ⟨(k+1,r.1),rfl,⟨hlt,hm,hrg.1,hrg.2⟩,by simp only; omega⟩
      ·rw[if_neg he] at hm
       rw[hm]
       (repeat' first|simp (disch:=omega) only[go_sem,hx2,List.length_map,he]|refine pure_of _ (hr) ?_|(apply spl<;>intro h<;>try simp (disch:=omega) only[go_sem,hx2,List.length_map,he ,h]))
     ·rw[List.drop_of_length_le (by omega)] at hm
      rw[hm]
      (repeat' first|simp (disch:=omega) only[go_sem,List.length_map]|(apply spl<;>intro h<;>try simp (disch:=omega) only[go_sem,List.length_map,h]))
      rfl
    ·rw[if_pos g3]
     (repeat' first|simp (disch:=omega) only[go_sem,ac39,enter,List.length_map,g3]|refine pure_of _ (h1) ?_|refine pure_of _ (h2) ?_|(apply spl<;>intro h<;>try simp (disch:=omega) only[go_sem,ac39,enter,List.length_map,g3 ,h]))
def checkM (v:V):Int:=(lookM 49 v 1 0).2
theorem check_run (v:V) (hv:v.bulk≤2^24):PRun C0 19 [encV v] (.int .i64 (checkM v)):=by
 have h1:=look_run _ v (Nat.le_refl _) hv 49 1 0 (by omega) (by omega) (by omega) (by omega) (by omega) (by omega)
 rw[encV_eq] at h1 ⊢
 refine prun_of ac19 rfl ?_
 (repeat' first|simp (disch:=omega) only[go_sem,ac19,enter]|refine pure_of _ (h1) ?_|(apply spl<;>intro h<;>try simp (disch:=omega) only[go_sem,ac19,enter ,h]))
 all_goals rfl
end Ago
set_option maxRecDepth 100000
set_option maxHeartbeats 4000000
namespace Ago
open Go (IntKind)
theorem u8and (m:Nat) (a:Nat) (h:a<256) (hm:m<256):IntKind.wrap .u8 ((BitVec.ofInt (IntKind.bits .u8) (a:Int) &&& BitVec.ofInt (IntKind.bits .u8) (m:Int)).toNat:Int)=((a &&& m:Nat):Int):=by
 have e:IntKind.bits .u8=8:=rfl
 rw[e,BitVec.toNat_and,BitVec.toNat_ofInt,BitVec.toNat_ofInt]
 have h1:((a:Int) % ((2^8:Nat):Int)).toNat=a:=by omega
 have h2:((m:Int) % ((2^8:Nat):Int)).toNat=m:=by omega
 rw[h1,h2]
 have h3:a &&& m≤a:=Nat.and_le_left
 exact w8 (by omega) (by omega)
theorem b7 (c:UInt8):IntKind.wrap .u8 ((BitVec.ofInt (IntKind.bits .u8) (c.toNat:Int) &&& BitVec.ofInt (IntKind.bits .u8) 7).toNat:Int)=(c.toNat:Int) % 8:=by
 have:=u8and 7 c.toNat c.toNat_lt (by omega)
 rw[show ((7:Nat):Int)=7 from rfl] at this
 rw[this,show (7:Nat)=2^3-1 from rfl,Nat.and_two_pow_sub_one_eq_mod]
 omega
theorem b15 (c:UInt8):IntKind.wrap .u8 ((BitVec.ofInt (IntKind.bits .u8) (c.toNat:Int) &&& BitVec.ofInt (IntKind.bits .u8) 15).toNat:Int)=(c.toNat:Int) % 16:=by
 have:=u8and 15 c.toNat c.toNat_lt (by omega)
 rw[show ((15:Nat):Int)=15 from rfl] at this
 rw[this,show (15:Nat)=2^4-1 from rfl,Nat.and_two_pow_sub_one_eq_mod]
 omega
theorem b31 (c:UInt8):IntKind.wrap .u8 ((BitVec.ofInt (IntKind.bits .u8) (c.toNat:Int) &&& BitVec.ofInt (IntKind.bits .u8) 31).toNat:Int)=(c.toNat:Int) % 32:=by
 have:=u8and 31 c.toNat c.toNat_lt (by omega)
 rw[show ((31:Nat):Int)=31 from rfl] at this
 rw[this,show (31:Nat)=2^5-1 from rfl,Nat.and_two_pow_sub_one_eq_mod]
 omega
theorem b63 (c:UInt8):IntKind.wrap .u8 ((BitVec.ofInt (IntKind.bits .u8) (c.toNat:Int) &&& BitVec.ofInt (IntKind.bits .u8) 63).toNat:Int)=(c.toNat:Int) % 64:=by
 have:=u8and 63 c.toNat c.toNat_lt (by omega)
 rw[show ((63:Nat):Int)=63 from rfl] at this
 rw[this,show (63:Nat)=2^6-1 from rfl,Nat.and_two_pow_sub_one_eq_mod]
 omega
theorem and192 : ∀ n:Fin 256,n.val &&& 192=n.val / 64 * 64:=by decide
theorem b192 (c:UInt8):IntKind.wrap .u8 ((BitVec.ofInt (IntKind.bits .u8) (c.toNat:Int) &&& BitVec.ofInt (IntKind.bits .u8) 192).toNat:Int)=(c.toNat:Int) / 64 * 64:=by
 have:=u8and 192 c.toNat c.toNat_lt (by omega)
 rw[show ((192:Nat):Int)=192 from rfl] at this
 have h:=and192 ⟨c.toNat,c.toNat_lt⟩
 simp only at h
 rw[this,h]
 omega
def headM (b:UInt8):Int × Int:=
 if b.toNat<128 then (1,b.toNat) else if b.toNat<192 then (0,0) else if b.toNat<224 then (2,(b.toNat:Int) % 32) else if b.toNat<240 then (3,(b.toNat:Int) % 16) else if b.toNat<248 then (4,(b.toNat:Int) % 8) else (0,0)
theorem head_run (b:UInt8):PRun C0 94 [.int .u8 b.toNat] (.tup [.int .i64 (headM b).1,.int .i64 (headM b).2]):=by
 have hb:=b.toNat_lt
 refine prun_of ac94 rfl ?_
 unfold headM
 by_cases h1:b.toNat<128
 ·rw[if_pos h1]
  (repeat' first|simp (disch:=omega) only[go_sem,ac94,enter,b7,b15,b31]|(apply spl<;>intro h<;>try simp (disch:=omega) only[go_sem,ac94,enter,b7,b15,b31,h]))
 ·rw[if_neg h1]
  by_cases h2:b.toNat<192
  ·rw[if_pos h2]
   (repeat' first|simp (disch:=omega) only[go_sem,ac94,enter,b7,b15,b31]|(apply spl<;>intro h<;>try simp (disch:=omega) only[go_sem,ac94,enter,b7,b15,b31,h]))
  ·rw[if_neg h2]
   by_cases h3:b.toNat<224
   ·rw[if_pos h3]
    (repeat' first|simp (disch:=omega) only[go_sem,ac94,enter,b7,b15,b31]|(apply spl<;>intro h<;>try simp (disch:=omega) only[go_sem,ac94,enter,b7,b15,b31,h]))
   ·rw[if_neg h3]
    by_cases h4:b.toNat<240
    ·rw[if_pos h4]
     (repeat' first|simp (disch:=omega) only[go_sem,ac94,enter,b7,b15,b31]|(apply spl<;>intro h<;>try simp (disch:=omega) only[go_sem,ac94,enter,b7,b15,b31,h]))
    ·rw[if_neg h4]
     by_cases h5:b.toNat<248
     ·rw[if_pos h5]
      (repeat' first|simp (disch:=omega) only[go_sem,ac94,enter,b7,b15,b31]|(apply spl<;>intro h<;>try simp (disch:=omega) only[go_sem,ac94,enter,b7,b15,b31,h]))
     ·rw[if_neg h5]
      (repeat' first|simp (disch:=omega) only[go_sem,ac94,enter,b7,b15,b31]|(apply spl<;>intro h<;>try simp (disch:=omega) only[go_sem,ac94,enter,b7,b15,b31,h]))
theorem scalar_run (r:Int):PRun C0 95 [.int .i64 r] (.bool (charM r)):=by
 refine prun_of ac95 rfl ?_
 unfold charM
 (repeat' first|simp (disch:=omega) only[go_sem,ac95,enter]|(apply spl<;>intro h<;>try simp (disch:=omega) only[go_sem,ac95,enter,h]))
 all_goals rfl
theorem width_run (r:Int):PRun C0 96 [.int .i64 r] (.int .i64 (widM r)):=by
 refine prun_of ac96 rfl ?_
 unfold widM
 by_cases h1:r<128
 ·rw[if_pos h1]
  (repeat' first|simp (disch:=omega) only[go_sem,ac96,enter]|(apply spl<;>intro h<;>try simp (disch:=omega) only[go_sem,ac96,enter,h]))
 ·rw[if_neg h1]
  by_cases h2:r<2048
  ·rw[if_pos h2]
   (repeat' first|simp (disch:=omega) only[go_sem,ac96,enter]|(apply spl<;>intro h<;>try simp (disch:=omega) only[go_sem,ac96,enter,h]))
  ·rw[if_neg h2]
   by_cases h3:r<65536
   ·rw[if_pos h3]
    (repeat' first|simp (disch:=omega) only[go_sem,ac96,enter]|(apply spl<;>intro h<;>try simp (disch:=omega) only[go_sem,ac96,enter,h]))
   ·rw[if_neg h3]
    (repeat' first|simp (disch:=omega) only[go_sem,ac96,enter]|(apply spl<;>intro h<;>try simp (disch:=omega) only[go_sem,ac96,enter,h]))
theorem contI {c:UInt8} (h:contM c=true):(c.toNat:Int) / 64 * 64=128:=by have:=contM_iff.1 h; omega
theorem contN {c:UInt8} (h:contM c=false) : ¬ (c.toNat:Int) / 64 * 64=128:=fun e=>by
 have h2:contM c=true:=contM_iff.2 (by omega)
 rw[h] at h2
 cases h2
theorem decodeI_run (s:List UInt8) (k:Nat) (hs:s.length<2^31) (hk:k<s.length):PRun C0 84 [.str s,.int .i64 k] (.tup [.int .i64 (decM s k).1,.int .i64 (decM s k).2]):=by
 obtain ⟨b,hb⟩:=get_some hk
 have hbt:=b.toNat_lt
 have hdm:decM s k=decB s k b:=by unfold decM; rw[hb]
 have hkn:(k:Int).toNat=k:=rfl
 have hh:=head_run b
 rw[hdm]
 refine prun_of ac84 rfl ?_
 by_cases g0:headM b=(0,0)
 ·have hdec:decB s k b=(0,0):=by
   unfold headM at g0
   unfold decB
   repeat' split
   all_goals first | rfl | omega | (simp_all; done)
  rw[g0] at hh
  rw[hdec]
  (repeat' first|simp (disch:=omega) only[go_sem,ac84,enter,hb,hkn]|refine pure_of _ (hh) ?_|(apply spl<;>intro h<;>try simp (disch:=omega) only[go_sem,ac84,enter,hb,hkn ,h]))
 by_cases g1:b.toNat<128
 ·have hhm:headM b=(1,(b.toNat:Int)):=by unfold headM; rw[if_pos g1]
  rw[hhm] at hh
  (repeat' first|simp (disch:=omega) only[go_sem,ac84,enter,hb,hkn]|refine pure_of _ (hh) ?_|(apply spl<;>intro h<;>try simp (disch:=omega) only[go_sem,ac84,enter,hb,hkn ,h]))
  refine loop_of (α:=Unit) (fun _=>{ tmps:=slots 64 [(0,.str s),(1,.int .i64 k),(4,.int .i64 b.toNat),(6,.int .i64 1),(7,.int .i64 1)],heap:=[],base:=0 }) (fun _=>True) (fun _=>0) () rfl trivial ?_
  rintro _ _
  obtain ⟨r,hr⟩ : ∃ r:Int,r=(b.toNat:Int):=⟨_,rfl⟩
  have hfin:decB s k b=decFin r 1:=by
   have hc:charM r=true:=by unfold charM; simp; omega
   have hw:widM r=1:=by unfold widM; rw[if_pos (by omega)]
   unfold decB decFin
   rw[if_pos g1,hc,hw,hr]
   rfl
  rw[←hr]
  have hs1:=scalar_run r
  have hw1:=width_run r
  unfold decFin at hfin
  cases hc:charM r with
  | false=>
   rw[hc] at hs1 hfin
   simp only[Bool.false_and,Bool.false_eq_true,if_false] at hfin
   rw[hfin]
   (repeat' first|simp (disch:=omega) only[go_sem]|refine pure_of _ (hs1) ?_|refine pure_of _ (hw1) ?_|(apply spl<;>intro h<;>try simp (disch:=omega) only[go_sem,h]))
  | true=>
   rw[hc] at hs1 hfin
   simp only[Bool.true_and] at hfin
   by_cases hw:widM r=1
   ·rw[hw] at hw1
    rw[hw,if_pos (by simp)] at hfin
    rw[hfin]
    (repeat' first|simp (disch:=omega) only[go_sem]|refine pure_of _ (hs1) ?_|refine pure_of _ (hw1) ?_|(apply spl<;>intro h<;>try simp (disch:=omega) only[go_sem,h]))
   ·have hw2:(widM r == 1)=false:=by simpa using hw
    have hw3 : ¬ (widM r:Int)=1:=by omega
    rw[hw2] at hfin
    simp only[Bool.false_eq_true,if_false] at hfin
    rw[hfin]
    (repeat' first|simp (disch:=omega) only[go_sem,hw3]|refine pure_of _ (hs1) ?_|refine pure_of _ (hw1) ?_|(apply spl<;>intro h<;>try simp (disch:=omega) only[go_sem,hw3 ,h]))
 by_cases g2:192≤b.toNat∧b.toNat<224
 ·obtain ⟨g1',g2'⟩:=g2
  have hhm:headM b=(2,(b.toNat:Int) % 32):=by
   unfold headM
   repeat' split
   all_goals first | rfl | omega
  rw[hhm] at hh
  by_cases hlen:s.length<k+2
  ·have hnone:s[k+1]?=none:=List.getElem?_eq_none (by omega)
   have hdec:decB s k b=(0,0):=by
    unfold decB
    repeat' split
    all_goals first | rfl | omega | (rw[hnone]; first | rfl | (cases s[k+1]?<;>first | rfl | (cases s[k+2]?<;>rfl)))
   rw[hdec]
   (repeat' first|simp (disch:=omega) only[go_sem,ac84,enter,hb,hkn]|refine pure_of _ (hh) ?_|(apply spl<;>intro h<;>try simp (disch:=omega) only[go_sem,ac84,enter,hb,hkn ,h]))
  ·have hd0:True:=trivial
   obtain ⟨c,hc⟩:=get_some (s:=s) (k:=k+1) (by omega)
   have ct:=c.toNat_lt
   have kn1:((k:Int)+1).toNat=k+1:=by omega
   have hdec:decB s k b=dec2 b (some c):=by
    unfold decB
    repeat' split
    all_goals first | omega | (rw[hc])
   rw[dec2_some] at hdec
   (repeat' first|simp (disch:=omega) only[go_sem,ac84,enter,hb,hkn]|refine pure_of _ (hh) ?_|(apply spl<;>intro h<;>try simp (disch:=omega) only[go_sem,ac84,enter,hb,hkn ,h]))
   refine loop_of (α:=Nat) (fun i=>{ tmps:=slots 64 [(0,.str s),(1,.int .i64 k),(4,.int .i64 (pick4 ((b.toNat:Int) % 32) (((b.toNat:Int) % 32) * 64+(c.toNat:Int) % 64) 0 0 i)),(6,.int .i64 2),(7,.int .i64 i)],heap:=[],base:=0 }) (fun i=>1≤i∧i≤2∧(1<i→contM c=true)) (fun i=>2-i) 1 rfl (by refine ⟨by omega,by omega,fun h=>by omega⟩) ?_
   rintro i ⟨hi1,hi2,ic⟩
   rcases (by omega:i=1∨i=2) with rfl | rfl
   ·have hp:pick4 ((b.toNat:Int) % 32) (((b.toNat:Int) % 32) * 64+(c.toNat:Int) % 64) 0 0 1=((b.toNat:Int) % 32):=rfl
    have hq:pick4 ((b.toNat:Int) % 32) (((b.toNat:Int) % 32) * 64+(c.toNat:Int) % 64) 0 0 2=(((b.toNat:Int) % 32) * 64+(c.toNat:Int) % 64):=rfl
    rw[hp]
    cases hcc:contM c with
    | false=>
     have hno:=contN hcc
     have hdec0:decB s k b=(0,0):=by rw[hdec]; simp [hcc]
     rw[hdec0]
     (repeat' first|simp (disch:=omega) only[go_sem,hkn,kn1,hc,b192,hno,c1',c2',c3',c4']|(apply spl<;>intro h<;>try simp (disch:=omega) only[go_sem,hkn,kn1,hc,b192,hno,c1',c2',c3',c4',h]))
    | true=>
     have hyes:=contI hcc
     (repeat' first|simp (disch:=omega) only[go_sem,hkn,kn1,hc,b192,b63,hyes,pw6,or64,c1',c2',c3',c4']|(apply spl<;>intro h<;>try simp (disch:=omega) only[go_sem,hkn,kn1,hc,b192,b63,hyes,pw6,or64,c1',c2',c3',c4',h]))
     exact ⟨2,by rw[hq]; rfl,⟨by omega,by omega,fun _=>by first | exact hcc | trivial⟩,by omega⟩
   ·have hp:pick4 ((b.toNat:Int) % 32) (((b.toNat:Int) % 32) * 64+(c.toNat:Int) % 64) 0 0 2=(((b.toNat:Int) % 32) * 64+(c.toNat:Int) % 64):=rfl
    rw[hp]
    have hcc:=ic (by omega)
    have hcc':=contM_iff.1 hcc
    obtain ⟨r,hr⟩ : ∃ r:Int,r=(((b.toNat:Int) % 32) * 64+(c.toNat:Int) % 64):=⟨_,rfl⟩
    have er:(((b.toNat:Int)-192) * 64+((c.toNat:Int)-128))=r:=by omega
    have hfin:decB s k b=decFin r 2:=by
     rw[hdec,er]
     simp [hcc]
    rw[←hr]
    have hs1:=scalar_run r
    have hw1:=width_run r
    unfold decFin at hfin
    cases hc:charM r with
    | false=>
     rw[hc] at hs1 hfin
     simp only[Bool.false_and,Bool.false_eq_true,if_false] at hfin
     rw[hfin]
     (repeat' first|simp (disch:=omega) only[go_sem]|refine pure_of _ (hs1) ?_|refine pure_of _ (hw1) ?_|(apply spl<;>intro h<;>try simp (disch:=omega) only[go_sem,h]))
    | true=>
     rw[hc] at hs1 hfin
     simp only[Bool.true_and] at hfin
     by_cases hw:widM r=2
     ·rw[hw] at hw1
      rw[hw,if_pos (by simp)] at hfin
      rw[hfin]
      (repeat' first|simp (disch:=omega) only[go_sem]|refine pure_of _ (hs1) ?_|refine pure_of _ (hw1) ?_|(apply spl<;>intro h<;>try simp (disch:=omega) only[go_sem,h]))
     ·have hw2:(widM r == 2)=false:=by simpa using hw
      have hw3 : ¬ (widM r:Int)=2:=by omega
      rw[hw2] at hfin
      simp only[Bool.false_eq_true,if_false] at hfin
      rw[hfin]
      (repeat' first|simp (disch:=omega) only[go_sem,hw3]|refine pure_of _ (hs1) ?_|refine pure_of _ (hw1) ?_|(apply spl<;>intro h<;>try simp (disch:=omega) only[go_sem,hw3 ,h]))
 by_cases g3:224≤b.toNat∧b.toNat<240
 ·obtain ⟨g1',g2'⟩:=g3
  have hhm:headM b=(3,(b.toNat:Int) % 16):=by
   unfold headM
   repeat' split
   all_goals first | rfl | omega
  rw[hhm] at hh
  by_cases hlen:s.length<k+3
  ·have hnone:s[k+2]?=none:=List.getElem?_eq_none (by omega)
   have hdec:decB s k b=(0,0):=by
    unfold decB
    repeat' split
    all_goals first | rfl | omega | (rw[hnone]; first | rfl | (cases s[k+1]?<;>first | rfl | (cases s[k+2]?<;>rfl)))
   rw[hdec]
   (repeat' first|simp (disch:=omega) only[go_sem,ac84,enter,hb,hkn]|refine pure_of _ (hh) ?_|(apply spl<;>intro h<;>try simp (disch:=omega) only[go_sem,ac84,enter,hb,hkn ,h]))
  ·have hd0:True:=trivial
   obtain ⟨c,hc⟩:=get_some (s:=s) (k:=k+1) (by omega)
   have ct:=c.toNat_lt
   have kn1:((k:Int)+1).toNat=k+1:=by omega
   obtain ⟨d,hd⟩:=get_some (s:=s) (k:=k+2) (by omega)
   have dt:=d.toNat_lt
   have kn2:((k:Int)+2).toNat=k+2:=by omega
   have hdec:decB s k b=dec3 b (some c) (some d):=by
    unfold decB
    repeat' split
    all_goals first | omega | (rw[hc,hd])
   rw[dec3_some] at hdec
   (repeat' first|simp (disch:=omega) only[go_sem,ac84,enter,hb,hkn]|refine pure_of _ (hh) ?_|(apply spl<;>intro h<;>try simp (disch:=omega) only[go_sem,ac84,enter,hb,hkn ,h]))
   refine loop_of (α:=Nat) (fun i=>{ tmps:=slots 64 [(0,.str s),(1,.int .i64 k),(4,.int .i64 (pick4 ((b.toNat:Int) % 16) (((b.toNat:Int) % 16) * 64+(c.toNat:Int) % 64) ((((b.toNat:Int) % 16) * 64+(c.toNat:Int) % 64) * 64+(d.toNat:Int) % 64) 0 i)),(6,.int .i64 3),(7,.int .i64 i)],heap:=[],base:=0 }) (fun i=>1≤i∧i≤3∧(1<i→contM c=true)∧(2<i→contM d=true)) (fun i=>3-i) 1 rfl (by refine ⟨by omega,by omega,fun h=>by omega,fun h=>by omega⟩) ?_
   rintro i ⟨hi1,hi2,ic,id⟩
   rcases (by omega:i=1∨i=2∨i=3) with rfl | rfl | rfl
   ·have hp:pick4 ((b.toNat:Int) % 16) (((b.toNat:Int) % 16) * 64+(c.toNat:Int) % 64) ((((b.toNat:Int) % 16) * 64+(c.toNat:Int) % 64) * 64+(d.toNat:Int) % 64) 0 1=((b.toNat:Int) % 16):=rfl
    have hq:pick4 ((b.toNat:Int) % 16) (((b.toNat:Int) % 16) * 64+(c.toNat:Int) % 64) ((((b.toNat:Int) % 16) * 64+(c.toNat:Int) % 64) * 64+(d.toNat:Int) % 64) 0 2=(((b.toNat:Int) % 16) * 64+(c.toNat:Int) % 64):=rfl
    rw[hp]
    cases hcc:contM c with
    | false=>
     have hno:=contN hcc
     have hdec0:decB s k b=(0,0):=by rw[hdec]; simp [hcc]
     rw[hdec0]
     (repeat' first|simp (disch:=omega) only[go_sem,hkn,kn1,hc,b192,hno,c1',c2',c3',c4']|(apply spl<;>intro h<;>try simp (disch:=omega) only[go_sem,hkn,kn1,hc,b192,hno,c1',c2',c3',c4',h]))
    | true=>
     have hyes:=contI hcc
     (repeat' first|simp (disch:=omega) only[go_sem,hkn,kn1,hc,b192,b63,hyes,pw6,or64,c1',c2',c3',c4']|(apply spl<;>intro h<;>try simp (disch:=omega) only[go_sem,hkn,kn1,hc,b192,b63,hyes,pw6,or64,c1',c2',c3',c4',h]))
     exact ⟨2,by rw[hq]; rfl,⟨by omega,by omega,fun _=>by first | exact hcc | trivial,fun h=>by omega⟩,by omega⟩
   ·have hp:pick4 ((b.toNat:Int) % 16) (((b.toNat:Int) % 16) * 64+(c.toNat:Int) % 64) ((((b.toNat:Int) % 16) * 64+(c.toNat:Int) % 64) * 64+(d.toNat:Int) % 64) 0 2=(((b.toNat:Int) % 16) * 64+(c.toNat:Int) % 64):=rfl
    have hq:pick4 ((b.toNat:Int) % 16) (((b.toNat:Int) % 16) * 64+(c.toNat:Int) % 64) ((((b.toNat:Int) % 16) * 64+(c.toNat:Int) % 64) * 64+(d.toNat:Int) % 64) 0 3=((((b.toNat:Int) % 16) * 64+(c.toNat:Int) % 64) * 64+(d.toNat:Int) % 64):=rfl
    rw[hp]
    cases hdc:contM d with
    | false=>
     have hno:=contN hdc
     have hdec0:decB s k b=(0,0):=by rw[hdec]; simp [hdc]
     rw[hdec0]
     (repeat' first|simp (disch:=omega) only[go_sem,hkn,kn2,hd,b192,hno,c1',c2',c3',c4']|(apply spl<;>intro h<;>try simp (disch:=omega) only[go_sem,hkn,kn2,hd,b192,hno,c1',c2',c3',c4',h]))
    | true=>
     have hyes:=contI hdc
     (repeat' first|simp (disch:=omega) only[go_sem,hkn,kn2,hd,b192,b63,hyes,pw6,or64,c1',c2',c3',c4']|(apply spl<;>intro h<;>try simp (disch:=omega) only[go_sem,hkn,kn2,hd,b192,b63,hyes,pw6,or64,c1',c2',c3',c4',h]))
     exact ⟨3,by rw[hq]; rfl,⟨by omega,by omega,fun h=>ic (by omega),fun _=>by first | exact hdc | trivial⟩,by omega⟩
   ·have hp:pick4 ((b.toNat:Int) % 16) (((b.toNat:Int) % 16) * 64+(c.toNat:Int) % 64) ((((b.toNat:Int) % 16) * 64+(c.toNat:Int) % 64) * 64+(d.toNat:Int) % 64) 0 3=((((b.toNat:Int) % 16) * 64+(c.toNat:Int) % 64) * 64+(d.toNat:Int) % 64):=rfl
    rw[hp]
    have hcc:=ic (by omega)
    have hcc':=contM_iff.1 hcc
    have hdc:=id (by omega)
    have hdc':=contM_iff.1 hdc
    obtain ⟨r,hr⟩ : ∃ r:Int,r=((((b.toNat:Int) % 16) * 64+(c.toNat:Int) % 64) * 64+(d.toNat:Int) % 64):=⟨_,rfl⟩
    have er:((((b.toNat:Int)-224) * 64+((c.toNat:Int)-128)) * 64+((d.toNat:Int)-128))=r:=by omega
    have hfin:decB s k b=decFin r 3:=by
     rw[hdec,er]
     simp [hcc,hdc]
    rw[←hr]
    have hs1:=scalar_run r
    have hw1:=width_run r
    unfold decFin at hfin
    cases hc:charM r with
    | false=>
     rw[hc] at hs1 hfin
     simp only[Bool.false_and,Bool.false_eq_true,if_false] at hfin
     rw[hfin]
     (repeat' first|simp (disch:=omega) only[go_sem]|refine pure_of _ (hs1) ?_|refine pure_of _ (hw1) ?_|(apply spl<;>intro h<;>try simp (disch:=omega) only[go_sem,h]))
    | true=>
     rw[hc] at hs1 hfin
     simp only[Bool.true_and] at hfin
     by_cases hw:widM r=3
     ·rw[hw] at hw1
      rw[hw,if_pos (by simp)] at hfin
      rw[hfin]
      (repeat' first|simp (disch:=omega) only[go_sem]|refine pure_of _ (hs1) ?_|refine pure_of _ (hw1) ?_|(apply spl<;>intro h<;>try simp (disch:=omega) only[go_sem,h]))
     ·have hw2:(widM r == 3)=false:=by simpa using hw
      have hw3 : ¬ (widM r:Int)=3:=by omega
      rw[hw2] at hfin
      simp only[Bool.false_eq_true,if_false] at hfin
      rw[hfin]
      (repeat' first|simp (disch:=omega) only[go_sem,hw3]|refine pure_of _ (hs1) ?_|refine pure_of _ (hw1) ?_|(apply spl<;>intro h<;>try simp (disch:=omega) only[go_sem,hw3 ,h]))
 by_cases g4:240≤b.toNat∧b.toNat<248
 ·obtain ⟨g1',g2'⟩:=g4
  have hhm:headM b=(4,(b.toNat:Int) % 8):=by
   unfold headM
   repeat' split
   all_goals first | rfl | omega
  rw[hhm] at hh
  by_cases hlen:s.length<k+4
  ·have hnone:s[k+3]?=none:=List.getElem?_eq_none (by omega)
   have hdec:decB s k b=(0,0):=by
    unfold decB
    repeat' split
    all_goals first | rfl | omega | (rw[hnone]; first | rfl | (cases s[k+1]?<;>first | rfl | (cases s[k+2]?<;>rfl)))
   rw[hdec]
   (repeat' first|simp (disch:=omega) only[go_sem,ac84,enter,hb,hkn]|refine pure_of _ (hh) ?_|(apply spl<;>intro h<;>try simp (disch:=omega) only[go_sem,ac84,enter,hb,hkn ,h]))
  ·have hd0:True:=trivial
   obtain ⟨c,hc⟩:=get_some (s:=s) (k:=k+1) (by omega)
   have ct:=c.toNat_lt
   have kn1:((k:Int)+1).toNat=k+1:=by omega
   obtain ⟨d,hd⟩:=get_some (s:=s) (k:=k+2) (by omega)
   have dt:=d.toNat_lt
   have kn2:((k:Int)+2).toNat=k+2:=by omega
   obtain ⟨e,he⟩:=get_some (s:=s) (k:=k+3) (by omega)
   have et:=e.toNat_lt
   have kn3:((k:Int)+3).toNat=k+3:=by omega
   have hdec:decB s k b=dec4 b (some c) (some d) (some e):=by
    unfold decB
    repeat' split
    all_goals first | omega | (rw[hc,hd,he])
   rw[dec4_some] at hdec
   (repeat' first|simp (disch:=omega) only[go_sem,ac84,enter,hb,hkn]|refine pure_of _ (hh) ?_|(apply spl<;>intro h<;>try simp (disch:=omega) only[go_sem,ac84,enter,hb,hkn ,h]))
   refine loop_of (α:=Nat) (fun i=>{ tmps:=slots 64 [(0,.str s),(1,.int .i64 k),(4,.int .i64 (pick4 ((b.toNat:Int) % 8) (((b.toNat:Int) % 8) * 64+(c.toNat:Int) % 64) ((((b.toNat:Int) % 8) * 64+(c.toNat:Int) % 64) * 64+(d.toNat:Int) % 64) (((((b.toNat:Int) % 8) * 64+(c.toNat:Int) % 64) * 64+(d.toNat:Int) % 64) * 64+(e.toNat:Int) % 64) i)),(6,.int .i64 4),(7,.int .i64 i)],heap:=[],base:=0 }) (fun i=>1≤i∧i≤4∧(1<i→contM c=true)∧(2<i→contM d=true)∧(3<i→contM e=true)) (fun i=>4-i) 1 rfl (by refine ⟨by omega,by omega,fun h=>by omega,fun h=>by omega,fun h=>by omega⟩) ?_
   rintro i ⟨hi1,hi2,ic,id,ie⟩
   rcases (by omega:i=1∨i=2∨i=3∨i=4) with rfl | rfl | rfl | rfl
   ·have hp:pick4 ((b.toNat:Int) % 8) (((b.toNat:Int) % 8) * 64+(c.toNat:Int) % 64) ((((b.toNat:Int) % 8) * 64+(c.toNat:Int) % 64) * 64+(d.toNat:Int) % 64) (((((b.toNat:Int) % 8) * 64+(c.toNat:Int) % 64) * 64+(d.toNat:Int) % 64) * 64+(e.toNat:Int) % 64) 1=((b.toNat:Int) % 8):=rfl
    have hq:pick4 ((b.toNat:Int) % 8) (((b.toNat:Int) % 8) * 64+(c.toNat:Int) % 64) ((((b.toNat:Int) % 8) * 64+(c.toNat:Int) % 64) * 64+(d.toNat:Int) % 64) (((((b.toNat:Int) % 8) * 64+(c.toNat:Int) % 64) * 64+(d.toNat:Int) % 64) * 64+(e.toNat:Int) % 64) 2=(((b.toNat:Int) % 8) * 64+(c.toNat:Int) % 64):=rfl
    rw[hp]
    cases hcc:contM c with
    | false=>
     have hno:=contN hcc
     have hdec0:decB s k b=(0,0):=by rw[hdec]; simp [hcc]
     rw[hdec0]
     (repeat' first|simp (disch:=omega) only[go_sem,hkn,kn1,hc,b192,hno,c1',c2',c3',c4']|(apply spl<;>intro h<;>try simp (disch:=omega) only[go_sem,hkn,kn1,hc,b192,hno,c1',c2',c3',c4',h]))
    | true=>
     have hyes:=contI hcc
     (repeat' first|simp (disch:=omega) only[go_sem,hkn,kn1,hc,b192,b63,hyes,pw6,or64,c1',c2',c3',c4']|(apply spl<;>intro h<;>try simp (disch:=omega) only[go_sem,hkn,kn1,hc,b192,b63,hyes,pw6,or64,c1',c2',c3',c4',h]))
     exact ⟨2,by rw[hq]; rfl,⟨by omega,by omega,fun _=>by first | exact hcc | trivial,fun h=>by omega,fun h=>by omega⟩,by omega⟩
   ·have hp:pick4 ((b.toNat:Int) % 8) (((b.toNat:Int) % 8) * 64+(c.toNat:Int) % 64) ((((b.toNat:Int) % 8) * 64+(c.toNat:Int) % 64) * 64+(d.toNat:Int) % 64) (((((b.toNat:Int) % 8) * 64+(c.toNat:Int) % 64) * 64+(d.toNat:Int) % 64) * 64+(e.toNat:Int) % 64) 2=(((b.toNat:Int) % 8) * 64+(c.toNat:Int) % 64):=rfl
    have hq:pick4 ((b.toNat:Int) % 8) (((b.toNat:Int) % 8) * 64+(c.toNat:Int) % 64) ((((b.toNat:Int) % 8) * 64+(c.toNat:Int) % 64) * 64+(d.toNat:Int) % 64) (((((b.toNat:Int) % 8) * 64+(c.toNat:Int) % 64) * 64+(d.toNat:Int) % 64) * 64+(e.toNat:Int) % 64) 3=((((b.toNat:Int) % 8) * 64+(c.toNat:Int) % 64) * 64+(d.toNat:Int) % 64):=rfl
    rw[hp]
    cases hdc:contM d with
    | false=>
     have hno:=contN hdc
     have hdec0:decB s k b=(0,0):=by rw[hdec]; simp [hdc]
     rw[hdec0]
     (repeat' first|simp (disch:=omega) only[go_sem,hkn,kn2,hd,b192,hno,c1',c2',c3',c4']|(apply spl<;>intro h<;>try simp (disch:=omega) only[go_sem,hkn,kn2,hd,b192,hno,c1',c2',c3',c4',h]))
    | true=>
     have hyes:=contI hdc
     (repeat' first|simp (disch:=omega) only[go_sem,hkn,kn2,hd,b192,b63,hyes,pw6,or64,c1',c2',c3',c4']|(apply spl<;>intro h<;>try simp (disch:=omega) only[go_sem,hkn,kn2,hd,b192,b63,hyes,pw6,or64,c1',c2',c3',c4',h]))
     exact ⟨3,by rw[hq]; rfl,⟨by omega,by omega,fun h=>ic (by omega),fun _=>by first | exact hdc | trivial,fun h=>by omega⟩,by omega⟩
   ·have hp:pick4 ((b.toNat:Int) % 8) (((b.toNat:Int) % 8) * 64+(c.toNat:Int) % 64) ((((b.toNat:Int) % 8) * 64+(c.toNat:Int) % 64) * 64+(d.toNat:Int) % 64) (((((b.toNat:Int) % 8) * 64+(c.toNat:Int) % 64) * 64+(d.toNat:Int) % 64) * 64+(e.toNat:Int) % 64) 3=((((b.toNat:Int) % 8) * 64+(c.toNat:Int) % 64) * 64+(d.toNat:Int) % 64):=rfl
    have hq:pick4 ((b.toNat:Int) % 8) (((b.toNat:Int) % 8) * 64+(c.toNat:Int) % 64) ((((b.toNat:Int) % 8) * 64+(c.toNat:Int) % 64) * 64+(d.toNat:Int) % 64) (((((b.toNat:Int) % 8) * 64+(c.toNat:Int) % 64) * 64+(d.toNat:Int) % 64) * 64+(e.toNat:Int) % 64) 4=(((((b.toNat:Int) % 8) * 64+(c.toNat:Int) % 64) * 64+(d.toNat:Int) % 64) * 64+(e.toNat:Int) % 64):=rfl
    rw[hp]
    cases hec:contM e with
    | false=>
     have hno:=contN hec
     have hdec0:decB s k b=(0,0):=by rw[hdec]; simp [hec]
     rw[hdec0]
     (repeat' first|simp (disch:=omega) only[go_sem,hkn,kn3,he,b192,hno,c1',c2',c3',c4']|(apply spl<;>intro h<;>try simp (disch:=omega) only[go_sem,hkn,kn3,he,b192,hno,c1',c2',c3',c4',h]))
    | true=>
     have hyes:=contI hec
     (repeat' first|simp (disch:=omega) only[go_sem,hkn,kn3,he,b192,b63,hyes,pw6,or64,c1',c2',c3',c4']|(apply spl<;>intro h<;>try simp (disch:=omega) only[go_sem,hkn,kn3,he,b192,b63,hyes,pw6,or64,c1',c2',c3',c4',h]))
     exact ⟨4,by rw[hq]; rfl,⟨by omega,by omega,fun h=>ic (by omega),fun h=>id (by omega),fun _=>by first | exact hec | trivial⟩,by omega⟩
   ·have hp:pick4 ((b.toNat:Int) % 8) (((b.toNat:Int) % 8) * 64+(c.toNat:Int) % 64) ((((b.toNat:Int) % 8) * 64+(c.toNat:Int) % 64) * 64+(d.toNat:Int) % 64) (((((b.toNat:Int) % 8) * 64+(c.toNat:Int) % 64) * 64+(d.toNat:Int) % 64) * 64+(e.toNat:Int) % 64) 4=(((((b.toNat:Int) % 8) * 64+(c.toNat:Int) % 64) * 64+(d.toNat:Int) % 64) * 64+(e.toNat:Int) % 64):=rfl
    rw[hp]
    have hcc:=ic (by omega)
    have hcc':=contM_iff.1 hcc
    have hdc:=id (by omega)
    have hdc':=contM_iff.1 hdc
    have hec:=ie (by omega)
    have hec':=contM_iff.1 hec
    obtain ⟨r,hr⟩ : ∃ r:Int,r=(((((b.toNat:Int) % 8) * 64+(c.toNat:Int) % 64) * 64+(d.toNat:Int) % 64) * 64+(e.toNat:Int) % 64):=⟨_,rfl⟩
    have er:(((((b.toNat:Int)-240) * 64+((c.toNat:Int)-128)) * 64+((d.toNat:Int)-128)) * 64+((e.toNat:Int)-128))=r:=by omega
    have hfin:decB s k b=decFin r 4:=by
     rw[hdec,er]
     simp [hcc,hdc,hec]
    rw[←hr]
    have hs1:=scalar_run r
    have hw1:=width_run r
    unfold decFin at hfin
    cases hc:charM r with
    | false=>
     rw[hc] at hs1 hfin
     simp only[Bool.false_and,Bool.false_eq_true,if_false] at hfin
     rw[hfin]
     (repeat' first|simp (disch:=omega) only[go_sem]|refine pure_of _ (hs1) ?_|refine pure_of _ (hw1) ?_|(apply spl<;>intro h<;>try simp (disch:=omega) only[go_sem,h]))
    | true=>
     rw[hc] at hs1 hfin
     simp only[Bool.true_and] at hfin
     by_cases hw:widM r=4
     ·rw[hw] at hw1
      rw[hw,if_pos (by simp)] at hfin
      rw[hfin]
      (repeat' first|simp (disch:=omega) only[go_sem]|refine pure_of _ (hs1) ?_|refine pure_of _ (hw1) ?_|(apply spl<;>intro h<;>try simp (disch:=omega) only[go_sem,h]))
     ·have hw2:(widM r == 4)=false:=by simpa using hw
      have hw3 : ¬ (widM r:Int)=4:=by omega
      rw[hw2] at hfin
      simp only[Bool.false_eq_true,if_false] at hfin
      rw[hfin]
      (repeat' first|simp (disch:=omega) only[go_sem,hw3]|refine pure_of _ (hs1) ?_|refine pure_of _ (hw1) ?_|(apply spl<;>intro h<;>try simp (disch:=omega) only[go_sem,hw3 ,h]))
 exfalso
 apply g0
 unfold headM
 repeat' split
 all_goals first | rfl | omega
end Ago
set_option maxRecDepth 100000
set_option maxHeartbeats 4000000
namespace Ago
open Go (IntKind)
theorem lenI_ex (s:List UInt8) (hs:s.length<2^30) : ∃ n:Int,PRun C0 63 [.str s] (.tup [.int .i64 n,.int .i64 (if utf s then 0 else 5)]):=by
 have h:=prunE_of (C:=C0) (f:=63) (ts:=[.str s]) (k:=fun v=>∃ n:Int,v = .tup [.int .i64 n,.int .i64 (if utf s then 0 else 5)]) ac63 rfl (by
  (repeat' first|simp (disch:=omega) only[go_sem,ac63,enter]|(apply spl<;>intro h<;>try simp (disch:=omega) only[go_sem,ac63,enter,h]))
  refine loop_of (α:=Nat × Nat) (fun a=>{ tmps:=slots 26 [(0,.str s),(4,.int .i64 a.2),(5,.int .i64 a.1)],heap:=[],base:=0 }) (fun a=>a.1≤s.length∧a.2≤a.1∧utf s=walkU s (s.length-a.1+1) a.1) (fun a=>s.length-a.1) (0,0) rfl ⟨by simp,by simp,rfl⟩ ?_
  rintro ⟨k,j⟩ ⟨hk,hl,hw⟩
  simp only at hk hl hw
  by_cases hlt:k<s.length
  ·have hd:=decodeI_run s k (by omega) hlt
   obtain ⟨m,hm,hsz⟩:=decM_size s k
   rw[hm] at hd
   by_cases h0:m=0
   ·subst h0
    rw[walk_stop hlt hm] at hw
    rw[hw]
    (repeat' first|simp (disch:=omega) only[go_sem]|refine pure_of _ (hd) ?_|(apply spl<;>intro h<;>try simp (disch:=omega) only[go_sem,h]))
    exact ⟨_,rfl⟩
   ·rw[walk_step hlt hm h0] at hw
    (repeat' first|simp (disch:=omega) only[go_sem]|refine pure_of _ (hd) ?_|(apply spl<;>intro h<;>try simp (disch:=omega) only[go_sem,h]))
    exact ⟨(k+m,j+1),rfl,⟨by simp only; omega,by simp only; omega,hw⟩,by simp only; omega⟩
  ·rw[walk_end (by omega)] at hw
   rw[hw]
   (repeat' first|simp (disch:=omega) only[go_sem]|(apply spl<;>intro h<;>try simp (disch:=omega) only[go_sem,h]))
   exact ⟨_,rfl⟩)
 obtain ⟨v,h1,n,rfl⟩:=h
 exact ⟨n,h1⟩
theorem utfI_run (s:List UInt8) (hs:s.length<2^30):PRun C0 46 [.str s] (.bool (utf s)):=by
 obtain ⟨n,hb⟩:=lenI_ex s hs
 refine prun_of ac46 rfl ?_
 cases hu:utf s with
 | true=>
  rw[hu] at hb
  simp only[if_true] at hb
  (repeat' first|simp (disch:=omega) only[go_sem,ac46,enter]|refine pure_of _ (hb) ?_|(apply spl<;>intro h<;>try simp (disch:=omega) only[go_sem,ac46,enter ,h]))
 | false=>
  rw[hu] at hb
  simp only[Bool.false_eq_true,if_false] at hb
  (repeat' first|simp (disch:=omega) only[go_sem,ac46,enter]|refine pure_of _ (hb) ?_|(apply spl<;>intro h<;>try simp (disch:=omega) only[go_sem,ac46,enter ,h]))
end Ago
set_option maxRecDepth 100000
set_option maxHeartbeats 4000000
namespace Ago
open Go (IntKind)
def keyM (k:List UInt8):Int:=if utf k=false then 5 else if 1024<k.length then 10 else 0
theorem keyI_run (k:List UInt8) (hk:k.length<2^30):PRun C0 151 [.str k] (.int .i64 (keyM k)):=by
 have hu:=utfI_run k hk
 refine prun_of ac151 rfl ?_
 unfold keyM
 cases hb:utf k with
 | false=>
  rw[hb] at hu
  rw[if_pos rfl]
  (repeat' first|simp (disch:=omega) only[go_sem,ac151,enter]|refine pure_of _ (hu) ?_|(apply spl<;>intro h<;>try simp (disch:=omega) only[go_sem,ac151,enter ,h]))
 | true=>
  rw[hb] at hu
  rw[if_neg (by simp)]
  by_cases h:1024<k.length
  ·rw[if_pos h]
   (repeat' first|simp (disch:=omega) only[go_sem,ac151,enter]|refine pure_of _ (hu) ?_|(apply spl<;>intro h<;>try simp (disch:=omega) only[go_sem,ac151,enter ,h]))
  ·rw[if_neg h]
   (repeat' first|simp (disch:=omega) only[go_sem,ac151,enter]|refine pure_of _ (hu) ?_|(apply spl<;>intro h<;>try simp (disch:=omega) only[go_sem,ac151,enter ,h]))
end Ago
set_option maxRecDepth 100000
set_option maxHeartbeats 4000000
namespace Ago
open Go (IntKind)
def extraM (v:V):Bool:=
 (!(v.s.kind == 1) && v.s.bool) || (!(v.s.kind == 2) && !numZ v.s.num) || (!(v.s.kind == 3) && !tmZ v.s.time) ||
 (!(v.s.kind == 4) && !(v.s.text == [])) || (!(v.s.kind == 5) && decide (0<v.s.bytes.length)) || (!(v.s.kind == 6) && decide (0<v.l.length)) || (!(v.s.kind == 7) && decide (0<v.f.length))
theorem len_zero_bool {α:Type} (l:List α):((l.length:Int) == 0) = !decide (0<l.length):=by
 cases l with
 | nil=>rfl
 | cons x l=>simp; omega
theorem own_extra (v:V):ownM v=(decide (0≤v.s.kind∧v.s.kind≤7) && !extraM v):=by
 unfold ownM extraM
 simp only[len_zero_bool,Bool.not_or,Bool.not_and,Bool.not_not,Bool.and_assoc,Bool.not_eq_eq_eq_not,beq_false]
theorem extra_run (v:V):PRun C0 139 [encV v] (.bool (extraM v)):=by
 refine prun_of ac139 rfl ?_
 rw[encV_eq]
 (repeat' first|simp (disch:=omega) only[go_sem,ac139,enter,List.length_map,encB_len]|(apply spl<;>intro h<;>try simp (disch:=omega) only[go_sem,ac139,enter,List.length_map,encB_len,h]))
 all_goals (congr 2; unfold extraM numZ tmZ; simp_all [List.length_pos_iff])
 all_goals grind
end Ago
set_option maxRecDepth 100000
set_option maxHeartbeats 4000000
namespace Ago
open Go (IntKind)
def setMap (l:List (List UInt8)):List (AV × AV):=l.map fun x=>(.str x,.bool true)
theorem calm_set (l:List (List UInt8)):Calm (.map (setMap l)):=calm_map fun x hx=>by
 unfold setMap at hx
 obtain ⟨y,_,rfl⟩:=List.mem_map.1 hx
 exact ⟨still_str y,still_bool true⟩
theorem findKey_set (k:List UInt8) : ∀ (l:List (List UInt8)) (i:Nat),(l.contains k=false→findKey (.one .str) (.str k) (setMap l) i=some none)∧(l.contains k=true→∃ j,findKey (.one .str) (.str k) (setMap l) i=some (some (j,.bool true)))
 | [],i=>⟨fun _=>rfl,fun h=>by simp at h⟩
 | x::l,i=>by
  obtain ⟨h1,h2⟩:=findKey_set k l (i+1)
  by_cases he:k=x
  ·subst he
   refine ⟨fun h=>by simp at h,fun _=>⟨i,?_⟩⟩
   simp [setMap,findKey,keyEq,cellEq]
  ·have e:findKey (.one .str) (.str k) (setMap (x::l)) i=findKey (.one .str) (.str k) (setMap l) (i+1):=by
    have:(k == x)=false:=by simpa using he
    simp [setMap,findKey,keyEq,cellEq,this]
   rw[e]
   have hc:(x::l).contains k=l.contains k:=by
    have:(k == x)=false:=by simpa using he
    rw[List.contains_cons,this,Bool.false_or]
   rw[hc]
   exact ⟨h1,h2⟩
theorem keysI_run (f:List (List UInt8 × V)) (hf:f.length<2^30) (hk : ∀ x,x∈f→x.1.length<2^30):PRun C0 142 [.tsl 14 (f.map encFd)] (.int .i64 (keysM (f.map (·.1)))):=by
 refine prun_of ac142 rfl ?_
 (repeat' first|simp (disch:=omega) only[go_sem,ac142,enter]|(apply spl<;>intro h<;>try simp (disch:=omega) only[go_sem,ac142,enter,h]))
 refine loop_of (α:=Nat) (fun i=>{ tmps:=slots 28 [(3,.mref 0),(8,.tsl 14 (f.map encFd)),(9,.int .i64 f.length),(10,.int .i64 i)],heap:=[.map (setMap ((f.map (·.1)).take i))],base:=0 })
  (fun i=>i≤f.length∧keysM (f.map (·.1))=keysGo ((f.map (·.1)).take i) ((f.map (·.1)).drop i)) (fun i=>f.length-i) 0 (by first | rfl | (simp only[List.length_map]; rfl)) ⟨Nat.zero_le _,rfl⟩ ?_
 rintro i ⟨hi,hm⟩
 by_cases hlt:i<f.length
 ·obtain ⟨x,hx⟩:=get_some hlt
  have hx2:=map_get (g:=encFd) hx
  have hx3:=map_get (g:=fun y:List UInt8 × V=>y.1) hx
  rw[encFd_eq] at hx2
  have hu:=keyI_run x.1 (hk x (List.mem_of_getElem? hx))
  rw[keysM_step hx3] at hm
  unfold keyM at hu
  cases hux:utf x.1 with
  | false=>
   rw[if_pos hux] at hu
   rw[if_pos hux] at hm
   rw[hm]
   (repeat' first|simp (disch:=omega) only[go_sem,hx2,List.length_map]|refine pure_of _ (hu) ?_|(apply spl<;>intro h<;>try simp (disch:=omega) only[go_sem,hx2,List.length_map ,h]))
  | true=>
   rw[if_neg (by rw[hux]; simp)] at hu hm
   by_cases h1:1024<x.1.length
   ·rw[if_pos h1] at hm hu
    rw[hm]
    (repeat' first|simp (disch:=omega) only[go_sem,hx2,List.length_map]|refine pure_of _ (hu) ?_|(apply spl<;>intro h<;>try simp (disch:=omega) only[go_sem,hx2,List.length_map ,h]))
   ·rw[if_neg h1] at hm hu
    obtain ⟨hf1,hf2⟩:=findKey_set x.1 ((f.map (·.1)).take i) 0
    cases hc:((f.map (·.1)).take i).contains x.1 with
    | true=>
     obtain ⟨j,hj⟩:=hf2 hc
     rw[if_pos hc] at hm
     rw[hm]
     (repeat' first|simp (disch:=omega) only[go_sem,hx2,List.length_map,hj]|refine pure_of _ (hu) ?_|(apply spl<;>intro h<;>try simp (disch:=omega) only[go_sem,hx2,List.length_map,hj ,h]))
    | false=>
     have hj:=hf1 hc
     rw[if_neg (by rw[hc]; simp)] at hm
     (repeat' first|simp (disch:=omega) only[go_sem,hx2,List.length_map,hj]|refine pure_of _ (hu) ?_|(apply spl<;>intro h<;>try simp (disch:=omega) only[go_sem,hx2,List.length_map,hj ,h]))
     have e:setMap ((f.map (·.1)).take i)++[(.str x.1,.bool true)]=setMap ((f.map (·.1)).take (i+1)):=by
      rw[List.take_add_one,hx3]
      simp [setMap]
     rw[e]
     exact ⟨i+1,(norm_calm (.cons (calm_set _) (.cons (calm_row _ _ _) .nil))).trans rfl,⟨hlt,hm⟩,by omega⟩
 ·have e:keysM (f.map (·.1))=0:=by
   rw[hm,List.drop_of_length_le (by simp; omega)]
   unfold keysGo
   rfl
  rw[e]
  (repeat' first|simp (disch:=omega) only[go_sem,List.length_map]|(apply spl<;>intro h<;>try simp (disch:=omega) only[go_sem,List.length_map,h]))
end Ago
set_option maxRecDepth 100000
set_option maxHeartbeats 4000000
namespace Ago
open Go (IntKind)

def Flat (H:Heap):Prop:=∀ j b,H[j]?=some b→∃ n els,b=Blk.row n els false true j
theorem Flat.nil:Flat []:=fun j b h=>by simp at h
theorem Flat.push {H:Heap} (h:Flat H) (n:Nat) (els:List AV):Flat (H++[.row n els false true H.length]):=fun j b hj=>by
 by_cases hlt:j<H.length
 ·rw[List.getElem?_append_left hlt] at hj
  exact h j b hj
 ·rw[List.getElem?_append_right (by omega)] at hj
  have e:j-H.length=0:=by
   have:=(List.getElem?_eq_some_iff.1 hj).1
   simp at this
   omega
  rw[e] at hj
  obtain rfl:j=H.length:=by omega
  cases hj
  exact ⟨n,els,rfl⟩
theorem Flat.push' {H:Heap} {k:Nat} (h:Flat H) (n:Nat) (els:List AV) (hk:k=H.length):Flat (H++[.row n els false true k]):=by
 subst hk
 exact h.push n els
theorem Flat.set {H:Heap} (h:Flat H) (r n:Nat) (els:List AV):Flat (H.set r (.row n els false true r)):=fun j b hj=>by
 rw[List.getElem?_set] at hj
 split at hj
 ·rename_i e
  subst e
  split at hj
  ·cases hj
   exact ⟨n,els,rfl⟩
  ·cases hj
 ·exact h j b hj
theorem strikeGo_flat (r k:Nat) : ∀ (H:Heap) (i:Nat),(∀ j b,H[j]?=some b→∃ n els,b=Blk.row n els false true (i+j))→strikeGo r r k H i=some H
 | [],_,_=>rfl
 | b::H,i,h=>by
  have ih:=strikeGo_flat r k H (i+1) fun j b hj=>by
   obtain ⟨n,els,e⟩:=h (j+1) b (by simpa using hj)
   exact ⟨n,els,by rw[e]; congr 1; omega⟩
  obtain ⟨n,els,rfl⟩:=h 0 b (by simp)
  unfold strikeGo
  rw[ih]
  simp only[Nat.add_zero]
  rw[if_neg (by omega)]
theorem Flat.strike {H:Heap} (h:Flat H) (r k:Nat):strikeGo r r k H 0=some H:=strikeGo_flat r k H 0 fun j b hj=>by
 rw[Nat.zero_add]
 exact h j b hj
theorem Flat.refs {H:Heap} (h:Flat H):H.flatMap Blk.refs=[]:=by
 rw[List.flatMap_eq_nil_iff]
 intro b hb
 obtain ⟨j,hj⟩:=List.getElem?_of_mem hb
 obtain ⟨n,els,rfl⟩:=h j b hj
 rfl
theorem Flat.left {H E:Heap} (h:Flat (H++E)):Flat H:=fun j b hj=>h j b (by
 rw[List.getElem?_append_left (List.getElem?_eq_some_iff.1 hj).1]
 exact hj)

theorem getP0 {H l:Heap} {b:Blk} {m:Nat} (h:m=H.length):(H++b::l)[m]?=some b:=by
 subst h
 rw[List.getElem?_append_right (Nat.le_refl _),Nat.sub_self]
 rfl
theorem getP1 {H l:Heap} {a b:Blk} {m:Nat} (h:m=H.length+1):(H++a::b::l)[m]?=some b:=by
 subst h
 rw[List.getElem?_append_right (by omega),Nat.add_sub_cancel_left]
 rfl
theorem setP0 {H l:Heap} {b x:Blk} {m:Nat} (h:m=H.length):(H++b::l).set m x=H++x::l:=by
 subst h
 rw[List.set_append_right _ _ (Nat.le_refl _),Nat.sub_self]
 rfl
theorem setP1 {H l:Heap} {a b x:Blk} {m:Nat} (h:m=H.length+1):(H++a::b::l).set m x=H++a::x::l:=by
 subst h
 rw[List.set_append_right _ _ (by omega),Nat.add_sub_cancel_left]
 rfl
theorem getL {H l:Heap} {m:Nat} (h:m<H.length):(H++l)[m]?=H[m]?:=List.getElem?_append_left h
theorem setL {H l:Heap} {m:Nat} {x:Blk} (h:m<H.length):(H++l).set m x=H.set m x++l:=List.set_append_left _ _ h


theorem dropped_flat (ks:List Nat) : ∀ (E:Heap) (j:Nat),(∀ b,b∈E→∃ n els fam,b=Blk.row n els false true fam)→droppedGo ks E j=[]
 | [],_,_=>rfl
 | b::E,j,h=>by
  obtain ⟨n,els,fam,rfl⟩:=h b (by simp)
  unfold droppedGo
  exact dropped_flat ks E (j+1) fun b hb=>h b (by simp [hb])
theorem Flat.mem {H:Heap} (h:Flat H) : ∀ b,b∈H→∃ n els fam,b=Blk.row n els false true fam:=fun b hb=>by
 obtain ⟨j,hj⟩:=List.getElem?_of_mem hb
 obtain ⟨n,els,rfl⟩:=h j b hj
 exact ⟨n,els,j,rfl⟩
theorem ren_flat {H:Heap} {f:Nat→Option Nat} {g:Nat→Nat} {m:Nat} (hg : ∀ j,j<m→g j=j) : ∀ (H:Heap) (i:Nat),(∀ j b,H[j]?=some b→∃ n els,b=Blk.row n els false true (i+j))→i+H.length≤m→H.map (Blk.ren f g)=H
 | [],_,_,_=>rfl
 | b::H,i,h,hm=>by
  have ih:=ren_flat (H:=H) (f:=f) hg H (i+1) (fun j b hj=>by
   obtain ⟨n,els,e⟩:=h (j+1) b (by simpa using hj)
   exact ⟨n,els,by rw[e]; congr 1; omega⟩) (by simp at hm; omega)
  obtain ⟨n,els,rfl⟩:=h 0 b (by simp)
  rw[List.map_cons,ih]
  simp only[Blk.ren,if_true,Nat.add_zero]
  rw[hg i (by simp at hm; omega)]

theorem reach_low (H:Heap) (base:Nat) : ∀ (k:Nat) (todo seen:List Nat),(∀ r,r∈todo→r<base)→reach H base k todo seen=seen
 | 0,_,_,_=>rfl
 | _+1,[],_,_=>rfl
 | k+1,r::todo,seen,h=>by
  unfold reach
  rw[if_pos (h r (by simp))]
  exact reach_low H base k todo seen fun x hx=>h x (by simp [hx])

theorem norm_none {live:List Nat} {tm:List AV} {H E:Heap} {rb m:Nat} (hm:m=H.length) (hF:Flat (H++E)) {L:List AV} (hL:keepLive live 0 tm=L) (hr : ∀ r,r∈L.flatMap (AV.refsN 6)→r<m) (hi:L.map (AV.renN (renOf m []) 6)=L) :
  St.norm live ⟨tm,H++E,m,rb⟩=⟨L,H,m,0⟩:=by
 subst hm
 unfold St.norm St.normTm
 rw[hL]
 have h1:((H++E).take H.length)=H:=by simp
 have h2:((H++E).drop H.length)=E:=by simp
 simp only[h1]
 rw[hF.left.refs,List.append_nil,reach_low _ _ _ _ _ hr]
 unfold St.normBy
 simp only[h1,h2,List.map_nil,List.append_nil]
 rw[dropped_flat [] E _ fun b hb=>hF.mem b (by simp [hb])]
 have hc:closedBy (renOf H.length []) H=true:=by
  unfold closedBy
  rw[List.all_eq_true]
  intro b hb
  obtain ⟨n,els,fam,rfl⟩:=hF.left.mem b hb
  rfl
 simp only[hc,roFit,roMark,Bool.and_self,normIf]
 rw[hi,ren_flat (m:=H.length) (H:=H) (fun j hj=>by unfold famRen; rw[if_pos hj]) H 0 (fun j b hj=>by rw[Nat.zero_add]; exact hF.left j b hj) (by omega)]

theorem norm_first {live:List Nat} {tm:List AV} {H E:Heap} {rb m n:Nat} {els:List AV} (hm:m=H.length) (hF:Flat (H ++ .row n els false true m::E)) {L:List AV} (hL:keepLive live 0 tm=L)
  (hr:reach (H ++ .row n els false true m::E) m 4000 (L.flatMap (AV.refsN 6)) []=[m]) (hi:L.map (AV.renN (renOf m [m]) 6)=L) :
  St.norm live ⟨tm,H ++ .row n els false true m::E,m,rb⟩=⟨L,H++[.row n els false true m],m,0⟩:=by
 subst hm
 unfold St.norm St.normTm
 rw[hL]
 have h1:((H ++ .row n els false true H.length::E).take H.length)=H:=by simp
 have h2:((H ++ .row n els false true H.length::E).drop H.length) = .row n els false true H.length::E:=by simp
 have hFl:Flat H:=hF.left
 simp only[h1]
 rw[hFl.refs,List.append_nil,hr]
 unfold St.normBy
 have h3:(H ++ .row n els false true H.length::E).getD H.length .gone = .row n els false true H.length:=by
  rw[List.getD_eq_getElem?_getD,getP0 rfl]
  rfl
 simp only[h1,h2,List.map_cons,List.map_nil,h3]
 rw[dropped_flat [H.length] (.row n els false true H.length::E) _ fun b hb=>hF.mem b (by simp at hb ⊢; exact .inr hb)]
 have hF1:=hFl.push n els
 have hc:closedBy (renOf H.length [H.length]) (H++[.row n els false true H.length])=true:=by
  unfold closedBy
  rw[List.all_eq_true]
  intro b hb
  obtain ⟨n,els,fam,rfl⟩:=hF1.mem b hb
  rfl
 simp only[hc,roFit,roMark,Bool.and_self,normIf]
 have hg : ∀ j,j<H.length+1→famRen (H++Blk.row n els false true H.length::E) H.length [H.length] j=j:=fun j hj=>by
  unfold famRen
  by_cases hlt:j<H.length
  ·rw[if_pos hlt]
  ·rw[if_neg hlt]
   have:j=H.length:=by omega
   subst this
   rw[List.findIdx_cons,h3]
   simp [Blk.famOf]
 have hren:=ren_flat (m:=H.length+1) (H:=H) (f:=renOf H.length [H.length]) hg (H++[Blk.row n els false true H.length]) 0 (fun j b hj=>by rw[Nat.zero_add]; exact hF1 j b hj) (by simp)
 rw[hi,hren]
end Ago
set_option maxRecDepth 100000
set_option maxHeartbeats 4000000
namespace Ago
open Go (IntKind)
theorem slots_map {g:AV→AV} (hg:g .dead = .dead) (n:Nat) : ∀ (l:List (Nat × AV)),(slots n l).map g=slots n (l.map fun x=>(x.1,g x.2)):=by
 intro l
 unfold slots
 suffices h : ∀ (l:List (Nat × AV)) (s:List AV),(l.foldl (fun s x=>s.set x.1 x.2) s).map g=(l.map fun x=>(x.1,g x.2)).foldl (fun s x=>s.set x.1 x.2) (s.map g) by
  rw[h,List.map_replicate,hg]
 intro l
 induction l with
 | nil=>intro s; rfl
 | cons x l ih=>
  intro s
  rw[List.foldl_cons,ih,List.map_set]
  rfl
def cnt (r:Nat) (n:Int):Blk:=.row 1 [.int .i64 n] false true r
theorem tidy_flat {H E:Heap} {m:Nat} {v:AV} (hm:m=H.length) (hF:Flat (H++E)) (hv:Still v):tidy m v (H++E)=⟨[v],H,m,0⟩:=by
 refine norm_none hm hF rfl (fun r hr=>?_) ?_
 ·simp only[List.flatMap_cons,List.flatMap_nil,List.append_nil] at hr
  rw[hv.1] at hr
  cases hr
 ·simp only[List.map_cons,List.map_nil]
  rw[hv.2]
def oneI (v:V):Int:=
 if v.s.kind=2∧decOk v.s.num=false∨v.s.kind=3∧tmOk v.s.time=false then 2
 else if v.s.kind=4∧utf v.s.text=false then 5
 else if 65536<v.s.text.length∨65536<v.s.bytes.length then 10
 else keysM (v.f.map (·.1))
theorem own_num {v:V} (h:ownM v=true) (hk:v.s.kind≠2):v.s.num=⟨false,[],0⟩:=by
 unfold ownM numZ at h
 cases hn:v.s.num with
 | mk a b c=>simp_all
theorem own_text {v:V} (h:ownM v=true) (hk:v.s.kind≠4):v.s.text=[]:=by
 unfold ownM at h
 simp_all
theorem utf_nil:utf []=true:=by decide
theorem one_own {v:V} (h:ownM v=true):oneM v=oneI v:=by
 unfold oneM oneI
 rw[if_neg (by rw[h]; simp)]
 have h1:decOk v.s.num=false→v.s.kind=2:=fun hd=>Classical.byContradiction fun hk=>by
  rw[own_num h hk] at hd
  revert hd
  decide
 have h2:utf v.s.text=false→v.s.kind=4:=fun hd=>Classical.byContradiction fun hk=>by
  rw[own_text h hk,utf_nil] at hd
  cases hd
 have e1:(decOk v.s.num=false∨v.s.kind=3∧tmOk v.s.time=false)↔(v.s.kind=2∧decOk v.s.num=false∨v.s.kind=3∧tmOk v.s.time=false):=
  ⟨fun h=>h.elim (fun h=>.inl ⟨h1 h,h⟩) .inr,fun h=>h.elim (fun h=>.inl h.2) .inr⟩
 have e2:utf v.s.text=false↔(v.s.kind=4∧utf v.s.text=false):=⟨fun h=>⟨h2 h,h⟩,fun h=>h.2⟩
 simp only[e1,←e2]
theorem post_flat {m:Nat} {res:List ResV} {v:AV} {H E:Heap} {tm:List AV} {b rb:Nat} {e:Ex} (he:e = .normal∨e = .ret) (hm:m=H.length) (hF:Flat (H++E)) (hv:Still v) (hr:results res ⟨tm,H++E,b,rb⟩=some v):PostR m res v H e ⟨tm,H++E,b,rb⟩:=by
 refine postR_of he v hr ?_ ?_
 ·rw[tidy_flat hm hF hv]
  rfl
 ·rw[tidy_flat hm hF hv]
def PostRE (base:Nat) (res:List ResV) (k:AV→Heap→Prop) (e:Ex) (s:St):Prop:=(e = .normal∨e = .ret)∧∃ u,results res s=some u∧k ((tidy base u s.heap).tmps.getD 0 .dead) (tidy base u s.heap).heap
theorem runRE_of {C:Ctx} {f:Nat} (fn:AFn) {args:List AV} {H:Heap} {k:AV→Heap→Prop} (hf:C.code f=some fn) (h : @withStI (enter fn args H) ⟨aw (RunOf C) (PRun C) fn.body (PostRE H.length fn.res k)⟩) : ∃ v H',RunOf C f args H v H'∧k v H':=by
 unfold withStI at h
 obtain ⟨e,s,h1,he,u,h2,h3⟩:=aw_sound _ _ _ h
 exact ⟨_,_,.run hf h1 he h2,h3⟩
theorem postE_flat {m:Nat} {res:List ResV} {k:AV→Heap→Prop} {v:AV} {H E:Heap} {tm:List AV} {b rb:Nat} {e:Ex} (he:e = .normal∨e = .ret) (hm:m=H.length) (hF:Flat (H++E)) (hv:Still v) (hr:results res ⟨tm,H++E,b,rb⟩=some v) (hk:k v H):PostRE m res k e ⟨tm,H++E,b,rb⟩:=by
 refine ⟨he,v,hr,?_⟩
 rw[tidy_flat hm hF hv]
 exact hk
theorem postE_flat0 {m:Nat} {res:List ResV} {k:AV→Heap→Prop} {v:AV} {H:Heap} {tm:List AV} {b rb:Nat} {e:Ex} (he:e = .normal∨e = .ret) (hm:m=H.length) (hF:Flat H) (hv:Still v) (hr:results res ⟨tm,H,b,rb⟩=some v) (hk:k v H):PostRE m res k e ⟨tm,H,b,rb⟩:=by
 refine ⟨he,v,hr,?_⟩
 have:=tidy_flat (E:=[]) hm (by rw[List.append_nil]; exact hF) hv
 rw[List.append_nil] at this
 rw[this]
 exact hk
theorem reach_two {X:Heap} {m r:Nat} (hr:r<m) {n:Nat} {els:List AV} (hX:X[m]?=some (.row n els false true m)) {L:List AV} (hL:L.flatMap (AV.refsN 6)=[r,m]):reach X m 4000 (L.flatMap (AV.refsN 6)) []=[m]:=by
 rw[hL]
 unfold reach
 rw[if_pos hr]
 unfold reach
 rw[if_neg (Nat.lt_irrefl m),if_neg (by simp),hX]
 simp only[Blk.refs,if_true,List.nil_append]
 unfold reach
 rfl
theorem renOf_low {m r:Nat} {ks:List Nat} (hr:r<m):renOf m ks r=some r:=by unfold renOf; rw[if_pos hr]
theorem renOf_own {m:Nat}:renOf m [m] m=some m:=by simp [renOf]
theorem drop_cons {α:Type} {l:List α} {k:Nat} {x:α} (hx:l[k]?=some x):l.drop k=x::l.drop (k+1):=by
 obtain ⟨h3,h4⟩:=List.getElem?_eq_some_iff.1 hx
 rw[List.drop_eq_getElem_cons h3,h4]
theorem seqL_kids {v:V} (h:ownM v=true) (F:V→Int→Int × Int) (s:Int):seqL F v.kids s=seqL F (v.l++v.f.map (·.2)) s:=by
 unfold ownM at h
 simp only[Bool.and_eq_true,Bool.or_eq_true,beq_iff_eq] at h
 obtain ⟨⟨_,h6⟩,h7⟩:=h
 unfold V.kids
 split
 ·have:v.l=[]:=List.eq_nil_of_length_eq_zero (by omega)
  rw[this,List.nil_append]
 ·have:v.f=[]:=List.eq_nil_of_length_eq_zero (by omega)
  rw[this,List.map_nil,List.append_nil]
theorem ckv_run : ∀ (n:Nat) (v:V),v.bulk≤n→n≤2^24→∀ (f:Nat) (d seen:Int),0≤d→49<d+f→d≤49→0<f→0≤seen→seen≤65536→∀ (H:Heap) (r:Nat),Flat H→r<H.length→H[r]?=some (cnt r seen) →
  ∃ s':Int,RunOf C0 133 [encV v,.int .i64 d,.ptr 1 r 0 0] H (.int .i64 (lookM f v d seen).2) (H.set r (cnt r s'))∧((lookM f v d seen).2=0→s'=(lookM f v d seen).1):=by
 intro n
 induction n with
 | zero=>
  intro v hv
  have:1≤v.bulk:=bulk_one _
  omega
 | succ n ih=>
  intro v hv hn f d seen hd1 hdf hd2 hf0 hs1 hs2 H r hF hr hH
  obtain ⟨f,rfl⟩ : ∃ g,f=g+1:=⟨f-1,by omega⟩
  have L:=V.lens (v:=v) (N:=2^24) (by omega)
  have hll:=L.list
  have hlf:=L.fields
  have h139:=extra_run v
  have h140:=decOkI_run v.s.num (by have:=L.digits; omega)
  have h141:=tmI_run v.s.time
  have h46:=utfI_run v.s.text (by have:=L.text; omega)
  have h142:=keysI_run v.f (by have:=L.fields; omega) (fun x hx=>by have:=(L.fkids x hx).2; omega)
  have hle:=encV_eq v
  unfold encDec at h140
  unfold encTm at h141
  rw[encV_eq] at h139 ⊢
  unfold cnt at hH
  unfold cnt
  have hs1' : ∀ els,strikeGo r r 0 (H++[.row 13 els false true H.length]) 0=some (H++[.row 13 els false true H.length]):=fun els=>(hF.push 13 els).strike r 0
  have hg1 : ∀ l,(H.set r (.row 1 [.int .i64 (seen+1)] false true r)++l)[r]?=some (.row 1 [.int .i64 (seen+1)] false true r):=fun l=>by
   rw[getL (by simpa using hr),List.getElem?_set_self hr]
  have hp0 : ∀ b l,(H.set r (.row 1 [.int .i64 (seen+1)] false true r)++b::l)[H.length]?=some b:=fun b l=>getP0 (by simp)
  have hFb : ∀ els,Flat (H.set r (.row 1 [.int .i64 (seen+1)] false true r)++[.row 13 els false true H.length]):=fun els=>(hF.set r 1 [.int .i64 (seen+1)]).push' (k:=H.length) 13 els (by simp)
  rw[show lookM (f+1) v d seen=if 48<d then (seen,9) else if 65536≤seen then (seen,10) else if oneM v≠0 then (seen,oneM v) else seqL (fun x s=>lookM f x (d+1) s) v.kids (seen+1) from rfl]
  generalize hFF:(fun x s=>lookM f x (d+1) s)=F
  have hp0' : ∀ X b l,(H.set r X++b::l)[H.length]?=some b:=fun X b l=>getP0 (by simp)
  have hp1' : ∀ X a b l,(H.set r X++a::b::l)[H.length+1]?=some b:=fun X a b l=>getP1 (by simp)
  have hq1' : ∀ X a b c,(H.set r X++[a,b]).set (H.length+1) c=H.set r X++[a,c]:=fun X a b c=>setP1 (by simp)
  have hg1' : ∀ X l,(H.set r X++l)[r]?=some X:=fun X l=>by
   rw[getL (by simpa using hr),List.getElem?_set_self hr]
  have hF1 : ∀ n els es,Flat (H.set r (.row n es false true r)++[.row 13 els false true H.length]):=fun n els es=>(hF.set r n es).push' (k:=H.length) 13 els (by simp)
  have hF2 : ∀ n els es els',Flat (H.set r (.row n es false true r)++[.row 13 els false true H.length,.row 13 els' false true (H.length+1)]):=fun n els es els'=>by
   have:=(hF1 n els es).push' (k:=H.length+1) 13 els' (by simp)
   rwa [List.append_assoc] at this
  have hs2' : ∀ n els es els',strikeGo (H.length+1) (H.length+1) 0 (H.set r (.row n es false true r)++[.row 13 els false true H.length,.row 13 els' false true (H.length+1)]) 0=some (H.set r (.row n es false true r)++[.row 13 els false true H.length,.row 13 els' false true (H.length+1)]):=fun n els es els'=>(hF2 n els es els').strike _ _
  have hF3 : ∀ n els es,Flat (H.set r (.row n es false true r)++[.row 14 els false true H.length]):=fun n els es=>(hF.set r n es).push' (k:=H.length) 14 els (by simp)
  have hs3' : ∀ n els es,strikeGo H.length H.length 0 (H.set r (.row n es false true r)++[.row 14 els false true H.length]) 0=some (H.set r (.row n es false true r)++[.row 14 els false true H.length]):=fun n els es=>(hF3 n els es).strike _ _
  have hq0' : ∀ X a c,(H.set r X++[a]).set H.length c=H.set r X++[c]:=fun X a c=>setP0 (by simp)
  have fin : ∀ {X:Int × Int},(∃ w H',RunOf C0 133 [encV v,.int .i64 d,.ptr 1 r 0 0] H w H'∧∃ s':Int,w = .int .i64 X.2∧H'=H.set r (.row 1 [.int .i64 s'] false true r)∧(X.2=0→s'=X.1)) →
    ∃ s':Int,RunOf C0 133 [encV v,.int .i64 d,.ptr 1 r 0 0] H (.int .i64 X.2) (H.set r (.row 1 [.int .i64 s'] false true r))∧(X.2=0→s'=X.1):=fun {X} h=>by
   obtain ⟨w,H',h1,s',rfl,rfl,h2⟩:=h
   exact ⟨s',h1,h2⟩
  rw[hle] at fin
  by_cases g1:48<d
  ·rw[if_pos g1]
   refine ⟨seen+1,runR_of ac133 rfl ?_,by simp⟩
   (repeat' first|simp (disch:=omega) only[go_sem,ac133,enter,List.length_map,getL,setL,hH,hs1',hg1,hp0]|(apply spl<;>intro h<;>try simp (disch:=omega) only[go_sem,ac133,enter,List.length_map,getL,setL,hH,hs1',hg1,hp0,h]))
   exact post_flat (.inr rfl) (by simp) (hFb _) (still_int _ _) rfl
  ·rw[if_neg g1]
   by_cases g2:65536≤seen
   ·rw[if_pos g2]
    refine ⟨seen+1,runR_of ac133 rfl ?_,by simp⟩
    (repeat' first|simp (disch:=omega) only[go_sem,ac133,enter,List.length_map,getL,setL,hH,hs1',hg1,hp0]|(apply spl<;>intro h<;>try simp (disch:=omega) only[go_sem,ac133,enter,List.length_map,getL,setL,hH,hs1',hg1,hp0,h]))
    exact post_flat (.inr rfl) (by simp) (hFb _) (still_int _ _) rfl
   ·rw[if_neg g2]
    cases hown:ownM v with
    | false=>
     have e1:oneM v=6:=by unfold oneM; rw[if_pos hown]
     rw[if_pos (by rw[e1]; decide),e1]
     rw[own_extra] at hown
     refine ⟨seen+1,runR_of ac133 rfl ?_,by simp⟩
     (repeat' first|simp (disch:=omega) only[go_sem,ac133,enter,List.length_map,getL,setL,hH,hs1',hg1,hp0]|refine pure_of _ (h139) ?_|(apply spl<;>intro h<;>try simp (disch:=omega) only[go_sem,ac133,enter,List.length_map,getL,setL,hH,hs1',hg1,hp0 ,h]))
     all_goals first | exact post_flat (.inr rfl) (by simp) (hFb _) (still_int _ _) rfl | skip
     all_goals (exfalso; simp only[Bool.and_eq_false_iff,decide_eq_false_iff_not,Bool.not_eq_false'] at hown; first | omega | (rcases hown with h | h; omega; simp_all))
    | true=>
     have hown':=hown
     rw[own_extra] at hown'
     simp only[Bool.and_eq_true,decide_eq_true_eq,Bool.not_eq_true'] at hown'
     obtain ⟨⟨hk0,hk7⟩,hex⟩:=hown'
     rw[hex] at h139
     rw[one_own hown]
     by_cases hk2:v.s.kind=2
     ·have hk:=hk2
      cases hb:decOk v.s.num with
      | false=>
       rw[hb] at h140
       have ho:oneI v=2:=by unfold oneI; rw[hb,if_pos (.inl ⟨hk2,rfl⟩)]
       rw[if_pos (by rw[ho]; decide),ho]
       refine ⟨seen+1,runR_of ac133 rfl ?_,by simp⟩
       (repeat' first|simp (disch:=omega) only[go_sem,ac133,enter,List.length_map,getL,setL,hH,hs1',hg1,hp0]|refine pure_of _ (h139) ?_|refine pure_of _ (h140) ?_|(apply spl<;>intro h<;>try simp (disch:=omega) only[go_sem,ac133,enter,List.length_map,getL,setL,hH,hs1',hg1,hp0 ,h]))
       exact post_flat (.inr rfl) (by simp) (hFb _) (still_int _ _) rfl
      | true=>
       rw[hb] at h140
       have ho:oneI v=(if 65536<v.s.text.length∨65536<v.s.bytes.length then 10 else keysM (v.f.map (·.1))):=by unfold oneI; rw[hb,if_neg (by rw[hk2]; simp),if_neg (by rw[hk2]; simp)]
       rw[ho]
       by_cases hsz:65536<v.s.text.length∨65536<v.s.bytes.length
       ·rw[if_pos hsz,if_pos (by decide)]
        refine ⟨seen+1,runR_of ac133 rfl ?_,by simp⟩
        (repeat' first|simp (disch:=omega) only[go_sem,ac133,enter,List.length_map,encB_len,getL,setL,hH,hs1',hg1,hp0]|refine pure_of _ (h139) ?_|refine pure_of _ (h140) ?_|refine pure_of _ (h141) ?_|refine pure_of _ (h46) ?_|refine pure_of _ (h142) ?_|(apply spl<;>intro h<;>try simp (disch:=omega) only[go_sem,ac133,enter,List.length_map,encB_len,getL,setL,hH,hs1',hg1,hp0 ,h]))
        all_goals first | omega | exact post_flat (.inr rfl) (by simp) (hFb _) (still_int _ _) rfl
       ·rw[if_neg hsz]
        by_cases hkey:keysM (v.f.map (·.1))=0
        ·rw[hkey] at h142
         rw[if_neg (by rw[hkey]; simp),seqL_kids hown]
         refine fin (runRE_of ac133 rfl ?_)
         (repeat' first|simp (disch:=omega) only[go_sem,ac133,enter,List.length_map,encB_len,getL,setL,hH,hs1',hg1,hp0]|refine pure_of _ (h139) ?_|refine pure_of _ (h140) ?_|refine pure_of _ (h141) ?_|refine pure_of _ (h46) ?_|refine pure_of _ (h142) ?_|(apply spl<;>intro h<;>try simp (disch:=omega) only[go_sem,ac133,enter,List.length_map,encB_len,getL,setL,hH,hs1',hg1,hp0 ,h]))
         all_goals try omega
         refine loop_of (α:=Nat × Int) (fun a=>{ tmps:=slots 121 [(1,.int .i64 d),(2,.ptr 1 r 0 0),(3,.ptr 13 H.length 0 0),(89,.tsl 13 (v.l.map encV)),(90,.int .i64 v.l.length),(91,.int .i64 a.1)],heap:=H.set r (.row 1 [.int .i64 a.2] false true r)++[.row 13 [encV v] false true H.length],base:=H.length })
          (fun a=>a.1≤v.l.length∧seqL F (v.l++v.f.map (·.2)) (seen+1)=seqL F (v.l.drop a.1++v.f.map (·.2)) a.2∧0≤a.2∧a.2≤65536) (fun a=>v.l.length-a.1) (0,seen+1)
          (by rw[hle]; exact norm_first (by simp) (hFb _) rfl (reach_two hr (hp0 _ _) rfl) (by (try rw[slots_map rfl]); simp only[List.map_cons,List.map_nil,AV.renN,renOf_low hr,renOf_own])) ⟨Nat.zero_le _,rfl,by simp only; omega,by simp only; omega⟩ ?_
         rintro ⟨k,sn⟩ ⟨hk1,hm,hs3,hs4⟩
         simp only at hk1 hm hs3 hs4
         rw[hle]
         by_cases hlt:k<v.l.length
         ·obtain ⟨x,hx⟩:=get_some hlt
          have hxm:=List.mem_of_getElem? hx
          have hx2:=map_get (g:=encV) hx
          rw[drop_cons hx,List.cons_append,seqL_step] at hm
          have hxk:=L.kids x hxm
          obtain ⟨s',hr1,hr2⟩:=ih x (by omega) (by omega) f (d+1) sn (by omega) (by omega) (by omega) (by omega) (by omega) (by omega) (H.set r (.row 1 [.int .i64 sn] false true r)++[.row 13 [encV v] false true H.length,.row 13 [encV x] false true (H.length+1)]) r (hF2 _ _ _ _) (by simp; omega) (hg1' _ _)
          have hrg:=lookM_range f x (d+1) sn hs3 hs4
          rw[setL (by simpa using hr),List.set_set] at hr1
          unfold cnt at hr1
          have hFx:F x sn=lookM f x (d+1) sn:=by rw[←hFF]
          rw[hFx] at hm
          generalize lookM f x (d+1) sn=R at hr1 hr2 hm hrg
          rw[encV_eq x] at hx2 hr1
          rw[hle] at hr1
          by_cases he:R.2=0
          ·rw[if_pos he] at hm
           rw[he] at hr1
           have hs':=hr2 he
           (repeat' first|simp (disch:=omega) only[go_sem,hx2,List.length_map,List.append_assoc,List.length_append,List.length_set,hg1',hp0',hp1',hq1',hs2']|(refine call_of _ _ hr1 ?_)|(apply spl<;>intro h<;>try simp (disch:=omega) only[go_sem,hx2,List.length_map,List.append_assoc,List.length_append,List.length_set,hg1',hp0',hp1',hq1',hs2' ,h]))
           refine ⟨(k+1,R.1),?_,⟨hlt,hm,hrg.1,hrg.2⟩,by simp only; omega⟩
           rw[hs']
           exact norm_first (by simp) (hF2 _ _ _ _) rfl (reach_two hr (hp0' _ _ _) rfl) (by (try rw[slots_map rfl]); simp only[List.map_cons,List.map_nil,AV.renN,renOf_low hr,renOf_own])
          ·rw[if_neg he] at hm
           rw[hm]
           (repeat' first|simp (disch:=omega) only[go_sem,hx2,he,List.length_map,List.append_assoc,List.length_append,List.length_set,hg1',hp0',hp1',hq1',hs2']|(refine call_of _ _ hr1 ?_)|(apply spl<;>intro h<;>try simp (disch:=omega) only[go_sem,hx2,he,List.length_map,List.append_assoc,List.length_append,List.length_set,hg1',hp0',hp1',hq1',hs2' ,h]))
           exact postE_flat (.inr rfl) (by simp) (hF2 _ _ _ _) (still_int _ _) rfl ⟨_,rfl,rfl,by simp [he]⟩
         ·rw[List.drop_of_length_le (by omega),List.nil_append] at hm
          (repeat' first|simp (disch:=omega) only[go_sem,List.length_map,hp0']|(apply spl<;>intro h<;>try simp (disch:=omega) only[go_sem,List.length_map,hp0',h]))
          refine loop_of (α:=Nat × Int) (fun a=>{ tmps:=slots 121 [(1,.int .i64 d),(2,.ptr 1 r 0 0),(105,.tsl 14 (v.f.map encFd)),(106,.int .i64 v.f.length),(107,.int .i64 a.1)],heap:=H.set r (.row 1 [.int .i64 a.2] false true r),base:=H.length })
           (fun a=>a.1≤v.f.length∧seqL F (v.l++v.f.map (·.2)) (seen+1)=seqL F ((v.f.map (·.2)).drop a.1) a.2∧0≤a.2∧a.2≤65536) (fun a=>v.f.length-a.1) (0,sn)
           (norm_none (by simp) (hF1 _ _ _) rfl (fun q hq=>by have:q=r:=(List.mem_singleton.1 (show q∈[r] from hq)); omega) (by (try rw[slots_map rfl]); simp only[List.map_cons,List.map_nil,AV.renN,renOf_low hr])) ⟨Nat.zero_le _,hm,hs3,hs4⟩ ?_
          clear hm hlt hk1 hs3 hs4
          rintro ⟨k,sn⟩ ⟨hk1,hm,hs3,hs4⟩
          simp only at hk1 hm hs3 hs4
          by_cases hlt:k<v.f.length
          ·obtain ⟨x,hx⟩:=get_some hlt
           have hxm:=List.mem_of_getElem? hx
           have hx2:=map_get (g:=encFd) hx
           have hx3:=map_get (g:=fun y:List UInt8 × V=>y.2) hx
           rw[drop_cons hx3,seqL_step] at hm
           have hxk:=(L.fkids x hxm).1
           obtain ⟨s',hr1,hr2⟩:=ih x.2 (by omega) (by omega) f (d+1) sn (by omega) (by omega) (by omega) (by omega) (by omega) (by omega) (H.set r (.row 1 [.int .i64 sn] false true r)++[.row 14 [encFd x] false true H.length]) r (hF3 _ _ _) (by simp; omega) (hg1' _ _)
           have hrg:=lookM_range f x.2 (d+1) sn hs3 hs4
           rw[setL (by simpa using hr),List.set_set] at hr1
           unfold cnt at hr1
           have hFx:F x.2 sn=lookM f x.2 (d+1) sn:=by rw[←hFF]
           rw[hFx] at hm
           generalize lookM f x.2 (d+1) sn=R at hr1 hr2 hm hrg
           rw[encFd_eq] at hx2 hr1
           rw[encV_eq x.2] at hr1
           by_cases he:R.2=0
           ·rw[if_pos he] at hm
            rw[he] at hr1
            have hs':=hr2 he
            (repeat' first|simp (disch:=omega) only[go_sem,hx2,List.length_map,List.append_assoc,List.length_append,List.length_set,hg1',hp0',hq0',hs3']|(refine call_of _ _ hr1 ?_)|(apply spl<;>intro h<;>try simp (disch:=omega) only[go_sem,hx2,List.length_map,List.append_assoc,List.length_append,List.length_set,hg1',hp0',hq0',hs3' ,h]))
            refine ⟨(k+1,R.1),?_,⟨hlt,hm,hrg.1,hrg.2⟩,by simp only; omega⟩
            rw[hs']
            exact norm_none (by simp) (hF3 _ _ _) rfl (fun q hq=>by have:q=r:=(List.mem_singleton.1 (show q∈[r] from hq)); omega) (by (try rw[slots_map rfl]); simp only[List.map_cons,List.map_nil,AV.renN,renOf_low hr])
           ·rw[if_neg he] at hm
            rw[hm]
            (repeat' first|simp (disch:=omega) only[go_sem,hx2,he,List.length_map,List.append_assoc,List.length_append,List.length_set,hg1',hp0',hq0',hs3']|(refine call_of _ _ hr1 ?_)|(apply spl<;>intro h<;>try simp (disch:=omega) only[go_sem,hx2,he,List.length_map,List.append_assoc,List.length_append,List.length_set,hg1',hp0',hq0',hs3' ,h]))
            exact postE_flat (.inr rfl) (by simp) (hF3 _ _ _) (still_int _ _) rfl ⟨_,rfl,rfl,by simp [he]⟩
          ·rw[List.drop_of_length_le (by simp; omega)] at hm
           rw[hm]
           (repeat' first|simp (disch:=omega) only[go_sem,List.length_map]|(apply spl<;>intro h<;>try simp (disch:=omega) only[go_sem,List.length_map,h]))
           exact postE_flat0 (.inr rfl) (by simp) (hF.set r _ _) (still_int _ _) rfl ⟨_,rfl,rfl,fun _=>rfl⟩
        ·rw[if_pos hkey]
         refine ⟨seen+1,runR_of ac133 rfl ?_,fun h=>absurd h hkey⟩
         (repeat' first|simp (disch:=omega) only[go_sem,ac133,enter,List.length_map,encB_len,getL,setL,hH,hs1',hg1,hp0]|refine pure_of _ (h139) ?_|refine pure_of _ (h140) ?_|refine pure_of _ (h141) ?_|refine pure_of _ (h46) ?_|refine pure_of _ (h142) ?_|(apply spl<;>intro h<;>try simp (disch:=omega) only[go_sem,ac133,enter,List.length_map,encB_len,getL,setL,hH,hs1',hg1,hp0 ,h]))
         all_goals first | omega | exact post_flat (.inr rfl) (by simp) (hFb _) (still_int _ _) rfl
     ·by_cases hk3:v.s.kind=3
      ·have hk:=hk3
       cases hb:tmOk v.s.time with
       | false=>
        rw[hb] at h141
        have ho:oneI v=2:=by unfold oneI; rw[hb,if_pos (.inr ⟨hk3,rfl⟩)]
        rw[if_pos (by rw[ho]; decide),ho]
        refine ⟨seen+1,runR_of ac133 rfl ?_,by simp⟩
        (repeat' first|simp (disch:=omega) only[go_sem,ac133,enter,List.length_map,getL,setL,hH,hs1',hg1,hp0]|refine pure_of _ (h139) ?_|refine pure_of _ (h141) ?_|(apply spl<;>intro h<;>try simp (disch:=omega) only[go_sem,ac133,enter,List.length_map,getL,setL,hH,hs1',hg1,hp0 ,h]))
        exact post_flat (.inr rfl) (by simp) (hFb _) (still_int _ _) rfl
       | true=>
        rw[hb] at h141
        have ho:oneI v=(if 65536<v.s.text.length∨65536<v.s.bytes.length then 10 else keysM (v.f.map (·.1))):=by unfold oneI; rw[hb,if_neg (by rw[hk3]; simp),if_neg (by rw[hk3]; simp)]
        rw[ho]
        by_cases hsz:65536<v.s.text.length∨65536<v.s.bytes.length
        ·rw[if_pos hsz,if_pos (by decide)]
         refine ⟨seen+1,runR_of ac133 rfl ?_,by simp⟩
         (repeat' first|simp (disch:=omega) only[go_sem,ac133,enter,List.length_map,encB_len,getL,setL,hH,hs1',hg1,hp0]|refine pure_of _ (h139) ?_|refine pure_of _ (h140) ?_|refine pure_of _ (h141) ?_|refine pure_of _ (h46) ?_|refine pure_of _ (h142) ?_|(apply spl<;>intro h<;>try simp (disch:=omega) only[go_sem,ac133,enter,List.length_map,encB_len,getL,setL,hH,hs1',hg1,hp0 ,h]))
         all_goals first | omega | exact post_flat (.inr rfl) (by simp) (hFb _) (still_int _ _) rfl
        ·rw[if_neg hsz]
         by_cases hkey:keysM (v.f.map (·.1))=0
         ·rw[hkey] at h142
          rw[if_neg (by rw[hkey]; simp),seqL_kids hown]
          refine fin (runRE_of ac133 rfl ?_)
          (repeat' first|simp (disch:=omega) only[go_sem,ac133,enter,List.length_map,encB_len,getL,setL,hH,hs1',hg1,hp0]|refine pure_of _ (h139) ?_|refine pure_of _ (h140) ?_|refine pure_of _ (h141) ?_|refine pure_of _ (h46) ?_|refine pure_of _ (h142) ?_|(apply spl<;>intro h<;>try simp (disch:=omega) only[go_sem,ac133,enter,List.length_map,encB_len,getL,setL,hH,hs1',hg1,hp0 ,h]))
          all_goals try omega
          refine loop_of (α:=Nat × Int) (fun a=>{ tmps:=slots 121 [(1,.int .i64 d),(2,.ptr 1 r 0 0),(3,.ptr 13 H.length 0 0),(89,.tsl 13 (v.l.map encV)),(90,.int .i64 v.l.length),(91,.int .i64 a.1)],heap:=H.set r (.row 1 [.int .i64 a.2] false true r)++[.row 13 [encV v] false true H.length],base:=H.length })
           (fun a=>a.1≤v.l.length∧seqL F (v.l++v.f.map (·.2)) (seen+1)=seqL F (v.l.drop a.1++v.f.map (·.2)) a.2∧0≤a.2∧a.2≤65536) (fun a=>v.l.length-a.1) (0,seen+1)
           (by rw[hle]; exact norm_first (by simp) (hFb _) rfl (reach_two hr (hp0 _ _) rfl) (by (try rw[slots_map rfl]); simp only[List.map_cons,List.map_nil,AV.renN,renOf_low hr,renOf_own])) ⟨Nat.zero_le _,rfl,by simp only; omega,by simp only; omega⟩ ?_
          rintro ⟨k,sn⟩ ⟨hk1,hm,hs3,hs4⟩
          simp only at hk1 hm hs3 hs4
          rw[hle]
          by_cases hlt:k<v.l.length
          ·obtain ⟨x,hx⟩:=get_some hlt
           have hxm:=List.mem_of_getElem? hx
           have hx2:=map_get (g:=encV) hx
           rw[drop_cons hx,List.cons_append,seqL_step] at hm
           have hxk:=L.kids x hxm
           obtain ⟨s',hr1,hr2⟩:=ih x (by omega) (by omega) f (d+1) sn (by omega) (by omega) (by omega) (by omega) (by omega) (by omega) (H.set r (.row 1 [.int .i64 sn] false true r)++[.row 13 [encV v] false true H.length,.row 13 [encV x] false true (H.length+1)]) r (hF2 _ _ _ _) (by simp; omega) (hg1' _ _)
           have hrg:=lookM_range f x (d+1) sn hs3 hs4
           rw[setL (by simpa using hr),List.set_set] at hr1
           unfold cnt at hr1
           have hFx:F x sn=lookM f x (d+1) sn:=by rw[←hFF]
           rw[hFx] at hm
           generalize lookM f x (d+1) sn=R at hr1 hr2 hm hrg
           rw[encV_eq x] at hx2 hr1
           rw[hle] at hr1
           by_cases he:R.2=0
           ·rw[if_pos he] at hm
            rw[he] at hr1
            have hs':=hr2 he
            (repeat' first|simp (disch:=omega) only[go_sem,hx2,List.length_map,List.append_assoc,List.length_append,List.length_set,hg1',hp0',hp1',hq1',hs2']|(refine call_of _ _ hr1 ?_)|(apply spl<;>intro h<;>try simp (disch:=omega) only[go_sem,hx2,List.length_map,List.append_assoc,List.length_append,List.length_set,hg1',hp0',hp1',hq1',hs2' ,h]))
            refine ⟨(k+1,R.1),?_,⟨hlt,hm,hrg.1,hrg.2⟩,by simp only; omega⟩
            rw[hs']
            exact norm_first (by simp) (hF2 _ _ _ _) rfl (reach_two hr (hp0' _ _ _) rfl) (by (try rw[slots_map rfl]); simp only[List.map_cons,List.map_nil,AV.renN,renOf_low hr,renOf_own])
           ·rw[if_neg he] at hm
            rw[hm]
            (repeat' first|simp (disch:=omega) only[go_sem,hx2,he,List.length_map,List.append_assoc,List.length_append,List.length_set,hg1',hp0',hp1',hq1',hs2']|(refine call_of _ _ hr1 ?_)|(apply spl<;>intro h<;>try simp (disch:=omega) only[go_sem,hx2,he,List.length_map,List.append_assoc,List.length_append,List.length_set,hg1',hp0',hp1',hq1',hs2' ,h]))
            exact postE_flat (.inr rfl) (by simp) (hF2 _ _ _ _) (still_int _ _) rfl ⟨_,rfl,rfl,by simp [he]⟩
          ·rw[List.drop_of_length_le (by omega),List.nil_append] at hm
           (repeat' first|simp (disch:=omega) only[go_sem,List.length_map,hp0']|(apply spl<;>intro h<;>try simp (disch:=omega) only[go_sem,List.length_map,hp0',h]))
           refine loop_of (α:=Nat × Int) (fun a=>{ tmps:=slots 121 [(1,.int .i64 d),(2,.ptr 1 r 0 0),(105,.tsl 14 (v.f.map encFd)),(106,.int .i64 v.f.length),(107,.int .i64 a.1)],heap:=H.set r (.row 1 [.int .i64 a.2] false true r),base:=H.length })
            (fun a=>a.1≤v.f.length∧seqL F (v.l++v.f.map (·.2)) (seen+1)=seqL F ((v.f.map (·.2)).drop a.1) a.2∧0≤a.2∧a.2≤65536) (fun a=>v.f.length-a.1) (0,sn)
            (norm_none (by simp) (hF1 _ _ _) rfl (fun q hq=>by have:q=r:=(List.mem_singleton.1 (show q∈[r] from hq)); omega) (by (try rw[slots_map rfl]); simp only[List.map_cons,List.map_nil,AV.renN,renOf_low hr])) ⟨Nat.zero_le _,hm,hs3,hs4⟩ ?_
           clear hm hlt hk1 hs3 hs4
           rintro ⟨k,sn⟩ ⟨hk1,hm,hs3,hs4⟩
           simp only at hk1 hm hs3 hs4
           by_cases hlt:k<v.f.length
           ·obtain ⟨x,hx⟩:=get_some hlt
            have hxm:=List.mem_of_getElem? hx
            have hx2:=map_get (g:=encFd) hx
            have hx3:=map_get (g:=fun y:List UInt8 × V=>y.2) hx
            rw[drop_cons hx3,seqL_step] at hm
            have hxk:=(L.fkids x hxm).1
            obtain ⟨s',hr1,hr2⟩:=ih x.2 (by omega) (by omega) f (d+1) sn (by omega) (by omega) (by omega) (by omega) (by omega) (by omega) (H.set r (.row 1 [.int .i64 sn] false true r)++[.row 14 [encFd x] false true H.length]) r (hF3 _ _ _) (by simp; omega) (hg1' _ _)
            have hrg:=lookM_range f x.2 (d+1) sn hs3 hs4
            rw[setL (by simpa using hr),List.set_set] at hr1
            unfold cnt at hr1
            have hFx:F x.2 sn=lookM f x.2 (d+1) sn:=by rw[←hFF]
            rw[hFx] at hm
            generalize lookM f x.2 (d+1) sn=R at hr1 hr2 hm hrg
            rw[encFd_eq] at hx2 hr1
            rw[encV_eq x.2] at hr1
            by_cases he:R.2=0
            ·rw[if_pos he] at hm
             rw[he] at hr1
             have hs':=hr2 he
             (repeat' first|simp (disch:=omega) only[go_sem,hx2,List.length_map,List.append_assoc,List.length_append,List.length_set,hg1',hp0',hq0',hs3']|(refine call_of _ _ hr1 ?_)|(apply spl<;>intro h<;>try simp (disch:=omega) only[go_sem,hx2,List.length_map,List.append_assoc,List.length_append,List.length_set,hg1',hp0',hq0',hs3' ,h]))
             refine ⟨(k+1,R.1),?_,⟨hlt,hm,hrg.1,hrg.2⟩,by simp only; omega⟩
             rw[hs']
             exact norm_none (by simp) (hF3 _ _ _) rfl (fun q hq=>by have:q=r:=(List.mem_singleton.1 (show q∈[r] from hq)); omega) (by (try rw[slots_map rfl]); simp only[List.map_cons,List.map_nil,AV.renN,renOf_low hr])
            ·rw[if_neg he] at hm
             rw[hm]
             (repeat' first|simp (disch:=omega) only[go_sem,hx2,he,List.length_map,List.append_assoc,List.length_append,List.length_set,hg1',hp0',hq0',hs3']|(refine call_of _ _ hr1 ?_)|(apply spl<;>intro h<;>try simp (disch:=omega) only[go_sem,hx2,he,List.length_map,List.append_assoc,List.length_append,List.length_set,hg1',hp0',hq0',hs3' ,h]))
             exact postE_flat (.inr rfl) (by simp) (hF3 _ _ _) (still_int _ _) rfl ⟨_,rfl,rfl,by simp [he]⟩
           ·rw[List.drop_of_length_le (by simp; omega)] at hm
            rw[hm]
            (repeat' first|simp (disch:=omega) only[go_sem,List.length_map]|(apply spl<;>intro h<;>try simp (disch:=omega) only[go_sem,List.length_map,h]))
            exact postE_flat0 (.inr rfl) (by simp) (hF.set r _ _) (still_int _ _) rfl ⟨_,rfl,rfl,fun _=>rfl⟩
         ·rw[if_pos hkey]
          refine ⟨seen+1,runR_of ac133 rfl ?_,fun h=>absurd h hkey⟩
          (repeat' first|simp (disch:=omega) only[go_sem,ac133,enter,List.length_map,encB_len,getL,setL,hH,hs1',hg1,hp0]|refine pure_of _ (h139) ?_|refine pure_of _ (h140) ?_|refine pure_of _ (h141) ?_|refine pure_of _ (h46) ?_|refine pure_of _ (h142) ?_|(apply spl<;>intro h<;>try simp (disch:=omega) only[go_sem,ac133,enter,List.length_map,encB_len,getL,setL,hH,hs1',hg1,hp0 ,h]))
          all_goals first | omega | exact post_flat (.inr rfl) (by simp) (hFb _) (still_int _ _) rfl
      ·by_cases hk4:v.s.kind=4
       ·have hk:=hk4
        cases hb:utf v.s.text with
        | false=>
         rw[hb] at h46
         have ho:oneI v=5:=by unfold oneI; rw[if_neg (by rw[hk4]; simp),hb,if_pos ⟨hk4,rfl⟩]
         rw[if_pos (by rw[ho]; decide),ho]
         refine ⟨seen+1,runR_of ac133 rfl ?_,by simp⟩
         (repeat' first|simp (disch:=omega) only[go_sem,ac133,enter,List.length_map,getL,setL,hH,hs1',hg1,hp0]|refine pure_of _ (h139) ?_|refine pure_of _ (h46) ?_|(apply spl<;>intro h<;>try simp (disch:=omega) only[go_sem,ac133,enter,List.length_map,getL,setL,hH,hs1',hg1,hp0 ,h]))
         exact post_flat (.inr rfl) (by simp) (hFb _) (still_int _ _) rfl
        | true=>
         rw[hb] at h46
         have ho:oneI v=(if 65536<v.s.text.length∨65536<v.s.bytes.length then 10 else keysM (v.f.map (·.1))):=by unfold oneI; rw[hb,if_neg (by rw[hk4]; simp),if_neg (by rw[hk4]; simp)]
         rw[ho]
         by_cases hsz:65536<v.s.text.length∨65536<v.s.bytes.length
         ·rw[if_pos hsz,if_pos (by decide)]
          refine ⟨seen+1,runR_of ac133 rfl ?_,by simp⟩
          (repeat' first|simp (disch:=omega) only[go_sem,ac133,enter,List.length_map,encB_len,getL,setL,hH,hs1',hg1,hp0]|refine pure_of _ (h139) ?_|refine pure_of _ (h140) ?_|refine pure_of _ (h141) ?_|refine pure_of _ (h46) ?_|refine pure_of _ (h142) ?_|(apply spl<;>intro h<;>try simp (disch:=omega) only[go_sem,ac133,enter,List.length_map,encB_len,getL,setL,hH,hs1',hg1,hp0 ,h]))
          all_goals first | omega | exact post_flat (.inr rfl) (by simp) (hFb _) (still_int _ _) rfl
         ·rw[if_neg hsz]
          by_cases hkey:keysM (v.f.map (·.1))=0
          ·rw[hkey] at h142
           rw[if_neg (by rw[hkey]; simp),seqL_kids hown]
           refine fin (runRE_of ac133 rfl ?_)
           (repeat' first|simp (disch:=omega) only[go_sem,ac133,enter,List.length_map,encB_len,getL,setL,hH,hs1',hg1,hp0]|refine pure_of _ (h139) ?_|refine pure_of _ (h140) ?_|refine pure_of _ (h141) ?_|refine pure_of _ (h46) ?_|refine pure_of _ (h142) ?_|(apply spl<;>intro h<;>try simp (disch:=omega) only[go_sem,ac133,enter,List.length_map,encB_len,getL,setL,hH,hs1',hg1,hp0 ,h]))
           all_goals try omega
           refine loop_of (α:=Nat × Int) (fun a=>{ tmps:=slots 121 [(1,.int .i64 d),(2,.ptr 1 r 0 0),(3,.ptr 13 H.length 0 0),(89,.tsl 13 (v.l.map encV)),(90,.int .i64 v.l.length),(91,.int .i64 a.1)],heap:=H.set r (.row 1 [.int .i64 a.2] false true r)++[.row 13 [encV v] false true H.length],base:=H.length })
            (fun a=>a.1≤v.l.length∧seqL F (v.l++v.f.map (·.2)) (seen+1)=seqL F (v.l.drop a.1++v.f.map (·.2)) a.2∧0≤a.2∧a.2≤65536) (fun a=>v.l.length-a.1) (0,seen+1)
            (by rw[hle]; exact norm_first (by simp) (hFb _) rfl (reach_two hr (hp0 _ _) rfl) (by (try rw[slots_map rfl]); simp only[List.map_cons,List.map_nil,AV.renN,renOf_low hr,renOf_own])) ⟨Nat.zero_le _,rfl,by simp only; omega,by simp only; omega⟩ ?_
           rintro ⟨k,sn⟩ ⟨hk1,hm,hs3,hs4⟩
           simp only at hk1 hm hs3 hs4
           rw[hle]
           by_cases hlt:k<v.l.length
           ·obtain ⟨x,hx⟩:=get_some hlt
            have hxm:=List.mem_of_getElem? hx
            have hx2:=map_get (g:=encV) hx
            rw[drop_cons hx,List.cons_append,seqL_step] at hm
            have hxk:=L.kids x hxm
            obtain ⟨s',hr1,hr2⟩:=ih x (by omega) (by omega) f (d+1) sn (by omega) (by omega) (by omega) (by omega) (by omega) (by omega) (H.set r (.row 1 [.int .i64 sn] false true r)++[.row 13 [encV v] false true H.length,.row 13 [encV x] false true (H.length+1)]) r (hF2 _ _ _ _) (by simp; omega) (hg1' _ _)
            have hrg:=lookM_range f x (d+1) sn hs3 hs4
            rw[setL (by simpa using hr),List.set_set] at hr1
            unfold cnt at hr1
            have hFx:F x sn=lookM f x (d+1) sn:=by rw[←hFF]
            rw[hFx] at hm
            generalize lookM f x (d+1) sn=R at hr1 hr2 hm hrg
            rw[encV_eq x] at hx2 hr1
            rw[hle] at hr1
            by_cases he:R.2=0
            ·rw[if_pos he] at hm
             rw[he] at hr1
             have hs':=hr2 he
             (repeat' first|simp (disch:=omega) only[go_sem,hx2,List.length_map,List.append_assoc,List.length_append,List.length_set,hg1',hp0',hp1',hq1',hs2']|(refine call_of _ _ hr1 ?_)|(apply spl<;>intro h<;>try simp (disch:=omega) only[go_sem,hx2,List.length_map,List.append_assoc,List.length_append,List.length_set,hg1',hp0',hp1',hq1',hs2' ,h]))
             refine ⟨(k+1,R.1),?_,⟨hlt,hm,hrg.1,hrg.2⟩,by simp only; omega⟩
             rw[hs']
             exact norm_first (by simp) (hF2 _ _ _ _) rfl (reach_two hr (hp0' _ _ _) rfl) (by (try rw[slots_map rfl]); simp only[List.map_cons,List.map_nil,AV.renN,renOf_low hr,renOf_own])
            ·rw[if_neg he] at hm
             rw[hm]
             (repeat' first|simp (disch:=omega) only[go_sem,hx2,he,List.length_map,List.append_assoc,List.length_append,List.length_set,hg1',hp0',hp1',hq1',hs2']|(refine call_of _ _ hr1 ?_)|(apply spl<;>intro h<;>try simp (disch:=omega) only[go_sem,hx2,he,List.length_map,List.append_assoc,List.length_append,List.length_set,hg1',hp0',hp1',hq1',hs2' ,h]))
             exact postE_flat (.inr rfl) (by simp) (hF2 _ _ _ _) (still_int _ _) rfl ⟨_,rfl,rfl,by simp [he]⟩
           ·rw[List.drop_of_length_le (by omega),List.nil_append] at hm
            (repeat' first|simp (disch:=omega) only[go_sem,List.length_map,hp0']|(apply spl<;>intro h<;>try simp (disch:=omega) only[go_sem,List.length_map,hp0',h]))
            refine loop_of (α:=Nat × Int) (fun a=>{ tmps:=slots 121 [(1,.int .i64 d),(2,.ptr 1 r 0 0),(105,.tsl 14 (v.f.map encFd)),(106,.int .i64 v.f.length),(107,.int .i64 a.1)],heap:=H.set r (.row 1 [.int .i64 a.2] false true r),base:=H.length })
             (fun a=>a.1≤v.f.length∧seqL F (v.l++v.f.map (·.2)) (seen+1)=seqL F ((v.f.map (·.2)).drop a.1) a.2∧0≤a.2∧a.2≤65536) (fun a=>v.f.length-a.1) (0,sn)
             (norm_none (by simp) (hF1 _ _ _) rfl (fun q hq=>by have:q=r:=(List.mem_singleton.1 (show q∈[r] from hq)); omega) (by (try rw[slots_map rfl]); simp only[List.map_cons,List.map_nil,AV.renN,renOf_low hr])) ⟨Nat.zero_le _,hm,hs3,hs4⟩ ?_
            clear hm hlt hk1 hs3 hs4
            rintro ⟨k,sn⟩ ⟨hk1,hm,hs3,hs4⟩
            simp only at hk1 hm hs3 hs4
            by_cases hlt:k<v.f.length
            ·obtain ⟨x,hx⟩:=get_some hlt
             have hxm:=List.mem_of_getElem? hx
             have hx2:=map_get (g:=encFd) hx
             have hx3:=map_get (g:=fun y:List UInt8 × V=>y.2) hx
             rw[drop_cons hx3,seqL_step] at hm
             have hxk:=(L.fkids x hxm).1
             obtain ⟨s',hr1,hr2⟩:=ih x.2 (by omega) (by omega) f (d+1) sn (by omega) (by omega) (by omega) (by omega) (by omega) (by omega) (H.set r (.row 1 [.int .i64 sn] false true r)++[.row 14 [encFd x] false true H.length]) r (hF3 _ _ _) (by simp; omega) (hg1' _ _)
             have hrg:=lookM_range f x.2 (d+1) sn hs3 hs4
             rw[setL (by simpa using hr),List.set_set] at hr1
             unfold cnt at hr1
             have hFx:F x.2 sn=lookM f x.2 (d+1) sn:=by rw[←hFF]
             rw[hFx] at hm
             generalize lookM f x.2 (d+1) sn=R at hr1 hr2 hm hrg
             rw[encFd_eq] at hx2 hr1
             rw[encV_eq x.2] at hr1
             by_cases he:R.2=0
             ·rw[if_pos he] at hm
              rw[he] at hr1
              have hs':=hr2 he
              (repeat' first|simp (disch:=omega) only[go_sem,hx2,List.length_map,List.append_assoc,List.length_append,List.length_set,hg1',hp0',hq0',hs3']|(refine call_of _ _ hr1 ?_)|(apply spl<;>intro h<;>try simp (disch:=omega) only[go_sem,hx2,List.length_map,List.append_assoc,List.length_append,List.length_set,hg1',hp0',hq0',hs3' ,h]))
              refine ⟨(k+1,R.1),?_,⟨hlt,hm,hrg.1,hrg.2⟩,by simp only; omega⟩
              rw[hs']
              exact norm_none (by simp) (hF3 _ _ _) rfl (fun q hq=>by have:q=r:=(List.mem_singleton.1 (show q∈[r] from hq)); omega) (by (try rw[slots_map rfl]); simp only[List.map_cons,List.map_nil,AV.renN,renOf_low hr])
             ·rw[if_neg he] at hm
              rw[hm]
              (repeat' first|simp (disch:=omega) only[go_sem,hx2,he,List.length_map,List.append_assoc,List.length_append,List.length_set,hg1',hp0',hq0',hs3']|(refine call_of _ _ hr1 ?_)|(apply spl<;>intro h<;>try simp (disch:=omega) only[go_sem,hx2,he,List.length_map,List.append_assoc,List.length_append,List.length_set,hg1',hp0',hq0',hs3' ,h]))
              exact postE_flat (.inr rfl) (by simp) (hF3 _ _ _) (still_int _ _) rfl ⟨_,rfl,rfl,by simp [he]⟩
            ·rw[List.drop_of_length_le (by simp; omega)] at hm
             rw[hm]
             (repeat' first|simp (disch:=omega) only[go_sem,List.length_map]|(apply spl<;>intro h<;>try simp (disch:=omega) only[go_sem,List.length_map,h]))
             exact postE_flat0 (.inr rfl) (by simp) (hF.set r _ _) (still_int _ _) rfl ⟨_,rfl,rfl,fun _=>rfl⟩
          ·rw[if_pos hkey]
           refine ⟨seen+1,runR_of ac133 rfl ?_,fun h=>absurd h hkey⟩
           (repeat' first|simp (disch:=omega) only[go_sem,ac133,enter,List.length_map,encB_len,getL,setL,hH,hs1',hg1,hp0]|refine pure_of _ (h139) ?_|refine pure_of _ (h140) ?_|refine pure_of _ (h141) ?_|refine pure_of _ (h46) ?_|refine pure_of _ (h142) ?_|(apply spl<;>intro h<;>try simp (disch:=omega) only[go_sem,ac133,enter,List.length_map,encB_len,getL,setL,hH,hs1',hg1,hp0 ,h]))
           all_goals first | omega | exact post_flat (.inr rfl) (by simp) (hFb _) (still_int _ _) rfl
       ·have hk:True:=trivial
        have ho:oneI v=(if 65536<v.s.text.length∨65536<v.s.bytes.length then 10 else keysM (v.f.map (·.1))):=by unfold oneI; rw[if_neg (by simp [hk2,hk3]),if_neg (by simp [hk4])]
        rw[ho]
        by_cases hsz:65536<v.s.text.length∨65536<v.s.bytes.length
        ·rw[if_pos hsz,if_pos (by decide)]
         refine ⟨seen+1,runR_of ac133 rfl ?_,by simp⟩
         (repeat' first|simp (disch:=omega) only[go_sem,ac133,enter,List.length_map,encB_len,getL,setL,hH,hs1',hg1,hp0]|refine pure_of _ (h139) ?_|refine pure_of _ (h140) ?_|refine pure_of _ (h141) ?_|refine pure_of _ (h46) ?_|refine pure_of _ (h142) ?_|(apply spl<;>intro h<;>try simp (disch:=omega) only[go_sem,ac133,enter,List.length_map,encB_len,getL,setL,hH,hs1',hg1,hp0 ,h]))
         all_goals first | omega | exact post_flat (.inr rfl) (by simp) (hFb _) (still_int _ _) rfl
        ·rw[if_neg hsz]
         by_cases hkey:keysM (v.f.map (·.1))=0
         ·rw[hkey] at h142
          rw[if_neg (by rw[hkey]; simp),seqL_kids hown]
          refine fin (runRE_of ac133 rfl ?_)
          (repeat' first|simp (disch:=omega) only[go_sem,ac133,enter,List.length_map,encB_len,getL,setL,hH,hs1',hg1,hp0]|refine pure_of _ (h139) ?_|refine pure_of _ (h140) ?_|refine pure_of _ (h141) ?_|refine pure_of _ (h46) ?_|refine pure_of _ (h142) ?_|(apply spl<;>intro h<;>try simp (disch:=omega) only[go_sem,ac133,enter,List.length_map,encB_len,getL,setL,hH,hs1',hg1,hp0 ,h]))
          all_goals try omega
          refine loop_of (α:=Nat × Int) (fun a=>{ tmps:=slots 121 [(1,.int .i64 d),(2,.ptr 1 r 0 0),(3,.ptr 13 H.length 0 0),(89,.tsl 13 (v.l.map encV)),(90,.int .i64 v.l.length),(91,.int .i64 a.1)],heap:=H.set r (.row 1 [.int .i64 a.2] false true r)++[.row 13 [encV v] false true H.length],base:=H.length })
           (fun a=>a.1≤v.l.length∧seqL F (v.l++v.f.map (·.2)) (seen+1)=seqL F (v.l.drop a.1++v.f.map (·.2)) a.2∧0≤a.2∧a.2≤65536) (fun a=>v.l.length-a.1) (0,seen+1)
           (by rw[hle]; exact norm_first (by simp) (hFb _) rfl (reach_two hr (hp0 _ _) rfl) (by (try rw[slots_map rfl]); simp only[List.map_cons,List.map_nil,AV.renN,renOf_low hr,renOf_own])) ⟨Nat.zero_le _,rfl,by simp only; omega,by simp only; omega⟩ ?_
          rintro ⟨k,sn⟩ ⟨hk1,hm,hs3,hs4⟩
          simp only at hk1 hm hs3 hs4
          rw[hle]
          by_cases hlt:k<v.l.length
          ·obtain ⟨x,hx⟩:=get_some hlt
           have hxm:=List.mem_of_getElem? hx
           have hx2:=map_get (g:=encV) hx
           rw[drop_cons hx,List.cons_append,seqL_step] at hm
           have hxk:=L.kids x hxm
           obtain ⟨s',hr1,hr2⟩:=ih x (by omega) (by omega) f (d+1) sn (by omega) (by omega) (by omega) (by omega) (by omega) (by omega) (H.set r (.row 1 [.int .i64 sn] false true r)++[.row 13 [encV v] false true H.length,.row 13 [encV x] false true (H.length+1)]) r (hF2 _ _ _ _) (by simp; omega) (hg1' _ _)
           have hrg:=lookM_range f x (d+1) sn hs3 hs4
           rw[setL (by simpa using hr),List.set_set] at hr1
           unfold cnt at hr1
           have hFx:F x sn=lookM f x (d+1) sn:=by rw[←hFF]
           rw[hFx] at hm
           generalize lookM f x (d+1) sn=R at hr1 hr2 hm hrg
           rw[encV_eq x] at hx2 hr1
           rw[hle] at hr1
           by_cases he:R.2=0
           ·rw[if_pos he] at hm
            rw[he] at hr1
            have hs':=hr2 he
            (repeat' first|simp (disch:=omega) only[go_sem,hx2,List.length_map,List.append_assoc,List.length_append,List.length_set,hg1',hp0',hp1',hq1',hs2']|(refine call_of _ _ hr1 ?_)|(apply spl<;>intro h<;>try simp (disch:=omega) only[go_sem,hx2,List.length_map,List.append_assoc,List.length_append,List.length_set,hg1',hp0',hp1',hq1',hs2' ,h]))
            refine ⟨(k+1,R.1),?_,⟨hlt,hm,hrg.1,hrg.2⟩,by simp only; omega⟩
            rw[hs']
            exact norm_first (by simp) (hF2 _ _ _ _) rfl (reach_two hr (hp0' _ _ _) rfl) (by (try rw[slots_map rfl]); simp only[List.map_cons,List.map_nil,AV.renN,renOf_low hr,renOf_own])
           ·rw[if_neg he] at hm
            rw[hm]
            (repeat' first|simp (disch:=omega) only[go_sem,hx2,he,List.length_map,List.append_assoc,List.length_append,List.length_set,hg1',hp0',hp1',hq1',hs2']|(refine call_of _ _ hr1 ?_)|(apply spl<;>intro h<;>try simp (disch:=omega) only[go_sem,hx2,he,List.length_map,List.append_assoc,List.length_append,List.length_set,hg1',hp0',hp1',hq1',hs2' ,h]))
            exact postE_flat (.inr rfl) (by simp) (hF2 _ _ _ _) (still_int _ _) rfl ⟨_,rfl,rfl,by simp [he]⟩
          ·rw[List.drop_of_length_le (by omega),List.nil_append] at hm
           (repeat' first|simp (disch:=omega) only[go_sem,List.length_map,hp0']|(apply spl<;>intro h<;>try simp (disch:=omega) only[go_sem,List.length_map,hp0',h]))
           refine loop_of (α:=Nat × Int) (fun a=>{ tmps:=slots 121 [(1,.int .i64 d),(2,.ptr 1 r 0 0),(105,.tsl 14 (v.f.map encFd)),(106,.int .i64 v.f.length),(107,.int .i64 a.1)],heap:=H.set r (.row 1 [.int .i64 a.2] false true r),base:=H.length })
            (fun a=>a.1≤v.f.length∧seqL F (v.l++v.f.map (·.2)) (seen+1)=seqL F ((v.f.map (·.2)).drop a.1) a.2∧0≤a.2∧a.2≤65536) (fun a=>v.f.length-a.1) (0,sn)
            (norm_none (by simp) (hF1 _ _ _) rfl (fun q hq=>by have:q=r:=(List.mem_singleton.1 (show q∈[r] from hq)); omega) (by (try rw[slots_map rfl]); simp only[List.map_cons,List.map_nil,AV.renN,renOf_low hr])) ⟨Nat.zero_le _,hm,hs3,hs4⟩ ?_
           clear hm hlt hk1 hs3 hs4
           rintro ⟨k,sn⟩ ⟨hk1,hm,hs3,hs4⟩
           simp only at hk1 hm hs3 hs4
           by_cases hlt:k<v.f.length
           ·obtain ⟨x,hx⟩:=get_some hlt
            have hxm:=List.mem_of_getElem? hx
            have hx2:=map_get (g:=encFd) hx
            have hx3:=map_get (g:=fun y:List UInt8 × V=>y.2) hx
            rw[drop_cons hx3,seqL_step] at hm
            have hxk:=(L.fkids x hxm).1
            obtain ⟨s',hr1,hr2⟩:=ih x.2 (by omega) (by omega) f (d+1) sn (by omega) (by omega) (by omega) (by omega) (by omega) (by omega) (H.set r (.row 1 [.int .i64 sn] false true r)++[.row 14 [encFd x] false true H.length]) r (hF3 _ _ _) (by simp; omega) (hg1' _ _)
            have hrg:=lookM_range f x.2 (d+1) sn hs3 hs4
            rw[setL (by simpa using hr),List.set_set] at hr1
            unfold cnt at hr1
            have hFx:F x.2 sn=lookM f x.2 (d+1) sn:=by rw[←hFF]
            rw[hFx] at hm
            generalize lookM f x.2 (d+1) sn=R at hr1 hr2 hm hrg
            rw[encFd_eq] at hx2 hr1
            rw[encV_eq x.2] at hr1
            by_cases he:R.2=0
            ·rw[if_pos he] at hm
             rw[he] at hr1
             have hs':=hr2 he
             (repeat' first|simp (disch:=omega) only[go_sem,hx2,List.length_map,List.append_assoc,List.length_append,List.length_set,hg1',hp0',hq0',hs3']|(refine call_of _ _ hr1 ?_)|(apply spl<;>intro h<;>try simp (disch:=omega) only[go_sem,hx2,List.length_map,List.append_assoc,List.length_append,List.length_set,hg1',hp0',hq0',hs3' ,h]))
             refine ⟨(k+1,R.1),?_,⟨hlt,hm,hrg.1,hrg.2⟩,by simp only; omega⟩
             rw[hs']
             exact norm_none (by simp) (hF3 _ _ _) rfl (fun q hq=>by have:q=r:=(List.mem_singleton.1 (show q∈[r] from hq)); omega) (by (try rw[slots_map rfl]); simp only[List.map_cons,List.map_nil,AV.renN,renOf_low hr])
            ·rw[if_neg he] at hm
             rw[hm]
             (repeat' first|simp (disch:=omega) only[go_sem,hx2,he,List.length_map,List.append_assoc,List.length_append,List.length_set,hg1',hp0',hq0',hs3']|(refine call_of _ _ hr1 ?_)|(apply spl<;>intro h<;>try simp (disch:=omega) only[go_sem,hx2,he,List.length_map,List.append_assoc,List.length_append,List.length_set,hg1',hp0',hq0',hs3' ,h]))
             exact postE_flat (.inr rfl) (by simp) (hF3 _ _ _) (still_int _ _) rfl ⟨_,rfl,rfl,by simp [he]⟩
           ·rw[List.drop_of_length_le (by simp; omega)] at hm
            rw[hm]
            (repeat' first|simp (disch:=omega) only[go_sem,List.length_map]|(apply spl<;>intro h<;>try simp (disch:=omega) only[go_sem,List.length_map,h]))
            exact postE_flat0 (.inr rfl) (by simp) (hF.set r _ _) (still_int _ _) rfl ⟨_,rfl,rfl,fun _=>rfl⟩
         ·rw[if_pos hkey]
          refine ⟨seen+1,runR_of ac133 rfl ?_,fun h=>absurd h hkey⟩
          (repeat' first|simp (disch:=omega) only[go_sem,ac133,enter,List.length_map,encB_len,getL,setL,hH,hs1',hg1,hp0]|refine pure_of _ (h139) ?_|refine pure_of _ (h140) ?_|refine pure_of _ (h141) ?_|refine pure_of _ (h46) ?_|refine pure_of _ (h142) ?_|(apply spl<;>intro h<;>try simp (disch:=omega) only[go_sem,ac133,enter,List.length_map,encB_len,getL,setL,hH,hs1',hg1,hp0 ,h]))
          all_goals first | omega | exact post_flat (.inr rfl) (by simp) (hFb _) (still_int _ _) rfl
end Ago
set_option maxRecDepth 100000
set_option maxHeartbeats 4000000
namespace Ago
open Go (IntKind)
theorem checkV_run (v:V) (hv:v.bulk≤2^24):PRun C0 126 [encV v] (.int .i64 (checkM v)):=by
 have hF:Flat [.row 13 [encV v] false true 0,.row 1 [.int .i64 0] false true 1]:=(Flat.nil.push' 13 [encV v] (k:=0) rfl).push' 1 [.int .i64 0] (k:=1) rfl
 obtain ⟨s',h,_⟩:=ckv_run _ v (Nat.le_refl _) hv 49 1 0 (by omega) (by omega) (by omega) (by omega) (by omega) (by omega) _ 1 hF (by simp) rfl
 refine prun_of ac126 rfl ?_
 unfold checkM
 generalize (lookM 49 v 1 0).2=e at h ⊢
 rw[encV_eq] at h ⊢
 (repeat' first|simp (disch:=omega) only[go_sem,ac126,enter]|(refine call_of _ _ h ?_)|(apply spl<;>intro h<;>try simp (disch:=omega) only[go_sem,ac126,enter ,h]))
 all_goals rfl
end Ago
set_option maxRecDepth 100000
set_option maxHeartbeats 4000000
namespace Ago
open Go (IntKind)
attribute [go_sem] List.length_map encB_len
end Ago
set_option maxRecDepth 100000
set_option maxHeartbeats 4000000
namespace Ago
open Go (IntKind)
def cutV:Nat→V→V
 | 0,v=>.mk v.s [] []
 | n+1,v=>.mk v.s (v.l.map (cutV n)) (v.f.map fun x=>(x.1,cutV n x.2))
def cutL (n:Nat) (v:V):AV:=encV (cutV n v)
def cutF (n:Nat) (x:List UInt8 × V):AV:=encFd (x.1,cutV n x.2)
theorem cut_zero (v:V):encV (cutV 0 v) = .agg [.int .i64 v.s.kind,.bool v.s.bool,.bool v.s.num.neg,.str v.s.num.digits,.int .i64 v.s.num.exp,.int .i64 v.s.time.kind,.int .i64 v.s.time.day,.int .i64 v.s.time.nano,.int .i64 v.s.time.off,.str v.s.text,.tsl 1 (encB v.s.bytes),.tsl 13 [],.tsl 14 []]:=by
 rw[encV_eq]
 rfl
theorem cut_succ (n:Nat) (v:V):encV (cutV (n+1) v) = .agg [.int .i64 v.s.kind,.bool v.s.bool,.bool v.s.num.neg,.str v.s.num.digits,.int .i64 v.s.num.exp,.int .i64 v.s.time.kind,.int .i64 v.s.time.day,.int .i64 v.s.time.nano,.int .i64 v.s.time.off,.str v.s.text,.tsl 1 (encB v.s.bytes),.tsl 13 (v.l.map (cutL n)),.tsl 14 (v.f.map (cutF n))]:=by
 rw[encV_eq]
 simp only[cutV,V.s,V.l,V.f,List.map_map]
 rfl
theorem cutL_eq (n:Nat) (v:V):cutL n v = .agg [.int .i64 v.s.kind,.bool v.s.bool,.bool v.s.num.neg,.str v.s.num.digits,.int .i64 v.s.num.exp,.int .i64 v.s.time.kind,.int .i64 v.s.time.day,.int .i64 v.s.time.nano,.int .i64 v.s.time.off,.str v.s.text,.tsl 1 (encB v.s.bytes),.tsl 13 ((cutV n v).l.map encV),.tsl 14 ((cutV n v).f.map encFd)]:=by
 unfold cutL
 rw[encV_eq]
 cases n<;>rfl
theorem cutF_eq (n:Nat) (x:List UInt8 × V):cutF n x = .agg [.str x.1,.int .i64 x.2.s.kind,.bool x.2.s.bool,.bool x.2.s.num.neg,.str x.2.s.num.digits,.int .i64 x.2.s.num.exp,.int .i64 x.2.s.time.kind,.int .i64 x.2.s.time.day,.int .i64 x.2.s.time.nano,.int .i64 x.2.s.time.off,.str x.2.s.text,.tsl 1 (encB x.2.s.bytes),.tsl 13 ((cutV n x.2).l.map encV),.tsl 14 ((cutV n x.2).f.map encFd)]:=by
 unfold cutF
 rw[encFd_eq]
 cases n<;>rfl
theorem cut_run : ∀ (n:Nat) (v:V),v.bulk≤2^24→∀ (left:Int),left=n→left<2^30→PRun C0 45 [encV v,.int .i64 left] (encV (cutV n v)):=by
 intro n
 induction n with
 | zero=>
  intro v hv left hl1 hl2
  have L:=V.lens hv
  have hcl:=cloneP (code:=code) (clR:=clR) (clP:=clP) (f:=62) rfl (encB v.s.bytes) (by have:=L.bytes; rw[encB_len]; unfold lim; omega) (by have:=L.bytes; rw[encB_len]; omega)
  refine prun_of ac45 rfl ?_
  rw[cut_zero,encV_eq]
  simp (disch:=omega) only[go_sem,ac45,enter]
  refine pure_of _ hcl ?_
  (repeat' first|simp (disch:=omega) only[go_sem]|(apply spl<;>intro h<;>try simp (disch:=omega) only[go_sem,h]))
  all_goals first | omega | rfl | skip
 | succ n ih=>
  intro v hv left hl1 hl2
  have L:=V.lens hv
  have hcl:=cloneP (code:=code) (clR:=clR) (clP:=clP) (f:=62) rfl (encB v.s.bytes) (by have:=L.bytes; rw[encB_len]; unfold lim; omega) (by have:=L.bytes; rw[encB_len]; omega)
  refine prun_of ac45 rfl ?_
  rw[cut_succ,encV_eq]
  have hle:=encV_eq v
  simp (disch:=omega) only[go_sem,ac45,enter]
  refine pure_of _ hcl ?_
  (repeat' first|simp (disch:=omega) only[go_sem]|(apply spl<;>intro h<;>try simp (disch:=omega) only[go_sem,h]))
  all_goals try omega
  refine loop_of (α:=Nat × List AV) (fun a=>{ tmps:=slots 59 [(1,.int .i64 left),(2,.ptr 13 0 0 0),(4,.ptr 13 1 0 0),(5,outSl 13 2 a.2),(21,.tsl 13 (v.l.map encV)),(22,.int .i64 v.l.length),(23,.int .i64 a.1)],heap:=[.row 13 [encV v] false true 0,.row 13 [zeroS] false true 1]++outHp 13 2 a.2,base:=0 }) (fun a=>a.1≤v.l.length∧a.2=(v.l.take a.1).map (cutL n)) (fun a=>v.l.length-a.1) (0,[]) (by rw[encV_eq]; rfl) (by simp) ?_
  rintro ⟨k,els⟩ ⟨hk1,hels⟩
  simp only at hk1 hels
  rw[encV_eq]
  by_cases hlt:k<v.l.length
  ·obtain ⟨x,hx⟩:=get_some hlt
   have hxm:=List.mem_of_getElem? hx
   have hx2:=map_get (g:=encV) hx
   have hr:=ih x (by have:=L.kids x hxm; omega) (left-1) (by omega) (by omega)
   have hnew:els++[cutL n x]=(v.l.take (k+1)).map (cutL n):=by rw[hels,List.take_add_one,hx]; simp
   have hr2:PRun C0 45 [encV x,.int .i64 (left-1)] (cutL n x):=hr
   rw[cutL_eq] at hnew
   rw[encV_eq,cutL_eq] at hr2
   rw[encV_eq] at hx2
   have hlen:els.length=k:=by rw[hels]; simp; omega
   have hll:=L.list
   cases els with
   | nil=>
    (repeat' first|simp (disch:=omega) only[go_sem,hx2,List.length_map,outSl,outHp,zeroS]|refine pure_of _ (hr2) ?_|(apply spl<;>intro h<;>try simp (disch:=omega) only[go_sem,hx2,List.length_map,outSl,outHp,zeroS ,h]))
    refine ⟨(k+1,(v.l.take (k+1)).map (cutL n)),?_,⟨hlt,rfl⟩,by simp only; omega⟩
    simp only[←hnew,hle]
    rfl
   | cons y els=>
    simp only[List.length_cons] at hlen
    (repeat' first|simp (disch:=omega) only[go_sem,hx2,List.length_map,outSl,outHp,zeroS]|refine pure_of _ (hr2) ?_|(apply spl<;>intro h<;>try simp (disch:=omega) only[go_sem,hx2,List.length_map,outSl,outHp,zeroS ,h]))
    refine ⟨(k+1,(v.l.take (k+1)).map (cutL n)),?_,⟨hlt,rfl⟩,by simp only; omega⟩
    simp only[←hnew,hle,List.cons_append,outSl,outHp,List.length_append,List.length_cons,List.length_nil]
    rfl
  ·rw[take_len hlt hk1] at hels
   cases els with
   | nil=>
    (repeat' first|simp (disch:=omega) only[go_sem,outSl,outHp,zeroS]|(apply spl<;>intro h<;>try simp (disch:=omega) only[go_sem,outSl,outHp,zeroS,h]))
    refine loop_of (α:=Nat × List AV) (fun a=>{ tmps:=slots 59 [(1,.int .i64 left),(2,.ptr 13 0 0 0),(4,.ptr 13 1 0 0),(5,.snil 13),(8,outSl 14 2 a.2),(36,.tsl 14 (v.f.map encFd)),(37,.int .i64 v.f.length),(38,.int .i64 a.1)],heap:=[.row 13 [encV v] false true 0,.row 13 [zeroS] false true 1]++outHp 14 2 a.2,base:=0 }) (fun a=>a.1≤v.f.length∧a.2=(v.f.take a.1).map (cutF n)) (fun a=>v.f.length-a.1) (0,[]) (by rw[encV_eq]; rfl) (by simp) ?_
    clear hk1 hlt
    rintro ⟨k,fs⟩ ⟨hk1,hels2⟩
    simp only at hk1 hels2
    rw[encV_eq]
    by_cases hlt:k<v.f.length
    ·obtain ⟨x,hx⟩:=get_some hlt
     have hxm:=List.mem_of_getElem? hx
     have hx2:=map_get (g:=encFd) hx
     have hr:=ih x.2 (by have:=(L.fkids x hxm).1; omega) (left-1) (by omega) (by omega)
     have hnew:fs++[cutF n x]=(v.f.take (k+1)).map (cutF n):=by rw[hels2,List.take_add_one,hx]; simp
     rw[cutF_eq] at hnew
     rw[encFd_eq] at hx2
     have hr2:PRun C0 45 [encV x.2,.int .i64 (left-1)] (cutL n x.2):=hr
     rw[encV_eq,cutL_eq] at hr2
     have hlen:fs.length=k:=by rw[hels2]; simp; omega
     have hll:=L.fields
     cases fs with
     | nil=>
      (repeat' first|simp (disch:=omega) only[go_sem,hx2,outSl,outHp,zeroS]|refine pure_of _ (hr2) ?_|(apply spl<;>intro h<;>try simp (disch:=omega) only[go_sem,hx2,outSl,outHp,zeroS ,h]))
      refine ⟨(k+1,(v.f.take (k+1)).map (cutF n)),?_,⟨hlt,rfl⟩,by simp only; omega⟩
      simp only[←hnew,hle]
      rfl
     | cons z fs=>
      simp only[List.length_cons] at hlen
      (repeat' first|simp (disch:=omega) only[go_sem,hx2,outSl,outHp,zeroS]|refine pure_of _ (hr2) ?_|(apply spl<;>intro h<;>try simp (disch:=omega) only[go_sem,hx2,outSl,outHp,zeroS ,h]))
      refine ⟨(k+1,(v.f.take (k+1)).map (cutF n)),?_,⟨hlt,rfl⟩,by simp only; omega⟩
      simp only[←hnew,hle,List.cons_append,outSl,outHp,List.length_append,List.length_cons,List.length_nil]
      rfl
    ·rw[take_len hlt hk1] at hels2
     rw[←hels,←hels2]
     cases fs with
     | nil=>(repeat' first|simp (disch:=omega) only[go_sem,outSl,outHp,zeroS,List.take_length]|(apply spl<;>intro h<;>try simp (disch:=omega) only[go_sem,outSl,outHp,zeroS,List.take_length,h]))
     | cons z fs=>(repeat' first|simp (disch:=omega) only[go_sem,outSl,outHp,zeroS,List.take_length]|(apply spl<;>intro h<;>try simp (disch:=omega) only[go_sem,outSl,outHp,zeroS,List.take_length,h]))
   | cons y els=>
    (repeat' first|simp (disch:=omega) only[go_sem,outSl,outHp,zeroS]|(apply spl<;>intro h<;>try simp (disch:=omega) only[go_sem,outSl,outHp,zeroS,h]))
    refine loop_of (α:=Nat × List AV) (fun a=>{ tmps:=slots 59 [(1,.int .i64 left),(2,.ptr 13 0 0 0),(4,.ptr 13 1 0 0),(5,.sref 13 2 0 (els.length+1)),(8,outSl 14 3 a.2),(36,.tsl 14 (v.f.map encFd)),(37,.int .i64 v.f.length),(38,.int .i64 a.1)],heap:=[.row 13 [encV v] false true 0,.row 13 [zeroS] false true 1,.row 13 (y::els) false true 2]++outHp 14 3 a.2,base:=0 }) (fun a=>a.1≤v.f.length∧a.2=(v.f.take a.1).map (cutF n)) (fun a=>v.f.length-a.1) (0,[]) (by rw[encV_eq]; rfl) (by simp) ?_
    clear hk1 hlt
    rintro ⟨k,fs⟩ ⟨hk1,hels2⟩
    simp only at hk1 hels2
    rw[encV_eq]
    by_cases hlt:k<v.f.length
    ·obtain ⟨x,hx⟩:=get_some hlt
     have hxm:=List.mem_of_getElem? hx
     have hx2:=map_get (g:=encFd) hx
     have hr:=ih x.2 (by have:=(L.fkids x hxm).1; omega) (left-1) (by omega) (by omega)
     have hnew:fs++[cutF n x]=(v.f.take (k+1)).map (cutF n):=by rw[hels2,List.take_add_one,hx]; simp
     rw[cutF_eq] at hnew
     rw[encFd_eq] at hx2
     have hr2:PRun C0 45 [encV x.2,.int .i64 (left-1)] (cutL n x.2):=hr
     rw[encV_eq,cutL_eq] at hr2
     have hlen:fs.length=k:=by rw[hels2]; simp; omega
     have hll:=L.fields
     cases fs with
     | nil=>
      (repeat' first|simp (disch:=omega) only[go_sem,hx2,outSl,outHp,zeroS]|refine pure_of _ (hr2) ?_|(apply spl<;>intro h<;>try simp (disch:=omega) only[go_sem,hx2,outSl,outHp,zeroS ,h]))
      refine ⟨(k+1,(v.f.take (k+1)).map (cutF n)),?_,⟨hlt,rfl⟩,by simp only; omega⟩
      simp only[←hnew,hle]
      rfl
     | cons z fs=>
      simp only[List.length_cons] at hlen
      (repeat' first|simp (disch:=omega) only[go_sem,hx2,outSl,outHp,zeroS]|refine pure_of _ (hr2) ?_|(apply spl<;>intro h<;>try simp (disch:=omega) only[go_sem,hx2,outSl,outHp,zeroS ,h]))
      refine ⟨(k+1,(v.f.take (k+1)).map (cutF n)),?_,⟨hlt,rfl⟩,by simp only; omega⟩
      simp only[←hnew,hle,List.cons_append,outSl,outHp,List.length_append,List.length_cons,List.length_nil]
      rfl
    ·rw[take_len hlt hk1] at hels2
     rw[←hels,←hels2]
     cases fs with
     | nil=>(repeat' first|simp (disch:=omega) only[go_sem,outSl,outHp,zeroS,List.take_length]|(apply spl<;>intro h<;>try simp (disch:=omega) only[go_sem,outSl,outHp,zeroS,List.take_length,h]))
     | cons z fs=>(repeat' first|simp (disch:=omega) only[go_sem,outSl,outHp,zeroS,List.take_length]|(apply spl<;>intro h<;>try simp (disch:=omega) only[go_sem,outSl,outHp,zeroS,List.take_length,h]))
theorem cutCopy_run (v:V) (hv:v.bulk≤2^24):PRun C0 26 [encV v] (encV (cutV 65536 v)):=by
 have hr:=cut_run 65536 v hv 65536 rfl (by omega)
 have e : ∃ l f,encV (cutV 65536 v) = .agg [.int .i64 v.s.kind,.bool v.s.bool,.bool v.s.num.neg,.str v.s.num.digits,.int .i64 v.s.num.exp,.int .i64 v.s.time.kind,.int .i64 v.s.time.day,.int .i64 v.s.time.nano,.int .i64 v.s.time.off,.str v.s.text,.tsl 1 (encB v.s.bytes),.tsl 13 l,.tsl 14 f]:=⟨_,_,cut_succ 65535 v⟩
 obtain ⟨l,f,e⟩:=e
 rw[e] at hr ⊢
 refine prun_of ac26 rfl ?_
 rw[encV_eq] at hr ⊢
 (repeat' first|simp (disch:=omega) only[go_sem,ac26,enter]|refine pure_of _ (hr) ?_|(apply spl<;>intro h<;>try simp (disch:=omega) only[go_sem,ac26,enter ,h]))
end Ago
set_option maxRecDepth 100000
set_option maxHeartbeats 4000000
namespace Ago
open Go (IntKind)
attribute [go_sem] List.length_map encB_len
end Ago
set_option maxRecDepth 100000
set_option maxHeartbeats 4000000
namespace Ago
open Go (IntKind)
theorem sameRefl_run : ∀ (n:Nat) (v:V),v.bulk≤n→n≤2^24→PRun C0 29 [encV v,encV v] (.bool true):=by
 intro n
 induction n with
 | zero=>
  intro v hv
  have:1≤v.bulk:=bulk_one _
  omega
 | succ n ih=>
  intro v hv hn
  have L:=V.lens (v:=v) (N:=2^24) (by omega)
  have hb:=omap_encB v.s.bytes
  refine prun_of ac29 rfl ?_
  rw[encV_eq v]
  (repeat' first|simp (disch:=omega) only[go_sem,ac29,enter,hb,bne_self_eq_false]|(apply spl<;>intro h<;>try simp (disch:=omega) only[go_sem,ac29,enter,hb,bne_self_eq_false,h]))
  refine loop_of (α:=Nat) (fun k=>{ tmps:=slots 122 [(2,.ptr 13 0 0 0),(3,.ptr 13 1 0 0),(5,.int .i64 k)],heap:=[.row 13 [encV v] false true 0,.row 13 [encV v] false true 1],base:=0 }) (fun k=>k≤v.l.length) (fun k=>v.l.length-k) 0 (by rw[encV_eq]; rfl) (Nat.zero_le _) ?_
  rintro k hk1
  rw[encV_eq v]
  have hll:=L.list
  have hlf:=L.fields
  by_cases hlt:k<v.l.length
  ·obtain ⟨x,hx⟩:=get_some hlt
   have hx2:=map_get (g:=encV) hx
   have hr:=ih x (by have:=L.kids x (List.mem_of_getElem? hx); omega) (by omega)
   rw[encV_eq x] at hx2 hr
   (repeat' first|simp (disch:=omega) only[go_sem,hx2]|refine pure_of _ (hr) ?_|(apply spl<;>intro h<;>try simp (disch:=omega) only[go_sem,hx2 ,h]))
   exact ⟨k+1,rfl,hlt,by omega⟩
  ·(repeat' first|simp (disch:=omega) only[go_sem]|(apply spl<;>intro h<;>try simp (disch:=omega) only[go_sem,h]))
   refine loop_of (α:=Nat) (fun k=>{ tmps:=slots 122 [(2,.ptr 13 0 0 0),(3,.ptr 13 1 0 0),(6,.int .i64 k)],heap:=[.row 13 [encV v] false true 0,.row 13 [encV v] false true 1],base:=0 }) (fun k=>k≤v.f.length) (fun k=>v.f.length-k) 0 (by rw[encV_eq]; rfl) (Nat.zero_le _) ?_
   clear hk1 hlt
   rintro k hk1
   rw[encV_eq v]
   by_cases hlt:k<v.f.length
   ·obtain ⟨x,hx⟩:=get_some hlt
    have hx2:=map_get (g:=encFd) hx
    have hr:=ih x.2 (by have:=(L.fkids x (List.mem_of_getElem? hx)).1; omega) (by omega)
    rw[encFd_eq x] at hx2
    rw[encV_eq] at hr
    have hkk:(x.1 == x.1)=true:=by simp
    (repeat' first|simp (disch:=omega) only[go_sem,hx2,hkk,bne_self_eq_false]|refine pure_of _ (hr) ?_|(apply spl<;>intro h<;>try simp (disch:=omega) only[go_sem,hx2,hkk,bne_self_eq_false ,h]))
    exact ⟨k+1,rfl,hlt,by omega⟩
   ·(repeat' first|simp (disch:=omega) only[go_sem]|(apply spl<;>intro h<;>try simp (disch:=omega) only[go_sem,h]))
end Ago
