/- The program's own looks at decimals and times. -/
import Derived.Test.YtglenpfcanlbgaaGreatDoorPRunA
import Derived.Test.YtglenpfcanlbgaaGreatDoorPMachE
set_option linter.unusedSimpArgs false
set_option linter.unusedVariables false
set_option maxRecDepth 100000
set_option maxHeartbeats 4000000
namespace Ago
open Go (IntKind)
end Ago
namespace Ago
open Go (IntKind)
def tmIn (t:Tm):Bool:=decide (1≤t.kind∧t.kind≤4∧0≤t.day∧t.day≤3652058∧0≤t.nano∧t.nano≤86399999999999∧-1439≤t.off∧t.off≤1439)
def tmOk (t:Tm):Bool:=tmIn t && decide (t.kind=2→t.day=0) && decide (t.kind=1→t.nano=0) && decide (t.kind=4∨t.off=0)
def encTm (t:Tm):AV:=.agg [.int .i64 t.kind,.int .i64 t.day,.int .i64 t.nano,.int .i64 t.off]
theorem tm_false {t:Tm} (h : ¬ (1≤t.kind∧t.kind≤4∧0≤t.day∧t.day≤3652058∧0≤t.nano∧t.nano≤86399999999999∧-1439≤t.off∧t.off≤1439)):tmOk t=false:=by
 unfold tmOk tmIn
 rw[decide_eq_false h]
 rfl
end Ago
set_option maxRecDepth 100000
set_option maxHeartbeats 4000000
namespace Ago
open Go (IntKind)
theorem dated_run (t:Int):PRun C0 91 [.int .i64 t] (.bool (decide (t=1∨t=3∨t=4))):=by
 refine prun_of ac91 rfl ?_
 (repeat' first|simp (disch:=omega) only[go_sem,ac91,enter]|(apply spl<;>intro h<;>try simp (disch:=omega) only[go_sem,ac91,enter,h]))
 all_goals first
  | (simp; omega)
  | (congr 2; rw[Bool.eq_iff_iff]; simp; omega)
  | (simp_all; done)
theorem clocked_run (t:Int):PRun C0 92 [.int .i64 t] (.bool (decide (t=2∨t=3∨t=4))):=by
 refine prun_of ac92 rfl ?_
 (repeat' first|simp (disch:=omega) only[go_sem,ac92,enter]|(apply spl<;>intro h<;>try simp (disch:=omega) only[go_sem,ac92,enter,h]))
 all_goals first
  | (simp; omega)
  | (congr 2; rw[Bool.eq_iff_iff]; simp; omega)
  | (simp_all; done)
theorem tm_run (t:Tm):PRun C0 80 [encTm t] (.bool (tmOk t)):=by
 have h1:=dated_run t.kind
 have h2:=clocked_run t.kind
 refine prun_of ac80 rfl ?_
 unfold encTm
 (repeat' first|simp (disch:=omega) only[go_sem,ac80,enter]|refine pure_of _ (h1) ?_|refine pure_of _ (h2) ?_|(apply spl<;>intro h<;>try simp (disch:=omega) only[go_sem,ac80,enter ,h]))
 all_goals first
  | (rw[tm_false (by omega)]; done)
  | (simp [tmOk,tmIn]; omega)
  | (
   have e:tmOk t=(t.off == 0):=by
    rw[Bool.eq_iff_iff]
    simp [tmOk,tmIn]
    omega
   rw[e])

def numZ (d:Dec):Bool:=d.neg == false && (d.digits == [] && d.exp == 0)
def tmZ (t:Tm):Bool:=t.kind == 0 && (t.day == 0 && (t.nano == 0 && t.off == 0))
def ownM (v:V):Bool:=
 decide (0≤v.s.kind∧v.s.kind≤7) && (v.s.kind == 1 || v.s.bool == false) && (v.s.kind == 2 || numZ v.s.num) && (v.s.kind == 3 || tmZ v.s.time) &&
 (v.s.kind == 4 || v.s.text == []) && (v.s.kind == 5 || (v.s.bytes.length:Int) == 0) && (v.s.kind == 6 || (v.l.length:Int) == 0) && (v.s.kind == 7 || (v.f.length:Int) == 0)
theorem own_run (v:V):PRun C0 78 [encV v] (.bool (ownM v)):=by
 refine prun_of ac78 rfl ?_
 rw[encV_eq]
 (repeat' first|simp (disch:=omega) only[go_sem,ac78,enter,List.length_map,encB_len]|(apply spl<;>intro h<;>try simp (disch:=omega) only[go_sem,ac78,enter,List.length_map,encB_len,h]))
 all_goals (congr 2; unfold ownM numZ tmZ; simp_all)
 all_goals omega
end Ago
set_option maxRecDepth 100000
set_option maxHeartbeats 4000000
namespace Ago
open Go (IntKind)
def keysGo:List (List UInt8)→List (List UInt8)→Int
 | _,[]=>0
 | pre,x::l=>if utf x=false then 5 else if 1024<x.length then 10 else if pre.contains x then 8 else keysGo (pre++[x]) l
def keysM (l:List (List UInt8)):Int:=keysGo [] l
theorem keysM_step {l:List (List UInt8)} {i:Nat} {x:List UInt8} (h:l[i]?=some x):keysGo (l.take i) (l.drop i)=if utf x=false then 5 else if 1024<x.length then 10 else if (l.take i).contains x then 8 else keysGo (l.take (i+1)) (l.drop (i+1)):=by
 have hl:=(List.getElem?_eq_some_iff.1 h)
 obtain ⟨hlt,hx⟩:=hl
 rw[List.drop_eq_getElem_cons hlt,hx]
 conv=>lhs; unfold keysGo
 rw[List.take_add_one,h]
 rfl
theorem keys_run (f:List (List UInt8 × V)) (hf:f.length<2^30) (hk : ∀ x,x∈f→x.1.length<2^30):PRun C0 81 [.tsl 14 (f.map encFd)] (.int .i64 (keysM (f.map (·.1)))):=by
 refine prun_of ac81 rfl ?_
 (repeat' first|simp (disch:=omega) only[go_sem,ac81,enter]|(apply spl<;>intro h<;>try simp (disch:=omega) only[go_sem,ac81,enter,h]))
 refine loop_of (α:=Nat) (fun i=>{ tmps:=slots 41 [(0,.tsl 14 (f.map encFd)),(3,.int .i64 i)],heap:=[],base:=0 }) (fun i=>i≤f.length∧keysM (f.map (·.1))=keysGo ((f.map (·.1)).take i) ((f.map (·.1)).drop i)) (fun i=>f.length-i) 0 rfl ⟨Nat.zero_le _,rfl⟩ ?_
 rintro i ⟨hi,hm⟩
 by_cases hlt:i<f.length
 ·obtain ⟨x,hx⟩:=get_some hlt
  have hx2:=map_get (g:=encFd) hx
  have hx3:=map_get (g:=fun y:List UInt8 × V=>y.1) hx
  rw[encFd_eq] at hx2
  have hu:=utf_run x.1 (hk x (List.mem_of_getElem? hx))
  rw[keysM_step hx3] at hm
  cases hux:utf x.1 with
  | false=>
   rw[hux] at hu hm
   rw[if_pos rfl] at hm
   rw[hm]
   (repeat' first|simp (disch:=omega) only[go_sem,hx2,List.length_map]|refine pure_of _ (hu) ?_|(apply spl<;>intro h<;>try simp (disch:=omega) only[go_sem,hx2,List.length_map ,h]))
  | true=>
   rw[hux] at hu hm
   rw[if_neg (by simp)] at hm
   by_cases h1:1024<x.1.length
   ·rw[if_pos h1] at hm
    rw[hm]
    (repeat' first|simp (disch:=omega) only[go_sem,hx2,List.length_map]|refine pure_of _ (hu) ?_|(apply spl<;>intro h<;>try simp (disch:=omega) only[go_sem,hx2,List.length_map ,h]))
   ·rw[if_neg h1] at hm
    (repeat' first|simp (disch:=omega) only[go_sem,hx2,List.length_map]|refine pure_of _ (hu) ?_|(apply spl<;>intro h<;>try simp (disch:=omega) only[go_sem,hx2,List.length_map ,h]))
    refine loop_of (α:=Nat) (fun j=>{ tmps:=slots 41 [(0,.tsl 14 (f.map encFd)),(3,.int .i64 i),(4,.int .i64 j)],heap:=[],base:=0 }) (fun j=>j≤i∧∀ y,y∈(f.map (·.1)).take j→y≠x.1) (fun j=>i-j) 0 rfl ⟨Nat.zero_le _,by simp⟩ ?_
    rintro j ⟨hj,hne⟩
    by_cases hlt2:j<i
    ·obtain ⟨y,hy⟩:=get_some (s:=f) (k:=j) (by omega)
     have hy2:=map_get (g:=encFd) hy
     have hy3:=map_get (g:=fun y:List UInt8 × V=>y.1) hy
     rw[encFd_eq] at hy2
     by_cases he:y.1=x.1
     ·have hc:((f.map (·.1)).take i).contains x.1=true:=by
       rw[List.contains_iff_mem]
       refine List.mem_of_getElem? (i:=j) ?_
       rw[List.getElem?_take_of_lt hlt2,hy3,he]
      rw[if_pos hc] at hm
      rw[hm]
      have he2:(y.1 == x.1)=true:=by simpa using he
      (repeat' first|simp (disch:=omega) only[go_sem,hx2,hy2,he2,List.length_map]|(apply spl<;>intro h<;>try simp (disch:=omega) only[go_sem,hx2,hy2,he2,List.length_map,h]))
     ·have he2:(y.1 == x.1)=false:=by simpa using he
      (repeat' first|simp (disch:=omega) only[go_sem,hx2,hy2,he2,List.length_map]|(apply spl<;>intro h<;>try simp (disch:=omega) only[go_sem,hx2,hy2,he2,List.length_map,h]))
      refine ⟨j+1,rfl,⟨hlt2,fun z hz=>?_⟩,by omega⟩
      rw[List.take_add_one,hy3] at hz
      rcases List.mem_append.1 hz with hz | hz
      ·exact hne z hz
      ·have:z=y.1:=by simpa using hz
       rw[this]
       exact he
    ·have hji:j=i:=by omega
     subst hji
     have hc:((f.map (·.1)).take j).contains x.1=false:=by
      rw[Bool.eq_false_iff]
      intro h
      rw[List.contains_iff_mem] at h
      exact hne _ h rfl
     rw[if_neg (by rw[hc]; simp)] at hm
     (repeat' first|simp (disch:=omega) only[go_sem,hx2,List.length_map]|(apply spl<;>intro h<;>try simp (disch:=omega) only[go_sem,hx2,List.length_map,h]))
     exact ⟨j+1,rfl,⟨hlt,hm⟩,by omega⟩
 ·have e:keysM (f.map (·.1))=0:=by
   rw[hm,List.drop_of_length_le (by simp; omega)]
   unfold keysGo
   rfl
  rw[e]
  (repeat' first|simp (disch:=omega) only[go_sem,List.length_map]|(apply spl<;>intro h<;>try simp (disch:=omega) only[go_sem,List.length_map,h]))
end Ago
set_option maxRecDepth 100000
set_option maxHeartbeats 4000000
namespace Ago
open Go (IntKind)
def oneM (v:V):Int:=
 if ownM v=false then 6
 else if decOk v.s.num=false∨v.s.kind=3∧tmOk v.s.time=false then 2
 else if utf v.s.text=false then 5
 else if 65536<v.s.text.length∨65536<v.s.bytes.length then 10
 else keysM (v.f.map (·.1))
theorem one_run (v:V) (hv:v.bulk≤2^24):PRun C0 57 [encV v] (.int .i64 (oneM v)):=by
 have L:=V.lens hv
 have h1:=own_run v
 have h2:=decOk_run v.s.num (by have:=L.digits; omega)
 have h3:=utf_run v.s.text (by have:=L.text; omega)
 have h4:=tm_run v.s.time
 have h5:=keys_run v.f (by have:=L.fields; omega) (fun x hx=>by have:=(L.fkids x hx).2; omega)
 unfold encTm at h4
 unfold encDec at h2
 rw[encV_eq] at h1 ⊢
 refine prun_of ac57 rfl ?_
 unfold oneM
 cases hb1:ownM v with
 | false=>
  rw[hb1] at h1
  (repeat' first|simp (disch:=omega) only[go_sem,ac57,enter,List.length_map,encB_len]|refine pure_of _ (h1) ?_|refine pure_of _ (h2) ?_|refine pure_of _ (h3) ?_|refine pure_of _ (h4) ?_|refine pure_of _ (h5) ?_|(apply spl<;>intro h<;>try simp (disch:=omega) only[go_sem,ac57,enter,List.length_map,encB_len ,h]))
 | true=>
  rw[hb1] at h1
  rw[if_neg (by simp)]
  cases hb2:decOk v.s.num with
  | false=>
   rw[hb2] at h2
   rw[if_pos (.inl rfl)]
   (repeat' first|simp (disch:=omega) only[go_sem,ac57,enter,List.length_map,encB_len]|refine pure_of _ (h1) ?_|refine pure_of _ (h2) ?_|refine pure_of _ (h3) ?_|refine pure_of _ (h4) ?_|refine pure_of _ (h5) ?_|(apply spl<;>intro h<;>try simp (disch:=omega) only[go_sem,ac57,enter,List.length_map,encB_len ,h]))
  | true=>
   rw[hb2] at h2
   by_cases hb4:v.s.kind=3∧tmOk v.s.time=false
   ·rw[if_pos (.inr hb4)]
    rw[hb4.2] at h4
    have hk:=hb4.1
    rw[hk] at h1
    (repeat' first|simp (disch:=omega) only[go_sem,ac57,enter,List.length_map,encB_len,hk]|refine pure_of _ (h1) ?_|refine pure_of _ (h2) ?_|refine pure_of _ (h3) ?_|refine pure_of _ (h4) ?_|refine pure_of _ (h5) ?_|(apply spl<;>intro h<;>try simp (disch:=omega) only[go_sem,ac57,enter,List.length_map,encB_len,hk ,h]))
   ·rw[if_neg (by simpa using hb4)]
    have hkt:v.s.kind=3→tmOk v.s.time=true:=fun h=>by
     cases ht:tmOk v.s.time with
     | true=>rfl
     | false=>exact (hb4 ⟨h,ht⟩).elim
    cases hb3:utf v.s.text with
    | false=>
     rw[hb3] at h3
     rw[if_pos rfl]
     by_cases hk:v.s.kind=3
     ·rw[hkt hk] at h4; rw[hk] at h1
      (repeat' first|simp (disch:=omega) only[go_sem,ac57,enter,List.length_map,encB_len,hk]|refine pure_of _ (h1) ?_|refine pure_of _ (h2) ?_|refine pure_of _ (h3) ?_|refine pure_of _ (h4) ?_|refine pure_of _ (h5) ?_|(apply spl<;>intro h<;>try simp (disch:=omega) only[go_sem,ac57,enter,List.length_map,encB_len,hk ,h]))
     ·(repeat' first|simp (disch:=omega) only[go_sem,ac57,enter,List.length_map,encB_len,hk]|refine pure_of _ (h1) ?_|refine pure_of _ (h2) ?_|refine pure_of _ (h3) ?_|refine pure_of _ (h4) ?_|refine pure_of _ (h5) ?_|(apply spl<;>intro h<;>try simp (disch:=omega) only[go_sem,ac57,enter,List.length_map,encB_len,hk ,h]))
    | true=>
     rw[hb3] at h3
     rw[if_neg (by simp)]
     by_cases hs:65536<v.s.text.length∨65536<v.s.bytes.length
     ·rw[if_pos hs]
      by_cases hk:v.s.kind=3
      ·rw[hkt hk] at h4; rw[hk] at h1
       (repeat' first|simp (disch:=omega) only[go_sem,ac57,enter,List.length_map,encB_len,hk]|refine pure_of _ (h1) ?_|refine pure_of _ (h2) ?_|refine pure_of _ (h3) ?_|refine pure_of _ (h4) ?_|refine pure_of _ (h5) ?_|(apply spl<;>intro h<;>try simp (disch:=omega) only[go_sem,ac57,enter,List.length_map,encB_len,hk ,h]))
       all_goals first | omega | rfl
      ·(repeat' first|simp (disch:=omega) only[go_sem,ac57,enter,List.length_map,encB_len,hk]|refine pure_of _ (h1) ?_|refine pure_of _ (h2) ?_|refine pure_of _ (h3) ?_|refine pure_of _ (h4) ?_|refine pure_of _ (h5) ?_|(apply spl<;>intro h<;>try simp (disch:=omega) only[go_sem,ac57,enter,List.length_map,encB_len,hk ,h]))
       all_goals first | omega | rfl
     ·rw[if_neg hs]
      by_cases hk:v.s.kind=3
      ·rw[hkt hk] at h4; rw[hk] at h1
       (repeat' first|simp (disch:=omega) only[go_sem,ac57,enter,List.length_map,encB_len,hk]|refine pure_of _ (h1) ?_|refine pure_of _ (h2) ?_|refine pure_of _ (h3) ?_|refine pure_of _ (h4) ?_|refine pure_of _ (h5) ?_|(apply spl<;>intro h<;>try simp (disch:=omega) only[go_sem,ac57,enter,List.length_map,encB_len,hk ,h]))
       all_goals first | omega | rfl
      ·(repeat' first|simp (disch:=omega) only[go_sem,ac57,enter,List.length_map,encB_len,hk]|refine pure_of _ (h1) ?_|refine pure_of _ (h2) ?_|refine pure_of _ (h3) ?_|refine pure_of _ (h4) ?_|refine pure_of _ (h5) ?_|(apply spl<;>intro h<;>try simp (disch:=omega) only[go_sem,ac57,enter,List.length_map,encB_len,hk ,h]))
       all_goals first | omega | rfl
end Ago
set_option maxRecDepth 100000
set_option maxHeartbeats 4000000
namespace Ago
open Go (IntKind)
def seqL (f:V→Int→Int × Int):List V→Int→Int × Int
 | [],seen=>(seen,0)
 | x::l,seen=>if (f x seen).2=0 then seqL f l (f x seen).1 else f x seen
def lookM:Nat→V→Int→Int→Int × Int
 | 0,_,_,seen=>(seen,9)
 | k+1,v,d,seen=>if 48<d then (seen,9) else if 65536≤seen then (seen,10) else if oneM v≠0 then (seen,oneM v) else seqL (fun x s=>lookM k x (d+1) s) v.kids (seen+1)
theorem seqL_step {f:V→Int→Int × Int} {l:List V} {x:V} {seen:Int}:seqL f (x::l) seen=if (f x seen).2=0 then seqL f l (f x seen).1 else f x seen:=rfl
theorem seqL_range {f:V→Int→Int × Int} (hf : ∀ x s,0≤s→s≤65536→0≤(f x s).1∧(f x s).1≤65536) : ∀ (l:List V) (s:Int),0≤s→s≤65536→0≤(seqL f l s).1∧(seqL f l s).1≤65536
 | [],s,h1,h2=>⟨h1,h2⟩
 | x::l,s,h1,h2=>by
  have h:=hf x s h1 h2
  rw[seqL_step]
  split
  ·exact seqL_range hf l _ h.1 h.2
  ·exact h
theorem lookM_range : ∀ (k:Nat) (v:V) (d s:Int),0≤s→s≤65536→0≤(lookM k v d s).1∧(lookM k v d s).1≤65536
 | 0,v,d,s,h1,h2=>⟨h1,h2⟩
 | k+1,v,d,s,h1,h2=>by
  unfold lookM
  split
  ·exact ⟨h1,h2⟩
  ·split
   ·exact ⟨h1,h2⟩
   ·split
    ·exact ⟨h1,h2⟩
    ·exact seqL_range (fun x s h1 h2=>lookM_range k x (d+1) s h1 h2) _ _ (by omega) (by omega)
theorem look_run : ∀ (n:Nat) (v:V),v.bulk≤n→n≤2^24→∀ (f:Nat) (d seen:Int),0≤d→49<d+f→d≤49→0<f→0≤seen→seen≤65536→PRun C0 39 [encV v,.int .i64 d,.int .i64 seen] (.tup [.int .i64 (lookM f v d seen).1,.int .i64 (lookM f v d seen).2]):=by
 intro n
 induction n with
 | zero=>
  intro v hv
  have:1≤v.bulk:=bulk_one _
  omega
 | succ n ih=>
  intro v hv hn f d seen hd1 hdf hd2 hf0 hs1 hs2
  obtain ⟨f,rfl⟩ : ∃ g,f=g+1:=⟨f-1,by omega⟩
  have h1:=one_run v (by omega)
  have h2:=kids_run v (by omega)
  obtain ⟨kb1,kb2⟩:=kids_bulk (v:=v) (by omega)
  rw[encV_eq] at h1 h2 ⊢
  rw[show lookM (f+1) v d seen=if 48<d then (seen,9) else if 65536≤seen then (seen,10) else if oneM v≠0 then (seen,oneM v) else seqL (fun x s=>lookM f x (d+1) s) v.kids (seen+1) from rfl]
  refine prun_of ac39 rfl ?_
  by_cases g1:48<d
  ·rw[if_pos g1]
   (repeat' first|simp (disch:=omega) only[go_sem,ac39,enter,List.length_map]|refine pure_of _ (h1) ?_|refine pure_of _ (h2) ?_|(apply spl<;>intro h<;>try simp (disch:=omega) only[go_sem,ac39,enter,List.length_map ,h]))
  ·rw[if_neg g1]
   by_cases g2:65536≤seen
   ·rw[if_pos g2]
    (repeat' first|simp (disch:=omega) only[go_sem,ac39,enter,List.length_map]|refine pure_of _ (h1) ?_|refine pure_of _ (h2) ?_|(apply spl<;>intro h<;>try simp (disch:=omega) only[go_sem,ac39,enter,List.length_map ,h]))
   ·rw[if_neg g2]
    by_cases g3:oneM v=0
    ·rw[if_neg (by simpa using g3)]
     rw[g3] at h1
     (repeat' first|simp (disch:=omega) only[go_sem,ac39,enter,List.length_map]|refine pure_of _ (h1) ?_|refine pure_of _ (h2) ?_|(apply spl<;>intro h<;>try simp (disch:=omega) only[go_sem,ac39,enter,List.length_map ,h]))
     refine loop_of (α:=Nat × Int) (fun a=>{ tmps:=slots 50 [(1,.int .i64 d),(2,.int .i64 a.2),(9,.tsl 13 (v.kids.map encV)),(10,.int .i64 a.1)],heap:=[],base:=0 }) (fun a=>a.1≤v.kids.length∧seqL (fun x s=>lookM f x (d+1) s) v.kids (seen+1)=seqL (fun x s=>lookM f x (d+1) s) (v.kids.drop a.1) a.2∧0≤a.2∧a.2≤65536) (fun a=>v.kids.length-a.1) (0,seen+1) rfl ⟨Nat.zero_le _,rfl,by simp only; omega,by simp only; omega⟩ ?_
     rintro ⟨k,sn⟩ ⟨hk,hm,hs3,hs4⟩
     simp only at hk hm hs3 hs4
     by_cases hlt:k<v.kids.length
     ·obtain ⟨x,hx⟩:=get_some hlt
      have hxm:=List.mem_of_getElem? hx
      have hx2:=map_get (g:=encV) hx
      have hdr:v.kids.drop k=x::v.kids.drop (k+1):=by
       obtain ⟨h3,h4⟩:=List.getElem?_eq_some_iff.1 hx
       rw[List.drop_eq_getElem_cons h3,h4]
      have hr:=ih x (by have:=kb1 x hxm; omega) (by omega) f (d+1) sn (by omega) (by omega) (by omega) (by omega) (by omega) (by omega)
      have hrg:=lookM_range f x (d+1) sn hs3 hs4
      rw[hdr,seqL_step] at hm
      generalize lookM f x (d+1) sn=r at hr hm hrg
      rw[encV_eq] at hx2 hr
      by_cases he:r.2=0
      ·rw[if_pos he] at hm
       rw[he] at hr
       (repeat' first|simp (disch:=omega) only[go_sem,hx2,List.length_map]|refine pure_of _ (hr) ?_|(apply spl<;>intro h<;>try simp (disch:=omega) only[go_sem,hx2,List.length_map ,h]))
       exact ⟨(k+1,r.1),rfl,⟨hlt,hm,hrg.1,hrg.2⟩,by simp only; omega⟩
      ·rw[if_neg he] at hm
       rw[hm]
       (repeat' first|simp (disch:=omega) only[go_sem,hx2,List.length_map,he]|refine pure_of _ (hr) ?_|(apply spl<;>intro h<;>try simp (disch:=omega) only[go_sem,hx2,List.length_map,he ,h]))
     ·rw[List.drop_of_length_le (by omega)] at hm
      rw[hm]
      (repeat' first|simp (disch:=omega) only[go_sem,List.length_map]|(apply spl<;>intro h<;>try simp (disch:=omega) only[go_sem,List.length_map,h]))
      rfl
    ·rw[if_pos g3]
     (repeat' first|simp (disch:=omega) only[go_sem,ac39,enter,List.length_map,g3]|refine pure_of _ (h1) ?_|refine pure_of _ (h2) ?_|(apply spl<;>intro h<;>try simp (disch:=omega) only[go_sem,ac39,enter,List.length_map,g3 ,h]))
def checkM (v:V):Int:=(lookM 49 v 1 0).2
theorem check_run (v:V) (hv:v.bulk≤2^24):PRun C0 19 [encV v] (.int .i64 (checkM v)):=by
 have h1:=look_run _ v (Nat.le_refl _) hv 49 1 0 (by omega) (by omega) (by omega) (by omega) (by omega) (by omega)
 rw[encV_eq] at h1 ⊢
 refine prun_of ac19 rfl ?_
 (repeat' first|simp (disch:=omega) only[go_sem,ac19,enter]|refine pure_of _ (h1) ?_|(apply spl<;>intro h<;>try simp (disch:=omega) only[go_sem,ac19,enter ,h]))
 all_goals rfl
end Ago
set_option maxRecDepth 100000
set_option maxHeartbeats 4000000
namespace Ago
open Go (IntKind)
theorem u8and (m:Nat) (a:Nat) (h:a<256) (hm:m<256):IntKind.wrap .u8 ((BitVec.ofInt (IntKind.bits .u8) (a:Int) &&& BitVec.ofInt (IntKind.bits .u8) (m:Int)).toNat:Int)=((a &&& m:Nat):Int):=by
 have e:IntKind.bits .u8=8:=rfl
 rw[e,BitVec.toNat_and,BitVec.toNat_ofInt,BitVec.toNat_ofInt]
 have h1:((a:Int) % ((2^8:Nat):Int)).toNat=a:=by omega
 have h2:((m:Int) % ((2^8:Nat):Int)).toNat=m:=by omega
 rw[h1,h2]
 have h3:a &&& m≤a:=Nat.and_le_left
 exact w8 (by omega) (by omega)
theorem b7 (c:UInt8):IntKind.wrap .u8 ((BitVec.ofInt (IntKind.bits .u8) (c.toNat:Int) &&& BitVec.ofInt (IntKind.bits .u8) 7).toNat:Int)=(c.toNat:Int) % 8:=by
 have:=u8and 7 c.toNat c.toNat_lt (by omega)
 rw[show ((7:Nat):Int)=7 from rfl] at this
 rw[this,show (7:Nat)=2^3-1 from rfl,Nat.and_two_pow_sub_one_eq_mod]
 omega
end Ago
set_option maxRecDepth 100000
set_option maxHeartbeats 4000000
namespace Ago
open Go (IntKind)
end Ago
set_option maxRecDepth 100000
set_option maxHeartbeats 4000000
namespace Ago
open Go (IntKind)
end Ago
set_option maxRecDepth 100000
set_option maxHeartbeats 4000000
namespace Ago
open Go (IntKind)
end Ago
set_option maxRecDepth 100000
set_option maxHeartbeats 4000000
namespace Ago
open Go (IntKind)
def setMap (l:List (List UInt8)):List (AV × AV):=l.map fun x=>(.str x,.bool true)
end Ago
set_option maxRecDepth 100000
set_option maxHeartbeats 4000000
namespace Ago
open Go (IntKind)

def Flat (H:Heap):Prop:=∀ j b,H[j]?=some b→∃ n els,b=Blk.row n els false true j
theorem Flat.nil:Flat []:=fun j b h=>by simp at h
theorem Flat.push {H:Heap} (h:Flat H) (n:Nat) (els:List AV):Flat (H++[.row n els false true H.length]):=fun j b hj=>by
 by_cases hlt:j<H.length
 ·rw[List.getElem?_append_left hlt] at hj
  exact h j b hj
 ·rw[List.getElem?_append_right (by omega)] at hj
  have e:j-H.length=0:=by
   have:=(List.getElem?_eq_some_iff.1 hj).1
   simp at this
   omega
  rw[e] at hj
  obtain rfl:j=H.length:=by omega
  cases hj
  exact ⟨n,els,rfl⟩
theorem Flat.set {H:Heap} (h:Flat H) (r n:Nat) (els:List AV):Flat (H.set r (.row n els false true r)):=fun j b hj=>by
 rw[List.getElem?_set] at hj
 split at hj
 ·rename_i e
  subst e
  split at hj
  ·cases hj
   exact ⟨n,els,rfl⟩
  ·cases hj
 ·exact h j b hj
theorem strikeGo_flat (r k:Nat) : ∀ (H:Heap) (i:Nat),(∀ j b,H[j]?=some b→∃ n els,b=Blk.row n els false true (i+j))→strikeGo r r k H i=some H
 | [],_,_=>rfl
 | b::H,i,h=>by
  have ih:=strikeGo_flat r k H (i+1) fun j b hj=>by
   obtain ⟨n,els,e⟩:=h (j+1) b (by simpa using hj)
   exact ⟨n,els,by rw[e]; congr 1; omega⟩
  obtain ⟨n,els,rfl⟩:=h 0 b (by simp)
  unfold strikeGo
  rw[ih]
  simp only[Nat.add_zero]
  rw[if_neg (by omega)]
theorem Flat.strike {H:Heap} (h:Flat H) (r k:Nat):strikeGo r r k H 0=some H:=strikeGo_flat r k H 0 fun j b hj=>by
 rw[Nat.zero_add]
 exact h j b hj
theorem Flat.refs {H:Heap} (h:Flat H):H.flatMap Blk.refs=[]:=by
 rw[List.flatMap_eq_nil_iff]
 intro b hb
 obtain ⟨j,hj⟩:=List.getElem?_of_mem hb
 obtain ⟨n,els,rfl⟩:=h j b hj
 rfl
theorem Flat.left {H E:Heap} (h:Flat (H++E)):Flat H:=fun j b hj=>h j b (by
 rw[List.getElem?_append_left (List.getElem?_eq_some_iff.1 hj).1]
 exact hj)

theorem setL {H l:Heap} {m:Nat} {x:Blk} (h:m<H.length):(H++l).set m x=H.set m x++l:=List.set_append_left _ _ h


theorem Flat.mem {H:Heap} (h:Flat H) : ∀ b,b∈H→∃ n els fam,b=Blk.row n els false true fam:=fun b hb=>by
 obtain ⟨j,hj⟩:=List.getElem?_of_mem hb
 obtain ⟨n,els,rfl⟩:=h j b hj
 exact ⟨n,els,j,rfl⟩
end Ago
set_option maxRecDepth 100000
set_option maxHeartbeats 4000000
namespace Ago
open Go (IntKind)
def cnt (r:Nat) (n:Int):Blk:=.row 1 [.int .i64 n] false true r
end Ago
set_option maxRecDepth 100000
set_option maxHeartbeats 4000000
namespace Ago
open Go (IntKind)
end Ago
set_option maxRecDepth 100000
set_option maxHeartbeats 4000000
namespace Ago
open Go (IntKind)
attribute [go_sem] List.length_map encB_len
end Ago
set_option maxRecDepth 100000
set_option maxHeartbeats 4000000
namespace Ago
open Go (IntKind)
def cutV:Nat→V→V
 | 0,v=>.mk v.s [] []
 | n+1,v=>.mk v.s (v.l.map (cutV n)) (v.f.map fun x=>(x.1,cutV n x.2))
end Ago
set_option maxRecDepth 100000
set_option maxHeartbeats 4000000
namespace Ago
open Go (IntKind)
attribute [go_sem] List.length_map encB_len
end Ago
set_option maxRecDepth 100000
set_option maxHeartbeats 4000000
namespace Ago
open Go (IntKind)
theorem sameRefl_run : ∀ (n:Nat) (v:V),v.bulk≤n→n≤2^24→PRun C0 29 [encV v,encV v] (.bool true):=by
 intro n
 induction n with
 | zero=>
  intro v hv
  have:1≤v.bulk:=bulk_one _
  omega
 | succ n ih=>
  intro v hv hn
  have L:=V.lens (v:=v) (N:=2^24) (by omega)
  have hb:=omap_encB v.s.bytes
  refine prun_of ac29 rfl ?_
  rw[encV_eq v]
  (repeat' first|simp (disch:=omega) only[go_sem,ac29,enter,hb,bne_self_eq_false]|(apply spl<;>intro h<;>try simp (disch:=omega) only[go_sem,ac29,enter,hb,bne_self_eq_false,h]))
  refine loop_of (α:=Nat) (fun k=>{ tmps:=slots 122 [(2,.ptr 13 0 0 0),(3,.ptr 13 1 0 0),(5,.int .i64 k)],heap:=[.row 13 [encV v] false true 0,.row 13 [encV v] false true 1],base:=0 }) (fun k=>k≤v.l.length) (fun k=>v.l.length-k) 0 (by rw[encV_eq]; rfl) (Nat.zero_le _) ?_
  rintro k hk1
  rw[encV_eq v]
  have hll:=L.list
  have hlf:=L.fields
  by_cases hlt:k<v.l.length
  ·obtain ⟨x,hx⟩:=get_some hlt
   have hx2:=map_get (g:=encV) hx
   have hr:=ih x (by have:=L.kids x (List.mem_of_getElem? hx); omega) (by omega)
   rw[encV_eq x] at hx2 hr
   (repeat' first|simp (disch:=omega) only[go_sem,hx2]|refine pure_of _ (hr) ?_|(apply spl<;>intro h<;>try simp (disch:=omega) only[go_sem,hx2 ,h]))
   exact ⟨k+1,rfl,hlt,by omega⟩
  ·(repeat' first|simp (disch:=omega) only[go_sem]|(apply spl<;>intro h<;>try simp (disch:=omega) only[go_sem,h]))
   refine loop_of (α:=Nat) (fun k=>{ tmps:=slots 122 [(2,.ptr 13 0 0 0),(3,.ptr 13 1 0 0),(6,.int .i64 k)],heap:=[.row 13 [encV v] false true 0,.row 13 [encV v] false true 1],base:=0 }) (fun k=>k≤v.f.length) (fun k=>v.f.length-k) 0 (by rw[encV_eq]; rfl) (Nat.zero_le _) ?_
   clear hk1 hlt
   rintro k hk1
   rw[encV_eq v]
   by_cases hlt:k<v.f.length
   ·obtain ⟨x,hx⟩:=get_some hlt
    have hx2:=map_get (g:=encFd) hx
    have hr:=ih x.2 (by have:=(L.fkids x (List.mem_of_getElem? hx)).1; omega) (by omega)
    rw[encFd_eq x] at hx2
    rw[encV_eq] at hr
    have hkk:(x.1 == x.1)=true:=by simp
    (repeat' first|simp (disch:=omega) only[go_sem,hx2,hkk,bne_self_eq_false]|refine pure_of _ (hr) ?_|(apply spl<;>intro h<;>try simp (disch:=omega) only[go_sem,hx2,hkk,bne_self_eq_false ,h]))
    exact ⟨k+1,rfl,hlt,by omega⟩
   ·(repeat' first|simp (disch:=omega) only[go_sem]|(apply spl<;>intro h<;>try simp (disch:=omega) only[go_sem,h]))
end Ago
