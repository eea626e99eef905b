/- value.Copy: the same value. -/
import Derived.Test.YtjeahlpkonkjiaaGreatDoorRunE
import Derived.Test.YtjeahlpkonkjiaaGreatDoorMachE
import Derived.Test.YtjeahlpkonkjiaaGreatDoorRunA
import Derived.Test.YtjeahlpkonkjiaaGreatDoorRunX
set_option linter.unusedSimpArgs false
set_option linter.unusedVariables false
set_option maxRecDepth 100000
set_option maxHeartbeats 4000000
namespace Ago
open Go (IntKind)
attribute [go_sem] Ka q0q
end Ago
set_option maxRecDepth 100000
set_option maxHeartbeats 4000000
namespace Ago
open Go (IntKind)
def qdr:Nat→V→V
 | 0,v=>.mk v.s [] []
 | n+1,v=>.mk v.s (v.l.map (qdr n)) (v.f.map fun x=>(x.1,qdr n x.2))
def qaQ (n:Nat) (v:V):AV:=q0u (qdr n v)
def qjw (n:Nat) (x:List UInt8 × V):AV:=q0C (x.1,qdr n x.2)
theorem qp6 (v:V):q0u (qdr 0 v) = .agg [.int .i64 v.s.kind,.bool v.s.bool,.bool v.s.num.neg,.str v.s.num.digits,.int .i64 v.s.num.exp,.int .i64 v.s.time.kind,.int .i64 v.s.time.day,.int .i64 v.s.time.nano,.int .i64 v.s.time.off,.str v.s.text,.tsl 1 (q3f v.s.bytes),.tsl 13 [],.tsl 14 []]:=by
 rw[q0a]
 rfl
theorem qgW (n:Nat) (v:V):q0u (qdr (n+1) v) = .agg [.int .i64 v.s.kind,.bool v.s.bool,.bool v.s.num.neg,.str v.s.num.digits,.int .i64 v.s.num.exp,.int .i64 v.s.time.kind,.int .i64 v.s.time.day,.int .i64 v.s.time.nano,.int .i64 v.s.time.off,.str v.s.text,.tsl 1 (q3f v.s.bytes),.tsl 13 (v.l.map (qaQ n)),.tsl 14 (v.f.map (qjw n))]:=by
 rw[q0a]
 simp only[qdr,V.s,V.l,V.f,VD]
 rfl
theorem q9U (n:Nat) (v:V):qaQ n v = .agg [.int .i64 v.s.kind,.bool v.s.bool,.bool v.s.num.neg,.str v.s.num.digits,.int .i64 v.s.num.exp,.int .i64 v.s.time.kind,.int .i64 v.s.time.day,.int .i64 v.s.time.nano,.int .i64 v.s.time.off,.str v.s.text,.tsl 1 (q3f v.s.bytes),.tsl 13 ((qdr n v).l.map q0u),.tsl 14 ((qdr n v).f.map q0C)]:=by
 unfold qaQ
 rw[q0a]
 cases n<;>rfl
theorem qm3 (n:Nat) (x:List UInt8 × V):qjw n x = .agg [.str x.1,.int .i64 x.2.s.kind,.bool x.2.s.bool,.bool x.2.s.num.neg,.str x.2.s.num.digits,.int .i64 x.2.s.num.exp,.int .i64 x.2.s.time.kind,.int .i64 x.2.s.time.day,.int .i64 x.2.s.time.nano,.int .i64 x.2.s.time.off,.str x.2.s.text,.tsl 1 (q3f x.2.s.bytes),.tsl 13 ((qdr n x.2).l.map q0u),.tsl 14 ((qdr n x.2).f.map q0C)]:=by
 unfold qjw
 rw[q0S]
 cases n<;>rfl
theorem qsL : ∀ (n:Nat) (v:V),v.bulk≤2^24→∀ (left:Int),left=n→left<2^30→q0e C0 45 [q0u v,.int .i64 left] (q0u (qdr n v)):=by
 intro n
 induction n with
 | zero=>
  intro v hv left hl1 hl2
  have L:=V.lens hv
  have hcl:=qqz (code:=code) (clR:=clR) (clP:=clP) (f:=62) rfl (q3f v.s.bytes) (by have:=L.bytes; rw[q0q]; unfold lim; omega) (by have:=L.bytes; rw[q0q]; omega)
  refine q04 qt9 rfl ?_
  rw[qp6,q0a]
  simp (disch:=omega) only[go_sem,qt9,enter]
  refine q00 _ hcl ?_
  (repeat' first|simp (disch:=omega) only[go_sem]|(apply spl<;>intro h<;>try simp (disch:=omega) only[go_sem,h]))
  all_goals first | omega | rfl | skip
 | succ n ih=>
  intro v hv left hl1 hl2
  have L:=V.lens hv
  have hcl:=qqz (code:=code) (clR:=clR) (clP:=clP) (f:=62) rfl (q3f v.s.bytes) (by have:=L.bytes; rw[q0q]; unfold lim; omega) (by have:=L.bytes; rw[q0q]; omega)
  refine q04 qt9 rfl ?_
  rw[qgW,q0a]
  have hle:=q0a v
  simp (disch:=omega) only[go_sem,qt9,enter]
  refine q00 _ hcl ?_
  (repeat' first|simp (disch:=omega) only[go_sem]|(apply spl<;>intro h<;>try simp (disch:=omega) only[go_sem,h]))
  all_goals try omega
  refine q06 (α:=Nat × List AV) (fun a=>{ tmps:=q0h 59 [(1,.int .i64 left),(2,.ptr 13 0 0 0),(4,.ptr 13 1 0 0),(5,q0K 13 2 a.2),(21,.tsl 13 (v.l.map q0u)),(22,.int .i64 v.l.length),(23,.int .i64 a.1)],heap:=[.row 13 [q0u v] false true 0,.row 13 [q3v] false true 1]++q0J 13 2 a.2,base:=0 }) (fun a=>a.1≤v.l.length∧a.2=(v.l.take a.1).map (qaQ n)) (fun a=>v.l.length-a.1) (0,[]) (by rw[q0a]; rfl) (by simp) ?_
  rintro ⟨k,els⟩ ⟨hk1,hels⟩
  simp only at hk1 hels
  rw[q0a]
  by_cases hlt:k<v.l.length
  ·obtain ⟨x,hx⟩:=q05 hlt
   have hxm:=Kc hx
   have hx2:=q09 (g:=q0u) hx
   have hr:=ih x (by have:=L.kids x hxm; omega) (left-1) (by omega) (by omega)
   have hnew:els++[qaQ n x]=(v.l.take (k+1)).map (qaQ n):=by rw[hels,KB,hx]; simp
   have hr2:q0e C0 45 [q0u x,.int .i64 (left-1)] (qaQ n x):=hr
   rw[q9U] at hnew
   rw[q0a,q9U] at hr2
   rw[q0a] at hx2
   have hlen:els.length=k:=by rw[hels]; simp; omega
   have hll:=L.list
   cases els with
   | nil=>
    (repeat' first|simp (disch:=omega) only[go_sem,hx2,Ka,q0K,q0J,q3v]|refine q00 _ (hr2) ?_|(apply spl<;>intro h<;>try simp (disch:=omega) only[go_sem,hx2,Ka,q0K,q0J,q3v ,h]))
    refine ⟨(k+1,(v.l.take (k+1)).map (qaQ n)),?_,⟨hlt,rfl⟩,by simp only; omega⟩
    simp only[←hnew,hle]
    rfl
   | cons y els=>
    simp only[Kb] at hlen
    (repeat' first|simp (disch:=omega) only[go_sem,hx2,Ka,q0K,q0J,q3v]|refine q00 _ (hr2) ?_|(apply spl<;>intro h<;>try simp (disch:=omega) only[go_sem,hx2,Ka,q0K,q0J,q3v ,h]))
    refine ⟨(k+1,(v.l.take (k+1)).map (qaQ n)),?_,⟨hlt,rfl⟩,by simp only; omega⟩
    simp only[←hnew,hle,Ko,q0K,q0J,Kh,Kb,Kd]
    rfl
  ·rw[q0M hlt hk1] at hels
   cases els with
   | nil=>
    (repeat' first|simp (disch:=omega) only[go_sem,q0K,q0J,q3v]|(apply spl<;>intro h<;>try simp (disch:=omega) only[go_sem,q0K,q0J,q3v,h]))
    refine q06 (α:=Nat × List AV) (fun a=>{ tmps:=q0h 59 [(1,.int .i64 left),(2,.ptr 13 0 0 0),(4,.ptr 13 1 0 0),(5,.snil 13),(8,q0K 14 2 a.2),(36,.tsl 14 (v.f.map q0C)),(37,.int .i64 v.f.length),(38,.int .i64 a.1)],heap:=[.row 13 [q0u v] false true 0,.row 13 [q3v] false true 1]++q0J 14 2 a.2,base:=0 }) (fun a=>a.1≤v.f.length∧a.2=(v.f.take a.1).map (qjw n)) (fun a=>v.f.length-a.1) (0,[]) (by rw[q0a]; rfl) (by simp) ?_
    clear hk1 hlt
    rintro ⟨k,fs⟩ ⟨hk1,hels2⟩
    simp only at hk1 hels2
    rw[q0a]
    by_cases hlt:k<v.f.length
    ·obtain ⟨x,hx⟩:=q05 hlt
     have hxm:=Kc hx
     have hx2:=q09 (g:=q0C) hx
     have hr:=ih x.2 (by have:=(L.fkids x hxm).1; omega) (left-1) (by omega) (by omega)
     have hnew:fs++[qjw n x]=(v.f.take (k+1)).map (qjw n):=by rw[hels2,KB,hx]; simp
     rw[qm3] at hnew
     rw[q0S] at hx2
     have hr2:q0e C0 45 [q0u x.2,.int .i64 (left-1)] (qaQ n x.2):=hr
     rw[q0a,q9U] at hr2
     have hlen:fs.length=k:=by rw[hels2]; simp; omega
     have hll:=L.fields
     cases fs with
     | nil=>
      (repeat' first|simp (disch:=omega) only[go_sem,hx2,q0K,q0J,q3v]|refine q00 _ (hr2) ?_|(apply spl<;>intro h<;>try simp (disch:=omega) only[go_sem,hx2,q0K,q0J,q3v ,h]))
      refine ⟨(k+1,(v.f.take (k+1)).map (qjw n)),?_,⟨hlt,rfl⟩,by simp only; omega⟩
      simp only[←hnew,hle]
      rfl
     | cons z fs=>
      simp only[Kb] at hlen
      (repeat' first|simp (disch:=omega) only[go_sem,hx2,q0K,q0J,q3v]|refine q00 _ (hr2) ?_|(apply spl<;>intro h<;>try simp (disch:=omega) only[go_sem,hx2,q0K,q0J,q3v ,h]))
      refine ⟨(k+1,(v.f.take (k+1)).map (qjw n)),?_,⟨hlt,rfl⟩,by simp only; omega⟩
      simp only[←hnew,hle,Ko,q0K,q0J,Kh,Kb,Kd]
      rfl
    ·rw[q0M hlt hk1] at hels2
     rw[←hels,←hels2]
     cases fs with
     | nil=>(repeat' first|simp (disch:=omega) only[go_sem,q0K,q0J,q3v,Kx]|(apply spl<;>intro h<;>try simp (disch:=omega) only[go_sem,q0K,q0J,q3v,Kx,h]))
     | cons z fs=>(repeat' first|simp (disch:=omega) only[go_sem,q0K,q0J,q3v,Kx]|(apply spl<;>intro h<;>try simp (disch:=omega) only[go_sem,q0K,q0J,q3v,Kx,h]))
   | cons y els=>
    (repeat' first|simp (disch:=omega) only[go_sem,q0K,q0J,q3v]|(apply spl<;>intro h<;>try simp (disch:=omega) only[go_sem,q0K,q0J,q3v,h]))
    refine q06 (α:=Nat × List AV) (fun a=>{ tmps:=q0h 59 [(1,.int .i64 left),(2,.ptr 13 0 0 0),(4,.ptr 13 1 0 0),(5,.sref 13 2 0 (els.length+1)),(8,q0K 14 3 a.2),(36,.tsl 14 (v.f.map q0C)),(37,.int .i64 v.f.length),(38,.int .i64 a.1)],heap:=[.row 13 [q0u v] false true 0,.row 13 [q3v] false true 1,.row 13 (y::els) false true 2]++q0J 14 3 a.2,base:=0 }) (fun a=>a.1≤v.f.length∧a.2=(v.f.take a.1).map (qjw n)) (fun a=>v.f.length-a.1) (0,[]) (by rw[q0a]; rfl) (by simp) ?_
    clear hk1 hlt
    rintro ⟨k,fs⟩ ⟨hk1,hels2⟩
    simp only at hk1 hels2
    rw[q0a]
    by_cases hlt:k<v.f.length
    ·obtain ⟨x,hx⟩:=q05 hlt
     have hxm:=Kc hx
     have hx2:=q09 (g:=q0C) hx
     have hr:=ih x.2 (by have:=(L.fkids x hxm).1; omega) (left-1) (by omega) (by omega)
     have hnew:fs++[qjw n x]=(v.f.take (k+1)).map (qjw n):=by rw[hels2,KB,hx]; simp
     rw[qm3] at hnew
     rw[q0S] at hx2
     have hr2:q0e C0 45 [q0u x.2,.int .i64 (left-1)] (qaQ n x.2):=hr
     rw[q0a,q9U] at hr2
     have hlen:fs.length=k:=by rw[hels2]; simp; omega
     have hll:=L.fields
     cases fs with
     | nil=>
      (repeat' first|simp (disch:=omega) only[go_sem,hx2,q0K,q0J,q3v]|refine q00 _ (hr2) ?_|(apply spl<;>intro h<;>try simp (disch:=omega) only[go_sem,hx2,q0K,q0J,q3v ,h]))
      refine ⟨(k+1,(v.f.take (k+1)).map (qjw n)),?_,⟨hlt,rfl⟩,by simp only; omega⟩
      simp only[←hnew,hle]
      rfl
     | cons z fs=>
      simp only[Kb] at hlen
      (repeat' first|simp (disch:=omega) only[go_sem,hx2,q0K,q0J,q3v]|refine q00 _ (hr2) ?_|(apply spl<;>intro h<;>try simp (disch:=omega) only[go_sem,hx2,q0K,q0J,q3v ,h]))
      refine ⟨(k+1,(v.f.take (k+1)).map (qjw n)),?_,⟨hlt,rfl⟩,by simp only; omega⟩
      simp only[←hnew,hle,Ko,q0K,q0J,Kh,Kb,Kd]
      rfl
    ·rw[q0M hlt hk1] at hels2
     rw[←hels,←hels2]
     cases fs with
     | nil=>(repeat' first|simp (disch:=omega) only[go_sem,q0K,q0J,q3v,Kx]|(apply spl<;>intro h<;>try simp (disch:=omega) only[go_sem,q0K,q0J,q3v,Kx,h]))
     | cons z fs=>(repeat' first|simp (disch:=omega) only[go_sem,q0K,q0J,q3v,Kx]|(apply spl<;>intro h<;>try simp (disch:=omega) only[go_sem,q0K,q0J,q3v,Kx,h]))
theorem qgv (v:V) (hv:v.bulk≤2^24):q0e C0 26 [q0u v] (q0u (qdr 65536 v)):=by
 have hr:=qsL 65536 v hv 65536 rfl (by omega)
 have e : ∃ l f,q0u (qdr 65536 v) = .agg [.int .i64 v.s.kind,.bool v.s.bool,.bool v.s.num.neg,.str v.s.num.digits,.int .i64 v.s.num.exp,.int .i64 v.s.time.kind,.int .i64 v.s.time.day,.int .i64 v.s.time.nano,.int .i64 v.s.time.off,.str v.s.text,.tsl 1 (q3f v.s.bytes),.tsl 13 l,.tsl 14 f]:=⟨_,_,qgW 65535 v⟩
 obtain ⟨l,f,e⟩:=e
 rw[e] at hr ⊢
 refine q04 qum rfl ?_
 rw[q0a] at hr ⊢
 (repeat' first|simp (disch:=omega) only[go_sem,qum,enter]|refine q00 _ (hr) ?_|(apply spl<;>intro h<;>try simp (disch:=omega) only[go_sem,qum,enter ,h]))
end Ago
set_option maxRecDepth 100000
set_option maxHeartbeats 4000000
namespace Ago
open Go (IntKind)
theorem qf4 : ∀ (n:Nat) (v:V),v.bulk≤n→n≤2^24→q0e C0 29 [q0u v,q0u v] (.bool true):=by
 intro n
 induction n with
 | zero=>
  intro v hv
  have:1≤v.bulk:=q1r _
  omega
 | succ n ih=>
  intro v hv hn
  have L:=V.lens (v:=v) (N:=2^24) (by omega)
  have hb:=q4K v.s.bytes
  refine q04 qvn rfl ?_
  rw[q0a v]
  (repeat' first|simp (disch:=omega) only[go_sem,qvn,enter,hb,bne_self_eq_false]|(apply spl<;>intro h<;>try simp (disch:=omega) only[go_sem,qvn,enter,hb,bne_self_eq_false,h]))
  refine q06 (α:=Nat) (fun k=>{ tmps:=q0h 122 [(2,.ptr 13 0 0 0),(3,.ptr 13 1 0 0),(5,.int .i64 k)],heap:=[.row 13 [q0u v] false true 0,.row 13 [q0u v] false true 1],base:=0 }) (fun k=>k≤v.l.length) (fun k=>v.l.length-k) 0 (by rw[q0a]; rfl) (Km _) ?_
  rintro k hk1
  rw[q0a v]
  have hll:=L.list
  have hlf:=L.fields
  by_cases hlt:k<v.l.length
  ·obtain ⟨x,hx⟩:=q05 hlt
   have hx2:=q09 (g:=q0u) hx
   have hr:=ih x (by have:=L.kids x (Kc hx); omega) (by omega)
   rw[q0a x] at hx2 hr
   (repeat' first|simp (disch:=omega) only[go_sem,hx2]|refine q00 _ (hr) ?_|(apply spl<;>intro h<;>try simp (disch:=omega) only[go_sem,hx2 ,h]))
   exact ⟨k+1,rfl,hlt,by omega⟩
  ·(repeat' first|simp (disch:=omega) only[go_sem]|(apply spl<;>intro h<;>try simp (disch:=omega) only[go_sem,h]))
   refine q06 (α:=Nat) (fun k=>{ tmps:=q0h 122 [(2,.ptr 13 0 0 0),(3,.ptr 13 1 0 0),(6,.int .i64 k)],heap:=[.row 13 [q0u v] false true 0,.row 13 [q0u v] false true 1],base:=0 }) (fun k=>k≤v.f.length) (fun k=>v.f.length-k) 0 (by rw[q0a]; rfl) (Km _) ?_
   clear hk1 hlt
   rintro k hk1
   rw[q0a v]
   by_cases hlt:k<v.f.length
   ·obtain ⟨x,hx⟩:=q05 hlt
    have hx2:=q09 (g:=q0C) hx
    have hr:=ih x.2 (by have:=(L.fkids x (Kc hx)).1; omega) (by omega)
    rw[q0S x] at hx2
    rw[q0a] at hr
    have hkk:(x.1 == x.1)=true:=by simp
    (repeat' first|simp (disch:=omega) only[go_sem,hx2,hkk,bne_self_eq_false]|refine q00 _ (hr) ?_|(apply spl<;>intro h<;>try simp (disch:=omega) only[go_sem,hx2,hkk,bne_self_eq_false ,h]))
    exact ⟨k+1,rfl,hlt,by omega⟩
   ·(repeat' first|simp (disch:=omega) only[go_sem]|(apply spl<;>intro h<;>try simp (disch:=omega) only[go_sem,h]))
end Ago
set_option maxRecDepth 100000
set_option maxHeartbeats 4000000
namespace Ago
open Go (IntKind)
end Ago
set_option maxRecDepth 100000
set_option maxHeartbeats 4000000
namespace Ago
open Go (IntKind)
end Ago
set_option maxRecDepth 100000
set_option maxHeartbeats 4000000
namespace Ago
open Go (IntKind)

end Ago
set_option maxRecDepth 100000
set_option maxHeartbeats 4000000
namespace Ago
open Go (IntKind)
end Ago
