/- value.Copy: the same value. -/
import Derived.Test.YtjeahlpkonkjiaaGreatDoorORunE
import Derived.Test.YtjeahlpkonkjiaaGreatDoorOMachE
import Derived.Test.YtjeahlpkonkjiaaGreatDoorORunA
import Derived.Test.YtjeahlpkonkjiaaGreatDoorORunX
set_option linter.unusedSimpArgs false
set_option linter.unusedVariables false
set_option maxRecDepth 100000
set_option maxHeartbeats 4000000
namespace Ago
open Go (IntKind)
attribute [go_sem] Ka q0x
end Ago
set_option maxRecDepth 100000
set_option maxHeartbeats 4000000
namespace Ago
open Go (IntKind)
def qc0:Nat→V→V
 | 0,v=>.mk v.s [] []
 | n+1,v=>.mk v.s (v.l.map (qc0 n)) (v.f.map fun x=>(x.1,qc0 n x.2))
def qa0 (n:Nat) (v:V):AV:=q0u (qc0 n v)
def qhY (n:Nat) (x:List UInt8 × V):AV:=q10 (x.1,qc0 n x.2)
theorem qnT (v:V):q0u (qc0 0 v) = .agg [.int .i64 v.s.kind,.bool v.s.bool,.bool v.s.num.neg,.str v.s.num.digits,.int .i64 v.s.num.exp,.int .i64 v.s.time.kind,.int .i64 v.s.time.day,.int .i64 v.s.time.nano,.int .i64 v.s.time.off,.str v.s.text,.tsl 1 (q40 v.s.bytes),.tsl 13 [],.tsl 14 []]:=by
 rw[q08]
 rfl
theorem qg3 (n:Nat) (v:V):q0u (qc0 (n+1) v) = .agg [.int .i64 v.s.kind,.bool v.s.bool,.bool v.s.num.neg,.str v.s.num.digits,.int .i64 v.s.num.exp,.int .i64 v.s.time.kind,.int .i64 v.s.time.day,.int .i64 v.s.time.nano,.int .i64 v.s.time.off,.str v.s.text,.tsl 1 (q40 v.s.bytes),.tsl 13 (v.l.map (qa0 n)),.tsl 14 (v.f.map (qhY n))]:=by
 rw[q08]
 simp only[qc0,V.s,V.l,V.f,Vv]
 rfl
theorem q8G (n:Nat) (v:V):qa0 n v = .agg [.int .i64 v.s.kind,.bool v.s.bool,.bool v.s.num.neg,.str v.s.num.digits,.int .i64 v.s.num.exp,.int .i64 v.s.time.kind,.int .i64 v.s.time.day,.int .i64 v.s.time.nano,.int .i64 v.s.time.off,.str v.s.text,.tsl 1 (q40 v.s.bytes),.tsl 13 ((qc0 n v).l.map q0u),.tsl 14 ((qc0 n v).f.map q10)]:=by
 unfold qa0
 rw[q08]
 cases n<;>rfl
theorem qjC (n:Nat) (x:List UInt8 × V):qhY n x = .agg [.str x.1,.int .i64 x.2.s.kind,.bool x.2.s.bool,.bool x.2.s.num.neg,.str x.2.s.num.digits,.int .i64 x.2.s.num.exp,.int .i64 x.2.s.time.kind,.int .i64 x.2.s.time.day,.int .i64 x.2.s.time.nano,.int .i64 x.2.s.time.off,.str x.2.s.text,.tsl 1 (q40 x.2.s.bytes),.tsl 13 ((qc0 n x.2).l.map q0u),.tsl 14 ((qc0 n x.2).f.map q10)]:=by
 unfold qhY
 rw[q2a]
 cases n<;>rfl
theorem qqB : ∀ (n:Nat) (v:V),v.bulk≤2^24→∀ (left:Int),left=n→left<2^30→q0k C0 45 [q0u v,.int .i64 left] (q0u (qc0 n v)):=by
 intro n
 induction n with
 | zero=>
  intro v hv left hl1 hl2
  have L:=V.lens hv
  have hcl:=qoF (code:=code) (clR:=clR) (clP:=clP) (f:=62) rfl (q40 v.s.bytes) (by have:=L.bytes; rw[q0x]; unfold lim; omega) (by have:=L.bytes; rw[q0x]; omega)
  refine q04 qro rfl ?_
  rw[qnT,q08]
  simp (disch:=omega) only[go_sem,qro,enter]
  refine q00 _ hcl ?_
  (repeat' first|simp (disch:=omega) only[go_sem]|(apply spl<;>intro h<;>try simp (disch:=omega) only[go_sem,h]))
  all_goals first | omega | rfl | skip
 | succ n ih=>
  intro v hv left hl1 hl2
  have L:=V.lens hv
  have hcl:=qoF (code:=code) (clR:=clR) (clP:=clP) (f:=62) rfl (q40 v.s.bytes) (by have:=L.bytes; rw[q0x]; unfold lim; omega) (by have:=L.bytes; rw[q0x]; omega)
  refine q04 qro rfl ?_
  rw[qg3,q08]
  have hle:=q08 v
  simp (disch:=omega) only[go_sem,qro,enter]
  refine q00 _ hcl ?_
  (repeat' first|simp (disch:=omega) only[go_sem]|(apply spl<;>intro h<;>try simp (disch:=omega) only[go_sem,h]))
  all_goals try omega
  refine q07 (α:=Nat × List AV) (fun a=>{ tmps:=q0q 59 [(1,.int .i64 left),(2,.ptr 13 0 0 0),(4,.ptr 13 1 0 0),(5,q1e 13 2 a.2),(21,.tsl 13 (v.l.map q0u)),(22,.int .i64 v.l.length),(23,.int .i64 a.1)],heap:=[.row 13 [q0u v] false true 0,.row 13 [q30] false true 1]++q1d 13 2 a.2,base:=0 }) (fun a=>a.1≤v.l.length∧a.2=(v.l.take a.1).map (qa0 n)) (fun a=>v.l.length-a.1) (0,[]) (by rw[q08]; rfl) (by simp) ?_
  rintro ⟨k,els⟩ ⟨hk1,hels⟩
  simp only at hk1 hels
  rw[q08]
  by_cases hlt:k<v.l.length
  ·obtain ⟨x,hx⟩:=q06 hlt
   have hxm:=Kc hx
   have hx2:=q0c (g:=q0u) hx
   have hr:=ih x (by have:=L.kids x hxm; omega) (left-1) (by omega) (by omega)
   have hnew:els++[qa0 n x]=(v.l.take (k+1)).map (qa0 n):=by rw[hels,KG,hx]; simp
   have hr2:q0k C0 45 [q0u x,.int .i64 (left-1)] (qa0 n x):=hr
   rw[q8G] at hnew
   rw[q08,q8G] at hr2
   rw[q08] at hx2
   have hlen:els.length=k:=by rw[hels]; simp; omega
   have hll:=L.list
   cases els with
   | nil=>
    (repeat' first|simp (disch:=omega) only[go_sem,hx2,Ka,q1e,q1d,q30]|refine q00 _ (hr2) ?_|(apply spl<;>intro h<;>try simp (disch:=omega) only[go_sem,hx2,Ka,q1e,q1d,q30 ,h]))
    refine ⟨(k+1,(v.l.take (k+1)).map (qa0 n)),?_,⟨hlt,rfl⟩,by simp only; omega⟩
    simp only[←hnew,hle]
    rfl
   | cons y els=>
    simp only[Kb] at hlen
    (repeat' first|simp (disch:=omega) only[go_sem,hx2,Ka,q1e,q1d,q30]|refine q00 _ (hr2) ?_|(apply spl<;>intro h<;>try simp (disch:=omega) only[go_sem,hx2,Ka,q1e,q1d,q30 ,h]))
    refine ⟨(k+1,(v.l.take (k+1)).map (qa0 n)),?_,⟨hlt,rfl⟩,by simp only; omega⟩
    simp only[←hnew,hle,Kr,q1e,q1d,Kk,Kb,Kg]
    rfl
  ·rw[q1j hlt hk1] at hels
   cases els with
   | nil=>
    (repeat' first|simp (disch:=omega) only[go_sem,q1e,q1d,q30]|(apply spl<;>intro h<;>try simp (disch:=omega) only[go_sem,q1e,q1d,q30,h]))
    refine q07 (α:=Nat × List AV) (fun a=>{ tmps:=q0q 59 [(1,.int .i64 left),(2,.ptr 13 0 0 0),(4,.ptr 13 1 0 0),(5,.snil 13),(8,q1e 14 2 a.2),(36,.tsl 14 (v.f.map q10)),(37,.int .i64 v.f.length),(38,.int .i64 a.1)],heap:=[.row 13 [q0u v] false true 0,.row 13 [q30] false true 1]++q1d 14 2 a.2,base:=0 }) (fun a=>a.1≤v.f.length∧a.2=(v.f.take a.1).map (qhY n)) (fun a=>v.f.length-a.1) (0,[]) (by rw[q08]; rfl) (by simp) ?_
    clear hk1 hlt
    rintro ⟨k,fs⟩ ⟨hk1,hels2⟩
    simp only at hk1 hels2
    rw[q08]
    by_cases hlt:k<v.f.length
    ·obtain ⟨x,hx⟩:=q06 hlt
     have hxm:=Kc hx
     have hx2:=q0c (g:=q10) hx
     have hr:=ih x.2 (by have:=(L.fkids x hxm).1; omega) (left-1) (by omega) (by omega)
     have hnew:fs++[qhY n x]=(v.f.take (k+1)).map (qhY n):=by rw[hels2,KG,hx]; simp
     rw[qjC] at hnew
     rw[q2a] at hx2
     have hr2:q0k C0 45 [q0u x.2,.int .i64 (left-1)] (qa0 n x.2):=hr
     rw[q08,q8G] at hr2
     have hlen:fs.length=k:=by rw[hels2]; simp; omega
     have hll:=L.fields
     cases fs with
     | nil=>
      (repeat' first|simp (disch:=omega) only[go_sem,hx2,q1e,q1d,q30]|refine q00 _ (hr2) ?_|(apply spl<;>intro h<;>try simp (disch:=omega) only[go_sem,hx2,q1e,q1d,q30 ,h]))
      refine ⟨(k+1,(v.f.take (k+1)).map (qhY n)),?_,⟨hlt,rfl⟩,by simp only; omega⟩
      simp only[←hnew,hle]
      rfl
     | cons z fs=>
      simp only[Kb] at hlen
      (repeat' first|simp (disch:=omega) only[go_sem,hx2,q1e,q1d,q30]|refine q00 _ (hr2) ?_|(apply spl<;>intro h<;>try simp (disch:=omega) only[go_sem,hx2,q1e,q1d,q30 ,h]))
      refine ⟨(k+1,(v.f.take (k+1)).map (qhY n)),?_,⟨hlt,rfl⟩,by simp only; omega⟩
      simp only[←hnew,hle,Kr,q1e,q1d,Kk,Kb,Kg]
      rfl
    ·rw[q1j hlt hk1] at hels2
     rw[←hels,←hels2]
     cases fs with
     | nil=>(repeat' first|simp (disch:=omega) only[go_sem,q1e,q1d,q30,Kz]|(apply spl<;>intro h<;>try simp (disch:=omega) only[go_sem,q1e,q1d,q30,Kz,h]))
     | cons z fs=>(repeat' first|simp (disch:=omega) only[go_sem,q1e,q1d,q30,Kz]|(apply spl<;>intro h<;>try simp (disch:=omega) only[go_sem,q1e,q1d,q30,Kz,h]))
   | cons y els=>
    (repeat' first|simp (disch:=omega) only[go_sem,q1e,q1d,q30]|(apply spl<;>intro h<;>try simp (disch:=omega) only[go_sem,q1e,q1d,q30,h]))
    refine q07 (α:=Nat × List AV) (fun a=>{ tmps:=q0q 59 [(1,.int .i64 left),(2,.ptr 13 0 0 0),(4,.ptr 13 1 0 0),(5,.sref 13 2 0 (els.length+1)),(8,q1e 14 3 a.2),(36,.tsl 14 (v.f.map q10)),(37,.int .i64 v.f.length),(38,.int .i64 a.1)],heap:=[.row 13 [q0u v] false true 0,.row 13 [q30] false true 1,.row 13 (y::els) false true 2]++q1d 14 3 a.2,base:=0 }) (fun a=>a.1≤v.f.length∧a.2=(v.f.take a.1).map (qhY n)) (fun a=>v.f.length-a.1) (0,[]) (by rw[q08]; rfl) (by simp) ?_
    clear hk1 hlt
    rintro ⟨k,fs⟩ ⟨hk1,hels2⟩
    simp only at hk1 hels2
    rw[q08]
    by_cases hlt:k<v.f.length
    ·obtain ⟨x,hx⟩:=q06 hlt
     have hxm:=Kc hx
     have hx2:=q0c (g:=q10) hx
     have hr:=ih x.2 (by have:=(L.fkids x hxm).1; omega) (left-1) (by omega) (by omega)
     have hnew:fs++[qhY n x]=(v.f.take (k+1)).map (qhY n):=by rw[hels2,KG,hx]; simp
     rw[qjC] at hnew
     rw[q2a] at hx2
     have hr2:q0k C0 45 [q0u x.2,.int .i64 (left-1)] (qa0 n x.2):=hr
     rw[q08,q8G] at hr2
     have hlen:fs.length=k:=by rw[hels2]; simp; omega
     have hll:=L.fields
     cases fs with
     | nil=>
      (repeat' first|simp (disch:=omega) only[go_sem,hx2,q1e,q1d,q30]|refine q00 _ (hr2) ?_|(apply spl<;>intro h<;>try simp (disch:=omega) only[go_sem,hx2,q1e,q1d,q30 ,h]))
      refine ⟨(k+1,(v.f.take (k+1)).map (qhY n)),?_,⟨hlt,rfl⟩,by simp only; omega⟩
      simp only[←hnew,hle]
      rfl
     | cons z fs=>
      simp only[Kb] at hlen
      (repeat' first|simp (disch:=omega) only[go_sem,hx2,q1e,q1d,q30]|refine q00 _ (hr2) ?_|(apply spl<;>intro h<;>try simp (disch:=omega) only[go_sem,hx2,q1e,q1d,q30 ,h]))
      refine ⟨(k+1,(v.f.take (k+1)).map (qhY n)),?_,⟨hlt,rfl⟩,by simp only; omega⟩
      simp only[←hnew,hle,Kr,q1e,q1d,Kk,Kb,Kg]
      rfl
    ·rw[q1j hlt hk1] at hels2
     rw[←hels,←hels2]
     cases fs with
     | nil=>(repeat' first|simp (disch:=omega) only[go_sem,q1e,q1d,q30,Kz]|(apply spl<;>intro h<;>try simp (disch:=omega) only[go_sem,q1e,q1d,q30,Kz,h]))
     | cons z fs=>(repeat' first|simp (disch:=omega) only[go_sem,q1e,q1d,q30,Kz]|(apply spl<;>intro h<;>try simp (disch:=omega) only[go_sem,q1e,q1d,q30,Kz,h]))
theorem qev (v:V) (hv:v.bulk≤2^24):q0k C0 26 [q0u v] (q0u (qc0 65536 v)):=by
 have hr:=qqB 65536 v hv 65536 rfl (by omega)
 have e : ∃ l f,q0u (qc0 65536 v) = .agg [.int .i64 v.s.kind,.bool v.s.bool,.bool v.s.num.neg,.str v.s.num.digits,.int .i64 v.s.num.exp,.int .i64 v.s.time.kind,.int .i64 v.s.time.day,.int .i64 v.s.time.nano,.int .i64 v.s.time.off,.str v.s.text,.tsl 1 (q40 v.s.bytes),.tsl 13 l,.tsl 14 f]:=⟨_,_,qg3 65535 v⟩
 obtain ⟨l,f,e⟩:=e
 rw[e] at hr ⊢
 refine q04 qv0 rfl ?_
 rw[q08] at hr ⊢
 (repeat' first|simp (disch:=omega) only[go_sem,qv0,enter]|refine q00 _ (hr) ?_|(apply spl<;>intro h<;>try simp (disch:=omega) only[go_sem,qv0,enter ,h]))
end Ago
set_option maxRecDepth 100000
set_option maxHeartbeats 4000000
namespace Ago
open Go (IntKind)
theorem qdR : ∀ (n:Nat) (v:V),v.bulk≤n→n≤2^24→q0k C0 29 [q0u v,q0u v] (.bool true):=by
 intro n
 induction n with
 | zero=>
  intro v hv
  have:1≤v.bulk:=q1B _
  omega
 | succ n ih=>
  intro v hv hn
  have L:=V.lens (v:=v) (N:=2^24) (by omega)
  have hb:=q6L v.s.bytes
  refine q04 qsk rfl ?_
  rw[q08 v]
  (repeat' first|simp (disch:=omega) only[go_sem,qsk,enter,hb,bne_self_eq_false]|(apply spl<;>intro h<;>try simp (disch:=omega) only[go_sem,qsk,enter,hb,bne_self_eq_false,h]))
  refine q07 (α:=Nat) (fun k=>{ tmps:=q0q 122 [(2,.ptr 13 0 0 0),(3,.ptr 13 1 0 0),(5,.int .i64 k)],heap:=[.row 13 [q0u v] false true 0,.row 13 [q0u v] false true 1],base:=0 }) (fun k=>k≤v.l.length) (fun k=>v.l.length-k) 0 (by rw[q08]; rfl) (Kp _) ?_
  rintro k hk1
  rw[q08 v]
  have hll:=L.list
  have hlf:=L.fields
  by_cases hlt:k<v.l.length
  ·obtain ⟨x,hx⟩:=q06 hlt
   have hx2:=q0c (g:=q0u) hx
   have hr:=ih x (by have:=L.kids x (Kc hx); omega) (by omega)
   rw[q08 x] at hx2 hr
   (repeat' first|simp (disch:=omega) only[go_sem,hx2]|refine q00 _ (hr) ?_|(apply spl<;>intro h<;>try simp (disch:=omega) only[go_sem,hx2 ,h]))
   exact ⟨k+1,rfl,hlt,by omega⟩
  ·(repeat' first|simp (disch:=omega) only[go_sem]|(apply spl<;>intro h<;>try simp (disch:=omega) only[go_sem,h]))
   refine q07 (α:=Nat) (fun k=>{ tmps:=q0q 122 [(2,.ptr 13 0 0 0),(3,.ptr 13 1 0 0),(6,.int .i64 k)],heap:=[.row 13 [q0u v] false true 0,.row 13 [q0u v] false true 1],base:=0 }) (fun k=>k≤v.f.length) (fun k=>v.f.length-k) 0 (by rw[q08]; rfl) (Kp _) ?_
   clear hk1 hlt
   rintro k hk1
   rw[q08 v]
   by_cases hlt:k<v.f.length
   ·obtain ⟨x,hx⟩:=q06 hlt
    have hx2:=q0c (g:=q10) hx
    have hr:=ih x.2 (by have:=(L.fkids x (Kc hx)).1; omega) (by omega)
    rw[q2a x] at hx2
    rw[q08] at hr
    have hkk:(x.1 == x.1)=true:=by simp
    (repeat' first|simp (disch:=omega) only[go_sem,hx2,hkk,bne_self_eq_false]|refine q00 _ (hr) ?_|(apply spl<;>intro h<;>try simp (disch:=omega) only[go_sem,hx2,hkk,bne_self_eq_false ,h]))
    exact ⟨k+1,rfl,hlt,by omega⟩
   ·(repeat' first|simp (disch:=omega) only[go_sem]|(apply spl<;>intro h<;>try simp (disch:=omega) only[go_sem,h]))
end Ago
set_option maxRecDepth 100000
set_option maxHeartbeats 4000000
namespace Ago
open Go (IntKind)
end Ago
set_option maxRecDepth 100000
set_option maxHeartbeats 4000000
namespace Ago
open Go (IntKind)
end Ago
set_option maxRecDepth 100000
set_option maxHeartbeats 4000000
namespace Ago
open Go (IntKind)

end Ago
set_option maxRecDepth 100000
set_option maxHeartbeats 4000000
namespace Ago
open Go (IntKind)
end Ago
