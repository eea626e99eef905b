/- value.Copy: the same value. -/
import Derived.Test.YtahoajoopdphhaaGreatDoorRunE
import Derived.Test.YtahoajoopdphhaaGreatDoorMachE
import Derived.Test.YtahoajoopdphhaaGreatDoorRunA
import Derived.Test.YtahoajoopdphhaaGreatDoorRunX
set_option linter.unusedSimpArgs false
set_option linter.unusedVariables false
set_option maxRecDepth 100000
set_option maxHeartbeats 4000000
namespace Ago
open Go (IntKind)
attribute [go_sem] Ka q0o
end Ago
set_option maxRecDepth 100000
set_option maxHeartbeats 4000000
namespace Ago
open Go (IntKind)
def qbU:Nat→V→V
 | 0,v=>.mk v.s [] []
 | n+1,v=>.mk v.s (v.l.map (qbU n)) (v.f.map fun x=>(x.1,qbU n x.2))
def qbd (n:Nat) (v:V):AV:=q0g (qbU n v)
def qi6 (n:Nat) (x:List UInt8 × V):AV:=q0J (x.1,qbU n x.2)
theorem qod (v:V):q0g (qbU 0 v) = .agg [.int .i64 v.s.kind,.bool v.s.bool,.bool v.s.num.neg,.str v.s.num.digits,.int .i64 v.s.num.exp,.int .i64 v.s.time.kind,.int .i64 v.s.time.day,.int .i64 v.s.time.nano,.int .i64 v.s.time.off,.str v.s.text,.tsl 1 (q4O v.s.bytes),.tsl 13 [],.tsl 14 []]:=by
 rw[q07]
 rfl
theorem qgS (n:Nat) (v:V):q0g (qbU (n+1) v) = .agg [.int .i64 v.s.kind,.bool v.s.bool,.bool v.s.num.neg,.str v.s.num.digits,.int .i64 v.s.num.exp,.int .i64 v.s.time.kind,.int .i64 v.s.time.day,.int .i64 v.s.time.nano,.int .i64 v.s.time.off,.str v.s.text,.tsl 1 (q4O v.s.bytes),.tsl 13 (v.l.map (qbd n)),.tsl 14 (v.f.map (qi6 n))]:=by
 rw[q07]
 simp only[qbU,V.s,V.l,V.f,Vn]
 rfl
theorem q9M (n:Nat) (v:V):qbd n v = .agg [.int .i64 v.s.kind,.bool v.s.bool,.bool v.s.num.neg,.str v.s.num.digits,.int .i64 v.s.num.exp,.int .i64 v.s.time.kind,.int .i64 v.s.time.day,.int .i64 v.s.time.nano,.int .i64 v.s.time.off,.str v.s.text,.tsl 1 (q4O v.s.bytes),.tsl 13 ((qbU n v).l.map q0g),.tsl 14 ((qbU n v).f.map q0J)]:=by
 unfold qbd
 rw[q07]
 cases n<;>rfl
theorem qjp (n:Nat) (x:List UInt8 × V):qi6 n x = .agg [.str x.1,.int .i64 x.2.s.kind,.bool x.2.s.bool,.bool x.2.s.num.neg,.str x.2.s.num.digits,.int .i64 x.2.s.num.exp,.int .i64 x.2.s.time.kind,.int .i64 x.2.s.time.day,.int .i64 x.2.s.time.nano,.int .i64 x.2.s.time.off,.str x.2.s.text,.tsl 1 (q4O x.2.s.bytes),.tsl 13 ((qbU n x.2).l.map q0g),.tsl 14 ((qbU n x.2).f.map q0J)]:=by
 unfold qi6
 rw[q17]
 cases n<;>rfl
theorem qlA : ∀ (n:Nat) (v:V),v.bulk≤2^24→∀ (left:Int),left=n→left<2^30→q0m C0 45 [q0g v,.int .i64 left] (q0g (qbU n v)):=by
 intro n
 induction n with
 | zero=>
  intro v hv left hl1 hl2
  have L:=V.lens hv
  have hcl:=qoX (code:=code) (clR:=clR) (clP:=clP) (f:=62) rfl (q4O v.s.bytes) (by have:=L.bytes; rw[q0o]; unfold lim; omega) (by have:=L.bytes; rw[q0o]; omega)
  refine q05 qrA rfl ?_
  rw[qod,q07]
  simp (disch:=omega) only[go_sem,qrA,enter]
  refine q00 _ hcl ?_
  (repeat' first|simp (disch:=omega) only[go_sem]|(apply spl<;>intro h<;>try simp (disch:=omega) only[go_sem,h]))
  all_goals first | omega | rfl | skip
 | succ n ih=>
  intro v hv left hl1 hl2
  have L:=V.lens hv
  have hcl:=qoX (code:=code) (clR:=clR) (clP:=clP) (f:=62) rfl (q4O v.s.bytes) (by have:=L.bytes; rw[q0o]; unfold lim; omega) (by have:=L.bytes; rw[q0o]; omega)
  refine q05 qrA rfl ?_
  rw[qgS,q07]
  have hle:=q07 v
  simp (disch:=omega) only[go_sem,qrA,enter]
  refine q00 _ hcl ?_
  (repeat' first|simp (disch:=omega) only[go_sem]|(apply spl<;>intro h<;>try simp (disch:=omega) only[go_sem,h]))
  all_goals try omega
  refine q0a (α:=Nat × List AV) (fun a=>{ tmps:=q0i 59 [(1,.int .i64 left),(2,.ptr 13 0 0 0),(4,.ptr 13 1 0 0),(5,q0B 13 2 a.2),(21,.tsl 13 (v.l.map q0g)),(22,.int .i64 v.l.length),(23,.int .i64 a.1)],heap:=[.row 13 [q0g v] false true 0,.row 13 [q3B] false true 1]++q0z 13 2 a.2,base:=0 }) (fun a=>a.1≤v.l.length∧a.2=(v.l.take a.1).map (qbd n)) (fun a=>v.l.length-a.1) (0,[]) (by rw[q07]; rfl) (by simp) ?_
  rintro ⟨k,els⟩ ⟨hk1,hels⟩
  simp only at hk1 hels
  rw[q07]
  by_cases hlt:k<v.l.length
  ·obtain ⟨x,hx⟩:=q08 hlt
   have hxm:=Kc hx
   have hx2:=q0d (g:=q0g) hx
   have hr:=ih x (by have:=L.kids x hxm; omega) (left-1) (by omega) (by omega)
   have hnew:els++[qbd n x]=(v.l.take (k+1)).map (qbd n):=by rw[hels,KD,hx]; simp
   have hr2:q0m C0 45 [q0g x,.int .i64 (left-1)] (qbd n x):=hr
   rw[q9M] at hnew
   rw[q07,q9M] at hr2
   rw[q07] at hx2
   have hlen:els.length=k:=by rw[hels]; simp; omega
   have hll:=L.list
   cases els with
   | nil=>
    (repeat' first|simp (disch:=omega) only[go_sem,hx2,Ka,q0B,q0z,q3B]|refine q00 _ (hr2) ?_|(apply spl<;>intro h<;>try simp (disch:=omega) only[go_sem,hx2,Ka,q0B,q0z,q3B ,h]))
    refine ⟨(k+1,(v.l.take (k+1)).map (qbd n)),?_,⟨hlt,rfl⟩,by simp only; omega⟩
    simp only[←hnew,hle]
    rfl
   | cons y els=>
    simp only[List.length_cons] at hlen
    (repeat' first|simp (disch:=omega) only[go_sem,hx2,Ka,q0B,q0z,q3B]|refine q00 _ (hr2) ?_|(apply spl<;>intro h<;>try simp (disch:=omega) only[go_sem,hx2,Ka,q0B,q0z,q3B ,h]))
    refine ⟨(k+1,(v.l.take (k+1)).map (qbd n)),?_,⟨hlt,rfl⟩,by simp only; omega⟩
    simp only[←hnew,hle,Kf,q0B,q0z,Kb,List.length_cons,List.length_nil]
    rfl
  ·rw[q0M hlt hk1] at hels
   cases els with
   | nil=>
    (repeat' first|simp (disch:=omega) only[go_sem,q0B,q0z,q3B]|(apply spl<;>intro h<;>try simp (disch:=omega) only[go_sem,q0B,q0z,q3B,h]))
    refine q0a (α:=Nat × List AV) (fun a=>{ tmps:=q0i 59 [(1,.int .i64 left),(2,.ptr 13 0 0 0),(4,.ptr 13 1 0 0),(5,.snil 13),(8,q0B 14 2 a.2),(36,.tsl 14 (v.f.map q0J)),(37,.int .i64 v.f.length),(38,.int .i64 a.1)],heap:=[.row 13 [q0g v] false true 0,.row 13 [q3B] false true 1]++q0z 14 2 a.2,base:=0 }) (fun a=>a.1≤v.f.length∧a.2=(v.f.take a.1).map (qi6 n)) (fun a=>v.f.length-a.1) (0,[]) (by rw[q07]; rfl) (by simp) ?_
    clear hk1 hlt
    rintro ⟨k,fs⟩ ⟨hk1,hels2⟩
    simp only at hk1 hels2
    rw[q07]
    by_cases hlt:k<v.f.length
    ·obtain ⟨x,hx⟩:=q08 hlt
     have hxm:=Kc hx
     have hx2:=q0d (g:=q0J) hx
     have hr:=ih x.2 (by have:=(L.fkids x hxm).1; omega) (left-1) (by omega) (by omega)
     have hnew:fs++[qi6 n x]=(v.f.take (k+1)).map (qi6 n):=by rw[hels2,KD,hx]; simp
     rw[qjp] at hnew
     rw[q17] at hx2
     have hr2:q0m C0 45 [q0g x.2,.int .i64 (left-1)] (qbd n x.2):=hr
     rw[q07,q9M] at hr2
     have hlen:fs.length=k:=by rw[hels2]; simp; omega
     have hll:=L.fields
     cases fs with
     | nil=>
      (repeat' first|simp (disch:=omega) only[go_sem,hx2,q0B,q0z,q3B]|refine q00 _ (hr2) ?_|(apply spl<;>intro h<;>try simp (disch:=omega) only[go_sem,hx2,q0B,q0z,q3B ,h]))
      refine ⟨(k+1,(v.f.take (k+1)).map (qi6 n)),?_,⟨hlt,rfl⟩,by simp only; omega⟩
      simp only[←hnew,hle]
      rfl
     | cons z fs=>
      simp only[List.length_cons] at hlen
      (repeat' first|simp (disch:=omega) only[go_sem,hx2,q0B,q0z,q3B]|refine q00 _ (hr2) ?_|(apply spl<;>intro h<;>try simp (disch:=omega) only[go_sem,hx2,q0B,q0z,q3B ,h]))
      refine ⟨(k+1,(v.f.take (k+1)).map (qi6 n)),?_,⟨hlt,rfl⟩,by simp only; omega⟩
      simp only[←hnew,hle,Kf,q0B,q0z,Kb,List.length_cons,List.length_nil]
      rfl
    ·rw[q0M hlt hk1] at hels2
     rw[←hels,←hels2]
     cases fs with
     | nil=>(repeat' first|simp (disch:=omega) only[go_sem,q0B,q0z,q3B,Ky]|(apply spl<;>intro h<;>try simp (disch:=omega) only[go_sem,q0B,q0z,q3B,Ky,h]))
     | cons z fs=>(repeat' first|simp (disch:=omega) only[go_sem,q0B,q0z,q3B,Ky]|(apply spl<;>intro h<;>try simp (disch:=omega) only[go_sem,q0B,q0z,q3B,Ky,h]))
   | cons y els=>
    (repeat' first|simp (disch:=omega) only[go_sem,q0B,q0z,q3B]|(apply spl<;>intro h<;>try simp (disch:=omega) only[go_sem,q0B,q0z,q3B,h]))
    refine q0a (α:=Nat × List AV) (fun a=>{ tmps:=q0i 59 [(1,.int .i64 left),(2,.ptr 13 0 0 0),(4,.ptr 13 1 0 0),(5,.sref 13 2 0 (els.length+1)),(8,q0B 14 3 a.2),(36,.tsl 14 (v.f.map q0J)),(37,.int .i64 v.f.length),(38,.int .i64 a.1)],heap:=[.row 13 [q0g v] false true 0,.row 13 [q3B] false true 1,.row 13 (y::els) false true 2]++q0z 14 3 a.2,base:=0 }) (fun a=>a.1≤v.f.length∧a.2=(v.f.take a.1).map (qi6 n)) (fun a=>v.f.length-a.1) (0,[]) (by rw[q07]; rfl) (by simp) ?_
    clear hk1 hlt
    rintro ⟨k,fs⟩ ⟨hk1,hels2⟩
    simp only at hk1 hels2
    rw[q07]
    by_cases hlt:k<v.f.length
    ·obtain ⟨x,hx⟩:=q08 hlt
     have hxm:=Kc hx
     have hx2:=q0d (g:=q0J) hx
     have hr:=ih x.2 (by have:=(L.fkids x hxm).1; omega) (left-1) (by omega) (by omega)
     have hnew:fs++[qi6 n x]=(v.f.take (k+1)).map (qi6 n):=by rw[hels2,KD,hx]; simp
     rw[qjp] at hnew
     rw[q17] at hx2
     have hr2:q0m C0 45 [q0g x.2,.int .i64 (left-1)] (qbd n x.2):=hr
     rw[q07,q9M] at hr2
     have hlen:fs.length=k:=by rw[hels2]; simp; omega
     have hll:=L.fields
     cases fs with
     | nil=>
      (repeat' first|simp (disch:=omega) only[go_sem,hx2,q0B,q0z,q3B]|refine q00 _ (hr2) ?_|(apply spl<;>intro h<;>try simp (disch:=omega) only[go_sem,hx2,q0B,q0z,q3B ,h]))
      refine ⟨(k+1,(v.f.take (k+1)).map (qi6 n)),?_,⟨hlt,rfl⟩,by simp only; omega⟩
      simp only[←hnew,hle]
      rfl
     | cons z fs=>
      simp only[List.length_cons] at hlen
      (repeat' first|simp (disch:=omega) only[go_sem,hx2,q0B,q0z,q3B]|refine q00 _ (hr2) ?_|(apply spl<;>intro h<;>try simp (disch:=omega) only[go_sem,hx2,q0B,q0z,q3B ,h]))
      refine ⟨(k+1,(v.f.take (k+1)).map (qi6 n)),?_,⟨hlt,rfl⟩,by simp only; omega⟩
      simp only[←hnew,hle,Kf,q0B,q0z,Kb,List.length_cons,List.length_nil]
      rfl
    ·rw[q0M hlt hk1] at hels2
     rw[←hels,←hels2]
     cases fs with
     | nil=>(repeat' first|simp (disch:=omega) only[go_sem,q0B,q0z,q3B,Ky]|(apply spl<;>intro h<;>try simp (disch:=omega) only[go_sem,q0B,q0z,q3B,Ky,h]))
     | cons z fs=>(repeat' first|simp (disch:=omega) only[go_sem,q0B,q0z,q3B,Ky]|(apply spl<;>intro h<;>try simp (disch:=omega) only[go_sem,q0B,q0z,q3B,Ky,h]))
theorem q9Q (v:V) (hv:v.bulk≤2^24):q0m C0 26 [q0g v] (q0g (qbU 65536 v)):=by
 have hr:=qlA 65536 v hv 65536 rfl (by omega)
 have e : ∃ l f,q0g (qbU 65536 v) = .agg [.int .i64 v.s.kind,.bool v.s.bool,.bool v.s.num.neg,.str v.s.num.digits,.int .i64 v.s.num.exp,.int .i64 v.s.time.kind,.int .i64 v.s.time.day,.int .i64 v.s.time.nano,.int .i64 v.s.time.off,.str v.s.text,.tsl 1 (q4O v.s.bytes),.tsl 13 l,.tsl 14 f]:=⟨_,_,qgS 65535 v⟩
 obtain ⟨l,f,e⟩:=e
 rw[e] at hr ⊢
 refine q05 qt7 rfl ?_
 rw[q07] at hr ⊢
 (repeat' first|simp (disch:=omega) only[go_sem,qt7,enter]|refine q00 _ (hr) ?_|(apply spl<;>intro h<;>try simp (disch:=omega) only[go_sem,qt7,enter ,h]))
end Ago
set_option maxRecDepth 100000
set_option maxHeartbeats 4000000
namespace Ago
open Go (IntKind)
theorem qeG : ∀ (n:Nat) (v:V),v.bulk≤n→n≤2^24→q0m C0 29 [q0g v,q0g v] (.bool true):=by
 intro n
 induction n with
 | zero=>
  intro v hv
  have:1≤v.bulk:=q46 _
  omega
 | succ n ih=>
  intro v hv hn
  have L:=V.lens (v:=v) (N:=2^24) (by omega)
  have hb:=qaX v.s.bytes
  refine q05 qtl rfl ?_
  rw[q07 v]
  (repeat' first|simp (disch:=omega) only[go_sem,qtl,enter,hb,bne_self_eq_false]|(apply spl<;>intro h<;>try simp (disch:=omega) only[go_sem,qtl,enter,hb,bne_self_eq_false,h]))
  refine q0a (α:=Nat) (fun k=>{ tmps:=q0i 122 [(2,.ptr 13 0 0 0),(3,.ptr 13 1 0 0),(5,.int .i64 k)],heap:=[.row 13 [q0g v] false true 0,.row 13 [q0g v] false true 1],base:=0 }) (fun k=>k≤v.l.length) (fun k=>v.l.length-k) 0 (by rw[q07]; rfl) (Kn _) ?_
  rintro k hk1
  rw[q07 v]
  have hll:=L.list
  have hlf:=L.fields
  by_cases hlt:k<v.l.length
  ·obtain ⟨x,hx⟩:=q08 hlt
   have hx2:=q0d (g:=q0g) hx
   have hr:=ih x (by have:=L.kids x (Kc hx); omega) (by omega)
   rw[q07 x] at hx2 hr
   (repeat' first|simp (disch:=omega) only[go_sem,hx2]|refine q00 _ (hr) ?_|(apply spl<;>intro h<;>try simp (disch:=omega) only[go_sem,hx2 ,h]))
   exact ⟨k+1,rfl,hlt,by omega⟩
  ·(repeat' first|simp (disch:=omega) only[go_sem]|(apply spl<;>intro h<;>try simp (disch:=omega) only[go_sem,h]))
   refine q0a (α:=Nat) (fun k=>{ tmps:=q0i 122 [(2,.ptr 13 0 0 0),(3,.ptr 13 1 0 0),(6,.int .i64 k)],heap:=[.row 13 [q0g v] false true 0,.row 13 [q0g v] false true 1],base:=0 }) (fun k=>k≤v.f.length) (fun k=>v.f.length-k) 0 (by rw[q07]; rfl) (Kn _) ?_
   clear hk1 hlt
   rintro k hk1
   rw[q07 v]
   by_cases hlt:k<v.f.length
   ·obtain ⟨x,hx⟩:=q08 hlt
    have hx2:=q0d (g:=q0J) hx
    have hr:=ih x.2 (by have:=(L.fkids x (Kc hx)).1; omega) (by omega)
    rw[q17 x] at hx2
    rw[q07] at hr
    have hkk:(x.1 == x.1)=true:=by simp
    (repeat' first|simp (disch:=omega) only[go_sem,hx2,hkk,bne_self_eq_false]|refine q00 _ (hr) ?_|(apply spl<;>intro h<;>try simp (disch:=omega) only[go_sem,hx2,hkk,bne_self_eq_false ,h]))
    exact ⟨k+1,rfl,hlt,by omega⟩
   ·(repeat' first|simp (disch:=omega) only[go_sem]|(apply spl<;>intro h<;>try simp (disch:=omega) only[go_sem,h]))
end Ago
