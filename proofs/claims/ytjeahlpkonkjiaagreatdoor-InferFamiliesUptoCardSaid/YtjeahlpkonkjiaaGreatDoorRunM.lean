/- Infer: joins,of the reference. -/
import Derived.Test.YtjeahlpkonkjiaaGreatDoorRunL
set_option linter.unusedSimpArgs false
set_option linter.unusedVariables false
set_option maxRecDepth 100000
set_option maxHeartbeats 4000000
namespace Ago
open Go (IntKind)

theorem qg1 (n:Nat) (hn:n≤2^24) (hb : ∀ x y,Two x y→x.bulk+y.bulk≤n→q0e CI 991 [q03 x,q03 y] (q03 (q3M (q2w n) x y))) (a b:Sch) (ha:FamN a) (hbf:FamN b) (hs:a.bulk+b.bulk≤n+1):q0e CI 978 [q03 a,q03 b] (q03 (q2w (n+1) a b)):=by
 have hab:a.bulk≤2^24:=by have:=q1r (q03 b); have:1≤b.bulk:=this; omega
 have hbb:b.bulk≤2^24:=by have:=q1r (q03 a); have:1≤a.bulk:=this; omega
 have fa:=fun k=>q6C a k hab
 have fb:=fun k=>q6C b k hbb
 rcases ha with rfl | ⟨l,rfl,hlm⟩
 ·rw[q65]
  refine q04 qeQ rfl ?_
  rw[q0T,q01 b] at *
  (repeat' first|simp (disch:=omega) only[go_sem,qeQ,enter])
  all_goals rfl
 rcases hbf with rfl | ⟨m,rfl,hmm⟩
 ·rw[q3D]
  refine q04 qeQ rfl ?_
  rw[q0T,q1P l] at *
  (repeat' first|simp (disch:=omega) only[go_sem,qeQ,enter])
  all_goals rfl
 rw[q7q]
 generalize hR:q03 (q1J ((List.range 8).flatMap fun (k:Nat)=>q3i (q2w n) (kfM (q1J l) (k:Int)) (kfM (q1J m) (k:Int))))=R
 refine q04 qeQ rfl ?_
 simp only[q1P l,q1P m] at fa fb ⊢
 (repeat' first|simp (disch:=omega) only[go_sem,qeQ,enter]|(apply spl<;>intro h<;>try simp (disch:=omega) only[go_sem,h]))
 refine q06 (α:=Nat × List AV) (fun a=>qbd 63 (.tsl 15 (l.map q03)) (.tsl 15 (m.map q03)) a.1 a.2)
  (fun a=>a.1≤8∧a.2=((List.range a.1).flatMap fun (k:Nat)=>q3i (q2w n) (kfM (q1J l) (k:Int)) (kfM (q1J m) (k:Int))).map q03) (fun a=>8-a.1) (0,[]) rfl ⟨Km _,rfl⟩ ?_
 rintro ⟨k,E⟩ ⟨hk,hE⟩
 simp only at hk hE
 have hl8:E.length≤8:=by
  rw[hE,Ka]
  exact KZ (qib _ _ _ _) hk
 by_cases hlt:k<8
 ·have hnew:E++(q3i (q2w n) (kfM (q1J l) (k:Int)) (kfM (q1J m) (k:Int))).map q03=((List.range (k+1)).flatMap fun (k:Nat)=>q3i (q2w n) (kfM (q1J l) (k:Int)) (kfM (q1J m) (k:Int))).map q03:=by
   rw[hE,List.range_succ,List.flatMap_append,V8,List.flatMap_singleton]
  have ga:=fa k
  have gb:=fb k
  cases h1:kfM (q1J l) (k:Int) with
  | none=>
   rw[h1,VU,q1e] at ga
   cases h2:kfM (q1J m) (k:Int) with
   | none=>
    rw[h2,VU,q1e] at gb
    rw[h1,h2] at hnew
    simp only[q3i,Kt,KW] at hnew
    rcases E with _ | ⟨e0,es⟩
    all_goals
     simp only[qbd,q31,q32,Ku,Kq,if_true,Ke,if_false,Ko,Ks]
     (repeat' first|simp (disch:=omega) only[go_sem,Vy,q14]|refine q00 _ (ga) ?_|refine q00 _ (gb) ?_|(apply spl<;>intro h<;>try simp (disch:=omega) only[go_sem,h]))
     refine ⟨(k+1,_),?_,⟨hlt,hnew⟩,by simp only; omega⟩
     simp only[qbd,q31,q32,Ku,Kq,if_true,Ke,if_false,Ko,Ks]
     rfl
   | some y=>
    obtain ⟨hy1,hy2⟩:=q1t h2
    rw[h2,K4] at gb
    rw[h1,h2] at hnew
    simp only[q3i,Kj,Kt] at hnew
    rw[q01 y] at *
    rcases E with _ | ⟨e0,es⟩
    all_goals
     simp only[Kb,Kd] at hl8
     simp only[qbd,q31,q32,Ku,Kq,if_true,Ke,if_false,Ko,Ks]
     (repeat' first|simp (disch:=omega) only[go_sem,Vz,Vy,q14,Kb]|refine q00 _ (ga) ?_|refine q00 _ (gb) ?_|(apply spl<;>intro h<;>try simp (disch:=omega) only[go_sem,h]))
     refine ⟨(k+1,_++[_]),?_,⟨hlt,hnew⟩,by simp only; omega⟩
     simp only[qbd,q31,q32,Ku,Kq,if_true,Ke,if_false,Ko,Ks,Kh,Kb,Kd]
     rfl
  | some x=>
   obtain ⟨hx1,hx2⟩:=q1t h1
   rw[h1,K4] at ga
   cases h2:kfM (q1J m) (k:Int) with
   | none=>
    rw[h2,VU,q1e] at gb
    rw[h1,h2] at hnew
    simp only[q3i,Kj,Kt] at hnew
    rw[q01 x] at *
    rcases E with _ | ⟨e0,es⟩
    all_goals
     simp only[Kb,Kd] at hl8
     simp only[qbd,q31,q32,Ku,Kq,if_true,Ke,if_false,Ko,Ks]
     (repeat' first|simp (disch:=omega) only[go_sem,Vz,Vy,q14,Kb]|refine q00 _ (ga) ?_|refine q00 _ (gb) ?_|(apply spl<;>intro h<;>try simp (disch:=omega) only[go_sem,h]))
     refine ⟨(k+1,_++[_]),?_,⟨hlt,hnew⟩,by simp only; omega⟩
     simp only[qbd,q31,q32,Ku,Kq,if_true,Ke,if_false,Ko,Ks,Kh,Kb,Kd]
     rfl
   | some y=>
    obtain ⟨hy1,hy2⟩:=q1t h2
    rw[h2,K4] at gb
    rw[h1,h2] at hnew
    simp only[q3i,Kj,Kt] at hnew
    have hbo:=hb x y (qfd (hlm x hx1) (hmm y hy1) (hx2.trans hy2.symm)) (by
     have:=q6j hx1
     have:=q6j hy1
     omega)
    rw[q01 x,q01 y,q01 (q3M (q2w n) x y)] at *
    rcases E with _ | ⟨e0,es⟩
    all_goals
     simp only[Kb,Kd] at hl8
     simp only[qbd,q31,q32,Ku,Kq,if_true,Ke,if_false,Ko,Ks]
     (repeat' first|simp (disch:=omega) only[go_sem,Vz,q14,Kb]|refine q00 _ (ga) ?_|refine q00 _ (gb) ?_|refine q00 _ (hbo) ?_|(apply spl<;>intro h<;>try simp (disch:=omega) only[go_sem,h]))
     refine ⟨(k+1,_++[_]),?_,⟨hlt,hnew⟩,by simp only; omega⟩
     simp only[qbd,q31,q32,Ku,Kq,if_true,Ke,if_false,Ko,Ks,Kh,Kb,Kd]
     rfl
 ·obtain rfl:k=8:=by omega
  rw[q1P,←hE] at hR
  rw[←hR]
  rcases E with _ | ⟨e0,es⟩
  all_goals
   simp only[Kb,Kd] at hl8
   simp only[qbd,q31,q32,Ku,Kq,if_true,Ke,if_false,Ko,Ks]
   (repeat' first|simp (disch:=omega) only[go_sem,q14,Kx,Kb])
   all_goals first | rfl | (simp; done)
end Ago
set_option maxRecDepth 100000
set_option maxHeartbeats 4000000
namespace Ago
open Go (IntKind)
def qka (p q:List (PK × Sch)) (i k:Nat) (E:List AV):St:={ tmps:=q0h 129 [(0,.tsl 17 (p.map q0g)),(1,.tsl 17 (q.map q0g)),(5,q31 17 0 E),(6,.int .i64 i),(7,.int .i64 k)],heap:=q32 17 0 E,base:=0 }
theorem qf2 (f:Sch→Sch→Sch) (p q:List (PK × Sch)) (hl:p.length+q.length≤2^25)
  (hj : ∀ x,x∈p→∀ y,y∈q→q0e CI 978 [q03 x.2,q03 y.2] (q03 (f x.2 y.2))):q0e CI 1001 [.tsl 17 (p.map q0g),.tsl 17 (q.map q0g)] (.tsl 17 ((q0Z f p q).map q0g)):=by
 refine q04 qi4 rfl ?_
 (repeat' first|simp (disch:=omega) only[go_sem,qi4,enter]|(apply spl<;>intro h<;>try simp (disch:=omega) only[go_sem,h]))
 refine q06 (α:=Nat × Nat × List AV) (fun a=>qka p q a.1 a.2.1 a.2.2)
  (fun a=>a.1≤p.length∧a.2.1≤q.length∧a.2.2++(q0Z f (p.drop a.1) (q.drop a.2.1)).map q0g=(q0Z f p q).map q0g∧a.2.2.length+(p.length-a.1)+(q.length-a.2.1)≤2^25) (fun a=>(p.length-a.1)+(q.length-a.2.1)) (0,0,[]) rfl ⟨Km _,Km _,rfl,by simpa using hl⟩ ?_
 rintro ⟨i,k,E⟩ ⟨hi,hk,hE,hn⟩
 simp only at hi hk hE hn
 by_cases hip:i<p.length
 ·obtain ⟨x,hx⟩:=q05 hip
  have hx2:=q09 (g:=q0g) hx
  rw[q6n hx] at hE
  rw[q0f] at hx2
  by_cases hkq:k<q.length
  ·obtain ⟨y,hy⟩:=q05 hkq
   have hy2:=q09 (g:=q0g) hy
   rw[q6n hy,q0Z] at hE
   rw[q0f] at hy2
   cases hlt:Go.Op.bytesLess x.1.key y.1.key with
   | true=>
    rw[hlt,if_pos rfl,Kj,VV,←q6n hy] at hE
    rcases E with _ | ⟨e0,es⟩
    all_goals
     simp only[Kb,Kd] at hn
     simp only[qka,q31,q32,Ku,Kq,if_true,Ke,if_false,Kt,Kj,Kb]
     (repeat' first|simp (disch:=omega) only[go_sem,hx2,hy2,Ka,Kb,hlt]|(apply spl<;>intro h<;>try simp (disch:=omega) only[go_sem,h]))
     refine ⟨(_,_,_++[_]),?_,⟨by simp only; omega,by simp only; omega,hE,by simp only[Kh,Kb,Kd]; omega⟩,by simp only[Kb,Kd]; omega⟩
     simp only[qka,q31,q32,Ku,Kq,if_true,Ke,if_false,Kt,Kj,Ko,Ks,Kh,Kb,Kd]
     simp only[q0f]
     rfl
   | false=>
    rw[hlt,if_neg (by simp)] at hE
    cases hgt:Go.Op.bytesLess y.1.key x.1.key with
    | true=>
     rw[hgt,if_pos rfl,Kj,VV,←q6n hx] at hE
     rcases E with _ | ⟨e0,es⟩
     all_goals
      simp only[Kb,Kd] at hn
      simp only[qka,q31,q32,Ku,Kq,if_true,Ke,if_false,Kt,Kj,Kb]
      (repeat' first|simp (disch:=omega) only[go_sem,hx2,hy2,Ka,Kb,hlt,hgt]|(apply spl<;>intro h<;>try simp (disch:=omega) only[go_sem,h]))
      refine ⟨(_,_,_++[_]),?_,⟨by simp only; omega,by simp only; omega,hE,by simp only[Kh,Kb,Kd]; omega⟩,by simp only[Kb,Kd]; omega⟩
      simp only[qka,q31,q32,Ku,Kq,if_true,Ke,if_false,Kt,Kj,Ko,Ks,Kh,Kb,Kd]
      simp only[q0f]
      rfl
    | false=>
     rw[hgt,if_neg (by simp),Kj,VV] at hE
     have hjj:=hj x (Kc hx) y (Kc hy)
     rw[q01 x.2,q01 y.2,q01 (f x.2 y.2)] at hjj
     rcases E with _ | ⟨e0,es⟩
     all_goals
      simp only[Kb,Kd] at hn
      simp only[qka,q31,q32,Ku,Kq,if_true,Ke,if_false,Kt,Kj,Kb]
      cases hr1:x.1.req<;>cases hr2:y.1.req
      all_goals
       rw[hr1,hr2] at hE
       (repeat' first|simp (disch:=omega) only[go_sem,hx2,hy2,Ka,Kb,hlt,hgt,hr1,hr2]|refine q00 _ (hjj) ?_|(apply spl<;>intro h<;>try simp (disch:=omega) only[go_sem,h]))
       refine ⟨(_,_,_++[_]),?_,⟨by simp only; omega,by simp only; omega,hE,by simp only[Kh,Kb,Kd]; omega⟩,by simp only[Kb,Kd]; omega⟩
       simp only[qka,q31,q32,Ku,Kq,if_true,Ke,if_false,Kt,Kj,Ko,Ks,Kh,Kb,Kd]
       simp only[q0f]
       rfl
  ·obtain rfl:k=q.length:=by omega
   rw[VT,q0Z,Kj,VV] at hE
   have hE:=hE
   rw[←VT (l:=q)] at hE
   rcases E with _ | ⟨e0,es⟩
   all_goals
    simp only[Kb,Kd] at hn
    simp only[qka,q31,q32,Ku,Kq,if_true,Ke,if_false,Kt,Kj,Kb]
    (repeat' first|simp (disch:=omega) only[go_sem,hx2,Ka,Kb]|(apply spl<;>intro h<;>try simp (disch:=omega) only[go_sem,h]))
    refine ⟨(_,_,_++[_]),?_,⟨by simp only; omega,by simp only; omega,hE,by simp only[Kh,Kb,Kd]; omega⟩,by simp only[Kb,Kd]; omega⟩
    simp only[qka,q31,q32,Ku,Kq,if_true,Ke,if_false,Kt,Kj,Ko,Ks,Kh,Kb,Kd]
    simp only[q0f]
    rfl
 ·obtain rfl:i=p.length:=by omega
  by_cases hkq:k<q.length
  ·obtain ⟨y,hy⟩:=q05 hkq
   have hy2:=q09 (g:=q0g) hy
   rw[q6n hy,VT,q0Z,Kj,VV] at hE
   rw[q0f] at hy2
   rw[←VT (l:=p)] at hE
   rcases E with _ | ⟨e0,es⟩
   all_goals
    simp only[Kb,Kd] at hn
    simp only[qka,q31,q32,Ku,Kq,if_true,Ke,if_false,Kt,Kj,Kb]
    (repeat' first|simp (disch:=omega) only[go_sem,hy2,Ka,Kb]|(apply spl<;>intro h<;>try simp (disch:=omega) only[go_sem,h]))
    refine ⟨(_,_,_++[_]),?_,⟨by simp only; omega,by simp only; omega,hE,by simp only[Kh,Kb,Kd]; omega⟩,by simp only[Kb,Kd]; omega⟩
    simp only[qka,q31,q32,Ku,Kq,if_true,Ke,if_false,Kt,Kj,Ko,Ks,Kh,Kb,Kd]
    simp only[q0f]
    rfl
  ·obtain rfl:k=q.length:=by omega
   rw[VT,VT,q0Z,Kt,KW] at hE
   rw[←hE]
   rcases E with _ | ⟨e0,es⟩
   all_goals
    simp only[Kb,Kd] at hn
    simp only[qka,q31,q32,Ku,Kq,if_true,Ke,if_false,Kt,Kj,Kb]
    (repeat' first|simp (disch:=omega) only[go_sem,Ka,Kb,Kx])
    all_goals first | rfl | (simp; done)
end Ago
