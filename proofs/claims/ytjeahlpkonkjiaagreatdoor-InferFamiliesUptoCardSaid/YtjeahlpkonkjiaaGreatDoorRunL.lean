/- Infer: the joined properties,of the program. -/
import Derived.Test.YtjeahlpkonkjiaaGreatDoorRunI
import Derived.Test.YtjeahlpkonkjiaaGreatDoorRunA
set_option linter.unusedSimpArgs false
set_option linter.unusedVariables false
set_option maxRecDepth 100000
set_option maxHeartbeats 4000000
namespace Ago
open Go (IntKind)
def qkb (A B:List (PK × Sch)) (E:List AV):St:={ tmps:=q0h 99 [(0,.tsl 17 (A.map q0g)),(1,.tsl 17 (B.map q0g)),(5,q31 17 0 E)],heap:=q32 17 0 E,base:=0 }
theorem qmm (f:Sch→Sch→Sch) (p q:List (PK × Sch)) (hp : ∀ x,x∈p→x.2.s.op≠4∧x.2.bulk≤2^24) (hq : ∀ x,x∈q→x.2.s.op≠4∧x.2.bulk≤2^24) (hl:p.length+q.length≤2^25)
  (hj : ∀ x,x∈p→∀ y,y∈q→q0e CI 974 [q03 x.2,q03 y.2] (q03 (f x.2 y.2))):q0e CI 999 [.tsl 17 (p.map q0g),.tsl 17 (q.map q0g)] (.tsl 17 ((q0Z f p q).map q0g)):=by
 refine q04 qqj rfl ?_
 (repeat' first|simp (disch:=omega) only[go_sem,qqj,enter]|(apply spl<;>intro h<;>try simp (disch:=omega) only[go_sem,h]))
 refine q06 (α:=List (PK × Sch) × List (PK × Sch) × List AV) (fun a=>qkb a.1 a.2.1 a.2.2)
  (fun a=>(∀ x,x∈a.1→x∈p)∧(∀ x,x∈a.2.1→x∈q)∧a.2.2++(q0Z f a.1 a.2.1).map q0g=(q0Z f p q).map q0g∧a.2.2.length+a.1.length+a.2.1.length≤2^25) (fun a=>a.1.length+a.2.1.length) (p,q,[]) rfl ⟨fun x h=>h,fun x h=>h,rfl,by simpa using hl⟩ ?_
 rintro ⟨A,B,E⟩ ⟨hA,hB,hE,hn⟩
 simp only at hA hB hE hn
 rcases hAe:A with _ | ⟨x,A'⟩<;>rcases hBe:B with _ | ⟨y,B'⟩
 all_goals subst hAe hBe
 ·rw[q0Z] at hE
  rw[←hE]
  rcases E with _ | ⟨e0,es⟩
  all_goals
   simp only[qkb,q31,q32,Ku,Kq,if_true,Ke,if_false,Kt,Kj,Kb]
   (repeat' first|simp (disch:=omega) only[go_sem,Kx,KW])
   all_goals trace_state
 ·have hq1:=hq y (hB y (Kn ..))
  have cp:=fun H=>q1g y.2 hq1.2 H (.inl hq1.1)
  have hB':=fun x h=>hB x (Kp _ h)
  have hA':=hA
  rw[q0Z,Kj,VV] at hE
  simp only[Kb,Kd] at hn
  rw[q01 y.2] at cp
  rcases E with _ | ⟨e0,es⟩
  all_goals
   simp only[Kb,Kd] at hn
   simp only[qkb,q31,q32,Ku,Kq,if_true,Ke,if_false,Kt,Kj,Kb]
   rw[q0f y]
   (repeat' first|simp (disch:=omega) only[go_sem,Ka,Kb,q1v]|(apply spl<;>intro h<;>try simp (disch:=omega) only[go_sem,h]))
   refine q39 ?_ ?_ ?_
   rotate_left
   ·repeat' first | exact q33 | refine q2i ?_ ?_
    all_goals
     (repeat' first|simp (disch:=omega) only[go_sem,q3B,Kb]|(refine q0l _ _ (cp _) ?_)|(apply spl<;>intro h<;>try simp (disch:=omega) only[go_sem,h]))
     all_goals rfl
   ·(repeat' first|simp (disch:=omega) only[go_sem,Kb,Ka,q1v]|(apply spl<;>intro h<;>try simp (disch:=omega) only[go_sem,h]))
    refine ⟨(_,_,_++[_]),?_,⟨hA',hB',hE,by simp only[Kh,Kb,Kd]; omega⟩,by simp only[Kb,Kd]; omega⟩
    simp only[qkb,q31,q32,Ku,Kq,if_true,Ke,if_false,Kt,Kj,Ko,Ks,Kh,Kb,Kd]
    simp only[q0f]
    rfl
 ·have hp1:=hp x (hA x (Kn ..))
  have cp:=fun H=>q1g x.2 hp1.2 H (.inl hp1.1)
  have hA':=fun x h=>hA x (Kp _ h)
  have hB':=hB
  rw[q0Z,Kj,VV] at hE
  simp only[Kb,Kd] at hn
  rw[q01 x.2] at cp
  rcases E with _ | ⟨e0,es⟩
  all_goals
   simp only[Kb,Kd] at hn
   simp only[qkb,q31,q32,Ku,Kq,if_true,Ke,if_false,Kt,Kj,Kb]
   rw[q0f x]
   (repeat' first|simp (disch:=omega) only[go_sem,Ka,Kb,q1v]|(apply spl<;>intro h<;>try simp (disch:=omega) only[go_sem,h]))
   refine q39 ?_ ?_ ?_
   rotate_left
   ·repeat' first | exact q33 | refine q2i ?_ ?_
    all_goals
     (repeat' first|simp (disch:=omega) only[go_sem,q3B,Kb]|(refine q0l _ _ (cp _) ?_)|(apply spl<;>intro h<;>try simp (disch:=omega) only[go_sem,h]))
     all_goals rfl
   ·(repeat' first|simp (disch:=omega) only[go_sem,Kb,Ka,q1v]|(apply spl<;>intro h<;>try simp (disch:=omega) only[go_sem,h]))
    refine ⟨(_,_,_++[_]),?_,⟨hA',hB',hE,by simp only[Kh,Kb,Kd]; omega⟩,by simp only[Kb,Kd]; omega⟩
    simp only[qkb,q31,q32,Ku,Kq,if_true,Ke,if_false,Kt,Kj,Ko,Ks,Kh,Kb,Kd]
    simp only[q0f]
    rfl
 ·have hp1:=hp x (hA x (Kn ..))
  have hq1:=hq y (hB y (Kn ..))
  have hcm:=qei (upS (qhM x.1.key y.1.key))
  simp only[Kb,Kd] at hn
  rw[q0Z] at hE
  cases hlt:Go.Op.bytesLess x.1.key y.1.key with
  | true=>
   rw[hlt,if_pos rfl,Kj,VV] at hE
   rw[qrW hlt] at hcm
   have cp:=fun H=>q1g x.2 hp1.2 H (.inl hp1.1)
   have hA':=fun x h=>hA x (Kp _ h)
   have hB':=hB
   rw[q01 x.2] at cp
   rcases E with _ | ⟨e0,es⟩
   all_goals
    simp only[Kb,Kd] at hn
    simp only[qkb,q31,q32,Ku,Kq,if_true,Ke,if_false,Kt,Kj,Kb]
    rw[q0f x,q0f y]
    (repeat' first|simp (disch:=omega) only[go_sem,Ka,Kb,q1v]|refine q00 _ (hcm) ?_|(apply spl<;>intro h<;>try simp (disch:=omega) only[go_sem,h]))
    refine q39 ?_ ?_ ?_
    rotate_left
    ·repeat' first | exact q33 | refine q2i ?_ ?_
     all_goals
      (repeat' first|simp (disch:=omega) only[go_sem,q3B,Kb]|(refine q0l _ _ (cp _) ?_)|(apply spl<;>intro h<;>try simp (disch:=omega) only[go_sem,h]))
      all_goals rfl
    ·(repeat' first|simp (disch:=omega) only[go_sem,Kb,Ka,q1v]|(apply spl<;>intro h<;>try simp (disch:=omega) only[go_sem,h]))
     refine ⟨(_,_,_++[_]),?_,⟨hA',hB',hE,by simp only[Kh,Kb,Kd]; omega⟩,by simp only[Kb,Kd]; omega⟩
     simp only[qkb,q31,q32,Ku,Kq,if_true,Ke,if_false,Kt,Kj,Ko,Ks,Kh,Kb,Kd]
     simp only[q0f]
     rfl
  | false=>
   rw[hlt,if_neg (by simp)] at hE
   cases hgt:Go.Op.bytesLess y.1.key x.1.key with
   | true=>
    rw[hgt,if_pos rfl,Kj,VV] at hE
    rw[qrV hgt] at hcm
    have cp:=fun H=>q1g y.2 hq1.2 H (.inl hq1.1)
    have hB':=fun x h=>hB x (Kp _ h)
    have hA':=hA
    rw[q01 y.2] at cp
    rcases E with _ | ⟨e0,es⟩
    all_goals
     simp only[Kb,Kd] at hn
     simp only[qkb,q31,q32,Ku,Kq,if_true,Ke,if_false,Kt,Kj,Kb]
     rw[q0f x,q0f y]
     (repeat' first|simp (disch:=omega) only[go_sem,Ka,Kb,q1v]|refine q00 _ (hcm) ?_|(apply spl<;>intro h<;>try simp (disch:=omega) only[go_sem,h]))
     refine q39 ?_ ?_ ?_
     rotate_left
     ·repeat' first | exact q33 | refine q2i ?_ ?_
      all_goals
       (repeat' first|simp (disch:=omega) only[go_sem,q3B,Kb]|(refine q0l _ _ (cp _) ?_)|(apply spl<;>intro h<;>try simp (disch:=omega) only[go_sem,h]))
       all_goals rfl
     ·(repeat' first|simp (disch:=omega) only[go_sem,Kb,Ka,q1v]|(apply spl<;>intro h<;>try simp (disch:=omega) only[go_sem,h]))
      refine ⟨(_,_,_++[_]),?_,⟨hA',hB',hE,by simp only[Kh,Kb,Kd]; omega⟩,by simp only[Kb,Kd]; omega⟩
      simp only[qkb,q31,q32,Ku,Kq,if_true,Ke,if_false,Kt,Kj,Ko,Ks,Kh,Kb,Kd]
      simp only[q0f]
      rfl
   | false=>
    rw[hgt,if_neg (by simp),Kj,VV] at hE
    rw[qsz hlt hgt] at hcm
    have hB':=fun x h=>hB x (Kp _ h)
    have hA':=fun x h=>hA x (Kp _ h)
    have hjj:=hj x (hA x (Kn ..)) y (hB y (Kn ..))
    rw[q01 x.2,q01 y.2,q01 (f x.2 y.2)] at hjj
    rcases E with _ | ⟨e0,es⟩
    all_goals
     simp only[Kb,Kd] at hn
     simp only[qkb,q31,q32,Ku,Kq,if_true,Ke,if_false,Kt,Kj,Kb]
     rw[q0f x,q0f y]
     cases hr1:x.1.req<;>cases hr2:y.1.req
     all_goals
      rw[hr1,hr2] at hE
      (repeat' first|simp (disch:=omega) only[go_sem,Ka,Kb,q1v,hr1,hr2]|refine q00 _ (hcm) ?_|refine q00 _ (hjj) ?_|(apply spl<;>intro h<;>try simp (disch:=omega) only[go_sem,h]))
      refine ⟨(_,_,_++[_]),?_,⟨hA',hB',hE,by simp only[Kh,Kb,Kd]; omega⟩,by simp only[Kb,Kd]; omega⟩
      simp only[qkb,q31,q32,Ku,Kq,if_true,Ke,if_false,Kt,Kj,Ko,Ks,Kh,Kb,Kd]
      simp only[q0f]
      rfl
end Ago
set_option maxRecDepth 100000
set_option maxHeartbeats 4000000
namespace Ago
open Go (IntKind)
theorem q6j {x:Sch} {l:List Sch} (h:x∈(q1J l).a):x.bulk<(q1J l).bulk:=(Sch.lens (v:=q1J l) (Kr _)).kids x h
theorem qrR (f:Sch→Sch→Sch) (x y:Option Sch):(q3i f x y).length≤1:=by
 cases x<;>cases y<;>simp [q3i]
theorem qib (f:Sch→Sch→Sch) (g h:Nat→Option Sch) (n:Nat):((List.range n).flatMap fun (k:Nat)=>q3i f (g k) (h k)).length≤n:=by
 induction n with
 | zero=>simp
 | succ n ih=>
  rw[List.range_succ,List.flatMap_append,Kh,List.flatMap_singleton]
  have:=qrR f (g n) (h n)
  omega
def qbd (nt:Nat) (a b:AV) (k:Nat) (E:List AV):St:={ tmps:=q0h nt [(2,.ptr 15 0 0 0),(3,.ptr 15 1 0 0),(4,.ptr 15 2 0 0),(5,.ptr 15 3 0 0),(6,.int .i64 k)],heap:=[.row 15 [.agg [.int .i64 12,.int .i64 0,.int .i64 0,.int .i64 0,.str [],.tsl 11 [],.int .i64 0,.int .i64 0,.int .i64 0,.int .i64 0,.int .i64 0,.tsl 6 [],.tsl 13 [],.tsl 17 [],a]] false true 0,.row 15 [.agg [.int .i64 12,.int .i64 0,.int .i64 0,.int .i64 0,.str [],.tsl 11 [],.int .i64 0,.int .i64 0,.int .i64 0,.int .i64 0,.int .i64 0,.tsl 6 [],.tsl 13 [],.tsl 17 [],b]] false true 1,.row 15 [q14] false true 2,.row 15 [.agg [.int .i64 12,.int .i64 0,.int .i64 0,.int .i64 0,.str [],.snil 11,.int .i64 0,.int .i64 0,.int .i64 0,.int .i64 0,.int .i64 0,.snil 6,.snil 13,.snil 17,q31 15 4 E]] false E.isEmpty 3]++q32 15 4 E,base:=0 }
end Ago
set_option maxRecDepth 100000
set_option maxHeartbeats 4000000
namespace Ago
open Go (IntKind)

theorem qor (n:Nat) (hn:n≤2^24) (hb : ∀ x y,Two x y→x.bulk+y.bulk≤n→q0e CI 987 [q03 x,q03 y] (q03 (q3M (q2w n) x y))) (a b:Sch) (ha:FamN a) (hbf:FamN b) (hs:a.bulk+b.bulk≤n+1):q0e CI 974 [q03 a,q03 b] (q03 (q2w (n+1) a b)):=by
 have hab:a.bulk≤2^24:=by have:=q1r (q03 b); have:1≤b.bulk:=this; omega
 have hbb:b.bulk≤2^24:=by have:=q1r (q03 a); have:1≤a.bulk:=this; omega
 have fa:=fun k=>qg7 a k hab
 have fb:=fun k=>qg7 b k hbb
 rcases ha with rfl | ⟨l,rfl,hlm⟩
 ·rw[q65]
  refine q04 qet rfl ?_
  have cp:=q1g b hbb
  have hbo:b.s.op≠4:=by rcases hbf with rfl | ⟨m,rfl,_⟩<;>first | exact (show (2:Int)≠4 by decide) | exact (show (12:Int)≠4 by decide)
  rw[q0T,q01 b] at *
  (repeat' first|simp (disch:=omega) only[go_sem,qet,enter]|(refine q0l _ _ (cp _ (.inl hbo)) ?_))
  all_goals rfl
 rcases hbf with rfl | ⟨m,rfl,hmm⟩
 ·rw[q3D]
  refine q04 qet rfl ?_
  have cp:=q1g (q1J l) hab
  have hbo:(q1J l).s.op≠4:=show (12:Int)≠4 by decide
  rw[q0T,q1P l] at *
  (repeat' first|simp (disch:=omega) only[go_sem,qet,enter]|(refine q0l _ _ (cp _ (.inl hbo)) ?_))
  all_goals rfl
 rw[q7q]
 generalize hR:q03 (q1J ((List.range 8).flatMap fun (k:Nat)=>q3i (q2w n) (kfM (q1J l) (k:Int)) (kfM (q1J m) (k:Int))))=R
 refine q04 qet rfl ?_
 simp only[q1P l,q1P m] at fa fb ⊢
 (repeat' first|simp (disch:=omega) only[go_sem,qet,enter]|(apply spl<;>intro h<;>try simp (disch:=omega) only[go_sem,h]))
 refine q06 (α:=Nat × List AV) (fun a=>qbd 70 (.tsl 15 (l.map q03)) (.tsl 15 (m.map q03)) a.1 a.2)
  (fun a=>a.1≤8∧a.2=((List.range a.1).flatMap fun (k:Nat)=>q3i (q2w n) (kfM (q1J l) (k:Int)) (kfM (q1J m) (k:Int))).map q03) (fun a=>8-a.1) (0,[]) rfl ⟨Km _,rfl⟩ ?_
 rintro ⟨k,E⟩ ⟨hk,hE⟩
 simp only at hk hE
 have hl8:E.length≤8:=by
  rw[hE,Ka]
  exact KZ (qib _ _ _ _) hk
 by_cases hlt:k<8
 ·have hnew:E++(q3i (q2w n) (kfM (q1J l) (k:Int)) (kfM (q1J m) (k:Int))).map q03=((List.range (k+1)).flatMap fun (k:Nat)=>q3i (q2w n) (kfM (q1J l) (k:Int)) (kfM (q1J m) (k:Int))).map q03:=by
   rw[hE,List.range_succ,List.flatMap_append,V8,List.flatMap_singleton]
  have ga:=fa k
  have gb:=fb k
  cases h1:kfM (q1J l) (k:Int) with
  | none=>
   rw[h1,VU,q1e] at ga
   cases h2:kfM (q1J m) (k:Int) with
   | none=>
    rw[h2,VU,q1e] at gb
    rw[h1,h2] at hnew
    simp only[q3i,Kt,KW] at hnew
    rcases E with _ | ⟨e0,es⟩
    all_goals
     simp only[qbd,q31,q32,Ku,Kq,if_true,Ke,if_false,Ko,Ks]
     (repeat' first|simp (disch:=omega) only[go_sem,Vy,q14]|refine q00 _ (ga) ?_|refine q00 _ (gb) ?_|(apply spl<;>intro h<;>try simp (disch:=omega) only[go_sem,h]))
     refine ⟨(k+1,_),?_,⟨hlt,hnew⟩,by simp only; omega⟩
     simp only[qbd,q31,q32,Ku,Kq,if_true,Ke,if_false,Ko,Ks]
     rfl
   | some y=>
    obtain ⟨hy1,hy2⟩:=q1t h2
    rw[h2,K4] at gb
    rw[h1,h2] at hnew
    simp only[q3i,Kj,Kt] at hnew
    have cp:=q1g y (by have:=q6j hy1; omega)
    rw[q01 y] at *
    rcases E with _ | ⟨e0,es⟩
    all_goals
     simp only[Kb,Kd] at hl8
     simp only[qbd,q31,q32,Ku,Kq,if_true,Ke,if_false,Ko,Ks]
     (repeat' first|simp (disch:=omega) only[go_sem,Vz,Vy,q14,Kb]|refine q00 _ (ga) ?_|refine q00 _ (gb) ?_|(apply spl<;>intro h<;>try simp (disch:=omega) only[go_sem,h]))
     first
     | (
      refine q39 ?_ ?_ ?_
      rotate_left
      ·repeat' first | exact q33 | refine q2i ?_ ?_
       all_goals
        (repeat' first|simp (disch:=omega) only[go_sem,q3B,Kb]|(refine q0l _ _ (cp _ (by simp)) ?_)|(apply spl<;>intro h<;>try simp (disch:=omega) only[go_sem,h]))
        all_goals rfl
      (repeat' first|simp (disch:=omega) only[go_sem,Kb]|(apply spl<;>intro h<;>try simp (disch:=omega) only[go_sem,h])))
     | skip
     refine ⟨(k+1,_++[_]),?_,⟨hlt,hnew⟩,by simp only; omega⟩
     simp only[qbd,q31,q32,Ku,Kq,if_true,Ke,if_false,Ko,Ks,Kh,Kb,Kd]
     rfl
  | some x=>
   obtain ⟨hx1,hx2⟩:=q1t h1
   rw[h1,K4] at ga
   cases h2:kfM (q1J m) (k:Int) with
   | none=>
    rw[h2,VU,q1e] at gb
    rw[h1,h2] at hnew
    simp only[q3i,Kj,Kt] at hnew
    have cp:=q1g x (by have:=q6j hx1; omega)
    rw[q01 x] at *
    rcases E with _ | ⟨e0,es⟩
    all_goals
     simp only[Kb,Kd] at hl8
     simp only[qbd,q31,q32,Ku,Kq,if_true,Ke,if_false,Ko,Ks]
     (repeat' first|simp (disch:=omega) only[go_sem,Vz,Vy,q14,Kb]|refine q00 _ (ga) ?_|refine q00 _ (gb) ?_|(apply spl<;>intro h<;>try simp (disch:=omega) only[go_sem,h]))
     first
     | (
      refine q39 ?_ ?_ ?_
      rotate_left
      ·repeat' first | exact q33 | refine q2i ?_ ?_
       all_goals
        (repeat' first|simp (disch:=omega) only[go_sem,q3B,Kb]|(refine q0l _ _ (cp _ (by simp)) ?_)|(apply spl<;>intro h<;>try simp (disch:=omega) only[go_sem,h]))
        all_goals rfl
      (repeat' first|simp (disch:=omega) only[go_sem,Kb]|(apply spl<;>intro h<;>try simp (disch:=omega) only[go_sem,h])))
     | skip
     refine ⟨(k+1,_++[_]),?_,⟨hlt,hnew⟩,by simp only; omega⟩
     simp only[qbd,q31,q32,Ku,Kq,if_true,Ke,if_false,Ko,Ks,Kh,Kb,Kd]
     rfl
   | some y=>
    obtain ⟨hy1,hy2⟩:=q1t h2
    rw[h2,K4] at gb
    rw[h1,h2] at hnew
    simp only[q3i,Kj,Kt] at hnew
    have hbo:=hb x y (qfd (hlm x hx1) (hmm y hy1) (hx2.trans hy2.symm)) (by
     have:=q6j hx1
     have:=q6j hy1
     omega)
    rw[q01 x,q01 y,q01 (q3M (q2w n) x y)] at *
    rcases E with _ | ⟨e0,es⟩
    all_goals
     simp only[Kb,Kd] at hl8
     simp only[qbd,q31,q32,Ku,Kq,if_true,Ke,if_false,Ko,Ks]
     (repeat' first|simp (disch:=omega) only[go_sem,Vz,q14,Kb]|refine q00 _ (ga) ?_|refine q00 _ (gb) ?_|refine q00 _ (hbo) ?_|(apply spl<;>intro h<;>try simp (disch:=omega) only[go_sem,h]))
     refine ⟨(k+1,_++[_]),?_,⟨hlt,hnew⟩,by simp only; omega⟩
     simp only[qbd,q31,q32,Ku,Kq,if_true,Ke,if_false,Ko,Ks,Kh,Kb,Kd]
     rfl
 ·obtain rfl:k=8:=by omega
  rw[q1P,←hE] at hR
  rw[←hR]
  rcases E with _ | ⟨e0,es⟩
  all_goals
   simp only[Kb,Kd] at hl8
   simp only[qbd,q31,q32,Ku,Kq,if_true,Ke,if_false,Ko,Ks]
   (repeat' first|simp (disch:=omega) only[go_sem,q14,Kx,Kb])
   all_goals first | rfl | (simp; done)
end Ago
