/- Infer: the joined properties,of the program. -/
import Derived.Test.YtjeahlpkonkjiaaGreatDoorORunI
import Derived.Test.YtjeahlpkonkjiaaGreatDoorORunA
set_option linter.unusedSimpArgs false
set_option linter.unusedVariables false
set_option maxRecDepth 100000
set_option maxHeartbeats 4000000
namespace Ago
open Go (IntKind)
def qi5 (A B:List (PK × Sch)) (E:List AV):St:={ tmps:=q0q 99 [(0,.tsl 17 (A.map q0i)),(1,.tsl 17 (B.map q0i)),(5,q5O 17 0 E)],heap:=q5Q 17 0 E,base:=0 }
theorem qle (f:Sch→Sch→Sch) (p q:List (PK × Sch)) (hp : ∀ x,x∈p→x.2.s.op≠4∧x.2.bulk≤2^24) (hq : ∀ x,x∈q→x.2.s.op≠4∧x.2.bulk≤2^24) (hl:p.length+q.length≤2^25)
  (hj : ∀ x,x∈p→∀ y,y∈q→q0k CI 974 [q03 x.2,q03 y.2] (q03 (f x.2 y.2))):q0k CI 999 [.tsl 17 (p.map q0i),.tsl 17 (q.map q0i)] (.tsl 17 ((q0I f p q).map q0i)):=by
 refine q04 qmv rfl ?_
 (repeat' first|simp (disch:=omega) only[go_sem,qmv,enter]|(apply spl<;>intro h<;>try simp (disch:=omega) only[go_sem,h]))
 refine q07 (α:=List (PK × Sch) × List (PK × Sch) × List AV) (fun a=>qi5 a.1 a.2.1 a.2.2)
  (fun a=>(∀ x,x∈a.1→x∈p)∧(∀ x,x∈a.2.1→x∈q)∧a.2.2++(q0I f a.1 a.2.1).map q0i=(q0I f p q).map q0i∧a.2.2.length+a.1.length+a.2.1.length≤2^25) (fun a=>a.1.length+a.2.1.length) (p,q,[]) rfl ⟨fun x h=>h,fun x h=>h,rfl,by simpa using hl⟩ ?_
 rintro ⟨A,B,E⟩ ⟨hA,hB,hE,hn⟩
 simp only at hA hB hE hn
 rcases hAe:A with _ | ⟨x,A'⟩<;>rcases hBe:B with _ | ⟨y,B'⟩
 all_goals subst hAe hBe
 ·rw[q0I] at hE
  rw[←hE]
  rcases E with _ | ⟨e0,es⟩
  all_goals
   simp only[qi5,q5O,q5Q,KA,Ku,if_true,Ke,if_false,Kx,Km,Kb]
   (repeat' first|simp (disch:=omega) only[go_sem,Kz,KY])
   all_goals trace_state
 ·have hq1:=hq y (hB y (Kj ..))
  have cp:=fun H=>q12 y.2 hq1.2 H (.inl hq1.1)
  have hB':=fun x h=>hB x (Kl _ h)
  have hA':=hA
  rw[q0I,Km,List.append_cons] at hE
  simp only[Kb,Kg] at hn
  rw[q02 y.2] at cp
  rcases E with _ | ⟨e0,es⟩
  all_goals
   simp only[Kb,Kg] at hn
   simp only[qi5,q5O,q5Q,KA,Ku,if_true,Ke,if_false,Kx,Km,Kb]
   rw[q0o y]
   (repeat' first|simp (disch:=omega) only[go_sem,Ka,Kb,q1h]|(apply spl<;>intro h<;>try simp (disch:=omega) only[go_sem,h]))
   refine q3t ?_ ?_ ?_
   rotate_left
   ·repeat' first | exact q3z | refine q2O ?_ ?_
    all_goals
     (repeat' first|simp (disch:=omega) only[go_sem,q3W,Kb]|(refine q0f _ _ (cp _) ?_)|(apply spl<;>intro h<;>try simp (disch:=omega) only[go_sem,h]))
     all_goals rfl
   ·(repeat' first|simp (disch:=omega) only[go_sem,Kb,Ka,q1h]|(apply spl<;>intro h<;>try simp (disch:=omega) only[go_sem,h]))
    refine ⟨(_,_,_++[_]),?_,⟨hA',hB',hE,by simp only[Kk,Kb,Kg]; omega⟩,by simp only[Kb,Kg]; omega⟩
    simp only[qi5,q5O,q5Q,KA,Ku,if_true,Ke,if_false,Kx,Km,Kr,Kv,Kk,Kb,Kg]
    simp only[q0o]
    rfl
 ·have hp1:=hp x (hA x (Kj ..))
  have cp:=fun H=>q12 x.2 hp1.2 H (.inl hp1.1)
  have hA':=fun x h=>hA x (Kl _ h)
  have hB':=hB
  rw[q0I,Km,List.append_cons] at hE
  simp only[Kb,Kg] at hn
  rw[q02 x.2] at cp
  rcases E with _ | ⟨e0,es⟩
  all_goals
   simp only[Kb,Kg] at hn
   simp only[qi5,q5O,q5Q,KA,Ku,if_true,Ke,if_false,Kx,Km,Kb]
   rw[q0o x]
   (repeat' first|simp (disch:=omega) only[go_sem,Ka,Kb,q1h]|(apply spl<;>intro h<;>try simp (disch:=omega) only[go_sem,h]))
   refine q3t ?_ ?_ ?_
   rotate_left
   ·repeat' first | exact q3z | refine q2O ?_ ?_
    all_goals
     (repeat' first|simp (disch:=omega) only[go_sem,q3W,Kb]|(refine q0f _ _ (cp _) ?_)|(apply spl<;>intro h<;>try simp (disch:=omega) only[go_sem,h]))
     all_goals rfl
   ·(repeat' first|simp (disch:=omega) only[go_sem,Kb,Ka,q1h]|(apply spl<;>intro h<;>try simp (disch:=omega) only[go_sem,h]))
    refine ⟨(_,_,_++[_]),?_,⟨hA',hB',hE,by simp only[Kk,Kb,Kg]; omega⟩,by simp only[Kb,Kg]; omega⟩
    simp only[qi5,q5O,q5Q,KA,Ku,if_true,Ke,if_false,Kx,Km,Kr,Kv,Kk,Kb,Kg]
    simp only[q0o]
    rfl
 ·have hp1:=hp x (hA x (Kj ..))
  have hq1:=hq y (hB y (Kj ..))
  have hcm:=qn0 (upS (qgd x.1.key y.1.key))
  simp only[Kb,Kg] at hn
  rw[q0I] at hE
  cases hlt:Go.Op.bytesLess x.1.key y.1.key with
  | true=>
   rw[hlt,if_pos rfl,Km,List.append_cons] at hE
   rw[qqZ hlt] at hcm
   have cp:=fun H=>q12 x.2 hp1.2 H (.inl hp1.1)
   have hA':=fun x h=>hA x (Kl _ h)
   have hB':=hB
   rw[q02 x.2] at cp
   rcases E with _ | ⟨e0,es⟩
   all_goals
    simp only[Kb,Kg] at hn
    simp only[qi5,q5O,q5Q,KA,Ku,if_true,Ke,if_false,Kx,Km,Kb]
    rw[q0o x,q0o y]
    (repeat' first|simp (disch:=omega) only[go_sem,Ka,Kb,q1h]|refine q00 _ (hcm) ?_|(apply spl<;>intro h<;>try simp (disch:=omega) only[go_sem,h]))
    refine q3t ?_ ?_ ?_
    rotate_left
    ·repeat' first | exact q3z | refine q2O ?_ ?_
     all_goals
      (repeat' first|simp (disch:=omega) only[go_sem,q3W,Kb]|(refine q0f _ _ (cp _) ?_)|(apply spl<;>intro h<;>try simp (disch:=omega) only[go_sem,h]))
      all_goals rfl
    ·(repeat' first|simp (disch:=omega) only[go_sem,Kb,Ka,q1h]|(apply spl<;>intro h<;>try simp (disch:=omega) only[go_sem,h]))
     refine ⟨(_,_,_++[_]),?_,⟨hA',hB',hE,by simp only[Kk,Kb,Kg]; omega⟩,by simp only[Kb,Kg]; omega⟩
     simp only[qi5,q5O,q5Q,KA,Ku,if_true,Ke,if_false,Kx,Km,Kr,Kv,Kk,Kb,Kg]
     simp only[q0o]
     rfl
  | false=>
   rw[hlt,if_neg (by simp)] at hE
   cases hgt:Go.Op.bytesLess y.1.key x.1.key with
   | true=>
    rw[hgt,if_pos rfl,Km,List.append_cons] at hE
    rw[qqM hgt] at hcm
    have cp:=fun H=>q12 y.2 hq1.2 H (.inl hq1.1)
    have hB':=fun x h=>hB x (Kl _ h)
    have hA':=hA
    rw[q02 y.2] at cp
    rcases E with _ | ⟨e0,es⟩
    all_goals
     simp only[Kb,Kg] at hn
     simp only[qi5,q5O,q5Q,KA,Ku,if_true,Ke,if_false,Kx,Km,Kb]
     rw[q0o x,q0o y]
     (repeat' first|simp (disch:=omega) only[go_sem,Ka,Kb,q1h]|refine q00 _ (hcm) ?_|(apply spl<;>intro h<;>try simp (disch:=omega) only[go_sem,h]))
     refine q3t ?_ ?_ ?_
     rotate_left
     ·repeat' first | exact q3z | refine q2O ?_ ?_
      all_goals
       (repeat' first|simp (disch:=omega) only[go_sem,q3W,Kb]|(refine q0f _ _ (cp _) ?_)|(apply spl<;>intro h<;>try simp (disch:=omega) only[go_sem,h]))
       all_goals rfl
     ·(repeat' first|simp (disch:=omega) only[go_sem,Kb,Ka,q1h]|(apply spl<;>intro h<;>try simp (disch:=omega) only[go_sem,h]))
      refine ⟨(_,_,_++[_]),?_,⟨hA',hB',hE,by simp only[Kk,Kb,Kg]; omega⟩,by simp only[Kb,Kg]; omega⟩
      simp only[qi5,q5O,q5Q,KA,Ku,if_true,Ke,if_false,Kx,Km,Kr,Kv,Kk,Kb,Kg]
      simp only[q0o]
      rfl
   | false=>
    rw[hgt,if_neg (by simp),Km,List.append_cons] at hE
    rw[qpv hlt hgt] at hcm
    have hB':=fun x h=>hB x (Kl _ h)
    have hA':=fun x h=>hA x (Kl _ h)
    have hjj:=hj x (hA x (Kj ..)) y (hB y (Kj ..))
    rw[q02 x.2,q02 y.2,q02 (f x.2 y.2)] at hjj
    rcases E with _ | ⟨e0,es⟩
    all_goals
     simp only[Kb,Kg] at hn
     simp only[qi5,q5O,q5Q,KA,Ku,if_true,Ke,if_false,Kx,Km,Kb]
     rw[q0o x,q0o y]
     cases hr1:x.1.req<;>cases hr2:y.1.req
     all_goals
      rw[hr1,hr2] at hE
      (repeat' first|simp (disch:=omega) only[go_sem,Ka,Kb,q1h,hr1,hr2]|refine q00 _ (hcm) ?_|refine q00 _ (hjj) ?_|(apply spl<;>intro h<;>try simp (disch:=omega) only[go_sem,h]))
      refine ⟨(_,_,_++[_]),?_,⟨hA',hB',hE,by simp only[Kk,Kb,Kg]; omega⟩,by simp only[Kb,Kg]; omega⟩
      simp only[qi5,q5O,q5Q,KA,Ku,if_true,Ke,if_false,Kx,Km,Kr,Kv,Kk,Kb,Kg]
      simp only[q0o]
      rfl
end Ago
set_option maxRecDepth 100000
set_option maxHeartbeats 4000000
namespace Ago
open Go (IntKind)
theorem q8r {x:Sch} {l:List Sch} (h:x∈(q1c l).a):x.bulk<(q1c l).bulk:=(Sch.lens (v:=q1c l) (Ko _)).kids x h
theorem qrc (f:Sch→Sch→Sch) (x y:Option Sch):(q4h f x y).length≤1:=by
 cases x<;>cases y<;>simp [q4h]
theorem qmJ (f:Sch→Sch→Sch) (g h:Nat→Option Sch) (n:Nat):((List.range n).flatMap fun (k:Nat)=>q4h f (g k) (h k)).length≤n:=by
 induction n with
 | zero=>simp
 | succ n ih=>
  rw[List.range_succ,List.flatMap_append,Kk,List.flatMap_singleton]
  have:=qrc f (g n) (h n)
  omega
def qlk (nt:Nat) (a b:AV) (k:Nat) (E:List AV):St:={ tmps:=q0q nt [(2,.ptr 15 0 0 0),(3,.ptr 15 1 0 0),(4,.ptr 15 2 0 0),(5,.ptr 15 3 0 0),(6,.int .i64 k)],heap:=[.row 15 [.agg [.int .i64 12,.int .i64 0,.int .i64 0,.int .i64 0,.str [],.tsl 11 [],.int .i64 0,.int .i64 0,.int .i64 0,.int .i64 0,.int .i64 0,.tsl 6 [],.tsl 13 [],.tsl 17 [],a]] false true 0,.row 15 [.agg [.int .i64 12,.int .i64 0,.int .i64 0,.int .i64 0,.str [],.tsl 11 [],.int .i64 0,.int .i64 0,.int .i64 0,.int .i64 0,.int .i64 0,.tsl 6 [],.tsl 13 [],.tsl 17 [],b]] false true 1,.row 15 [q1Z] false true 2,.row 15 [.agg [.int .i64 12,.int .i64 0,.int .i64 0,.int .i64 0,.str [],.snil 11,.int .i64 0,.int .i64 0,.int .i64 0,.int .i64 0,.int .i64 0,.snil 6,.snil 13,.snil 17,q5O 15 4 E]] false E.isEmpty 3]++q5Q 15 4 E,base:=0 }
end Ago
set_option maxRecDepth 100000
set_option maxHeartbeats 4000000
namespace Ago
open Go (IntKind)

theorem qlz (n:Nat) (hn:n≤2^24) (hb : ∀ x y,Two x y→x.bulk+y.bulk≤n→q0k CI 987 [q03 x,q03 y] (q03 (q2W (q1C n) x y))) (a b:Sch) (ha:FamN a) (hbf:FamN b) (hs:a.bulk+b.bulk≤n+1):q0k CI 974 [q03 a,q03 b] (q03 (q1C (n+1) a b)):=by
 have hab:a.bulk≤2^24:=by have:=q1B (q03 b); have:1≤b.bulk:=this; omega
 have hbb:b.bulk≤2^24:=by have:=q1B (q03 a); have:1≤a.bulk:=this; omega
 have fa:=fun k=>qeu a k hab
 have fb:=fun k=>qeu b k hbb
 rcases ha with rfl | ⟨l,rfl,hlm⟩
 ·rw[q7k]
  refine q04 qcR rfl ?_
  have cp:=q12 b hbb
  have hbo:b.s.op≠4:=by rcases hbf with rfl | ⟨m,rfl,_⟩<;>first | exact (show (2:Int)≠4 by decide) | exact (show (12:Int)≠4 by decide)
  rw[q3A,q02 b] at *
  (repeat' first|simp (disch:=omega) only[go_sem,qcR,enter]|(refine q0f _ _ (cp _ (.inl hbo)) ?_))
  all_goals rfl
 rcases hbf with rfl | ⟨m,rfl,hmm⟩
 ·rw[q4g]
  refine q04 qcR rfl ?_
  have cp:=q12 (q1c l) hab
  have hbo:(q1c l).s.op≠4:=show (12:Int)≠4 by decide
  rw[q3A,q4f l] at *
  (repeat' first|simp (disch:=omega) only[go_sem,qcR,enter]|(refine q0f _ _ (cp _ (.inl hbo)) ?_))
  all_goals rfl
 rw[q9b]
 generalize hR:q03 (q1c ((List.range 8).flatMap fun (k:Nat)=>q4h (q1C n) (kfM (q1c l) (k:Int)) (kfM (q1c m) (k:Int))))=R
 refine q04 qcR rfl ?_
 simp only[q4f l,q4f m] at fa fb ⊢
 (repeat' first|simp (disch:=omega) only[go_sem,qcR,enter]|(apply spl<;>intro h<;>try simp (disch:=omega) only[go_sem,h]))
 refine q07 (α:=Nat × List AV) (fun a=>qlk 70 (.tsl 15 (l.map q03)) (.tsl 15 (m.map q03)) a.1 a.2)
  (fun a=>a.1≤8∧a.2=((List.range a.1).flatMap fun (k:Nat)=>q4h (q1C n) (kfM (q1c l) (k:Int)) (kfM (q1c m) (k:Int))).map q03) (fun a=>8-a.1) (0,[]) rfl ⟨Kp _,rfl⟩ ?_
 rintro ⟨k,E⟩ ⟨hk,hE⟩
 simp only at hk hE
 have hl8:E.length≤8:=by
  rw[hE,Ka]
  exact KZ (qmJ _ _ _ _) hk
 by_cases hlt:k<8
 ·have hnew:E++(q4h (q1C n) (kfM (q1c l) (k:Int)) (kfM (q1c m) (k:Int))).map q03=((List.range (k+1)).flatMap fun (k:Nat)=>q4h (q1C n) (kfM (q1c l) (k:Int)) (kfM (q1c m) (k:Int))).map q03:=by
   rw[hE,List.range_succ,List.flatMap_append,VX,List.flatMap_singleton]
  have ga:=fa k
  have gb:=fb k
  cases h1:kfM (q1c l) (k:Int) with
  | none=>
   rw[h1,Option.getD_none,q3g] at ga
   cases h2:kfM (q1c m) (k:Int) with
   | none=>
    rw[h2,Option.getD_none,q3g] at gb
    rw[h1,h2] at hnew
    simp only[q4h,Kx,KY] at hnew
    rcases E with _ | ⟨e0,es⟩
    all_goals
     simp only[qlk,q5O,q5Q,KA,Ku,if_true,Ke,if_false,Kr,Kv]
     (repeat' first|simp (disch:=omega) only[go_sem,Option.isSome_none,q1Z]|refine q00 _ (ga) ?_|refine q00 _ (gb) ?_|(apply spl<;>intro h<;>try simp (disch:=omega) only[go_sem,h]))
     refine ⟨(k+1,_),?_,⟨hlt,hnew⟩,by simp only; omega⟩
     simp only[qlk,q5O,q5Q,KA,Ku,if_true,Ke,if_false,Kr,Kv]
     rfl
   | some y=>
    obtain ⟨hy1,hy2⟩:=q1S h2
    rw[h2,Vc] at gb
    rw[h1,h2] at hnew
    simp only[q4h,Km,Kx] at hnew
    have cp:=q12 y (by have:=q8r hy1; omega)
    rw[q02 y] at *
    rcases E with _ | ⟨e0,es⟩
    all_goals
     simp only[Kb,Kg] at hl8
     simp only[qlk,q5O,q5Q,KA,Ku,if_true,Ke,if_false,Kr,Kv]
     (repeat' first|simp (disch:=omega) only[go_sem,Option.isSome_some,Option.isSome_none,q1Z,Kb]|refine q00 _ (ga) ?_|refine q00 _ (gb) ?_|(apply spl<;>intro h<;>try simp (disch:=omega) only[go_sem,h]))
     first
     | (
      refine q3t ?_ ?_ ?_
      rotate_left
      ·repeat' first | exact q3z | refine q2O ?_ ?_
       all_goals
        (repeat' first|simp (disch:=omega) only[go_sem,q3W,Kb]|(refine q0f _ _ (cp _ (by simp)) ?_)|(apply spl<;>intro h<;>try simp (disch:=omega) only[go_sem,h]))
        all_goals rfl
      (repeat' first|simp (disch:=omega) only[go_sem,Kb]|(apply spl<;>intro h<;>try simp (disch:=omega) only[go_sem,h])))
     | skip
     refine ⟨(k+1,_++[_]),?_,⟨hlt,hnew⟩,by simp only; omega⟩
     simp only[qlk,q5O,q5Q,KA,Ku,if_true,Ke,if_false,Kr,Kv,Kk,Kb,Kg]
     rfl
  | some x=>
   obtain ⟨hx1,hx2⟩:=q1S h1
   rw[h1,Vc] at ga
   cases h2:kfM (q1c m) (k:Int) with
   | none=>
    rw[h2,Option.getD_none,q3g] at gb
    rw[h1,h2] at hnew
    simp only[q4h,Km,Kx] at hnew
    have cp:=q12 x (by have:=q8r hx1; omega)
    rw[q02 x] at *
    rcases E with _ | ⟨e0,es⟩
    all_goals
     simp only[Kb,Kg] at hl8
     simp only[qlk,q5O,q5Q,KA,Ku,if_true,Ke,if_false,Kr,Kv]
     (repeat' first|simp (disch:=omega) only[go_sem,Option.isSome_some,Option.isSome_none,q1Z,Kb]|refine q00 _ (ga) ?_|refine q00 _ (gb) ?_|(apply spl<;>intro h<;>try simp (disch:=omega) only[go_sem,h]))
     first
     | (
      refine q3t ?_ ?_ ?_
      rotate_left
      ·repeat' first | exact q3z | refine q2O ?_ ?_
       all_goals
        (repeat' first|simp (disch:=omega) only[go_sem,q3W,Kb]|(refine q0f _ _ (cp _ (by simp)) ?_)|(apply spl<;>intro h<;>try simp (disch:=omega) only[go_sem,h]))
        all_goals rfl
      (repeat' first|simp (disch:=omega) only[go_sem,Kb]|(apply spl<;>intro h<;>try simp (disch:=omega) only[go_sem,h])))
     | skip
     refine ⟨(k+1,_++[_]),?_,⟨hlt,hnew⟩,by simp only; omega⟩
     simp only[qlk,q5O,q5Q,KA,Ku,if_true,Ke,if_false,Kr,Kv,Kk,Kb,Kg]
     rfl
   | some y=>
    obtain ⟨hy1,hy2⟩:=q1S h2
    rw[h2,Vc] at gb
    rw[h1,h2] at hnew
    simp only[q4h,Km,Kx] at hnew
    have hbo:=hb x y (qfN (hlm x hx1) (hmm y hy1) (hx2.trans hy2.symm)) (by
     have:=q8r hx1
     have:=q8r hy1
     omega)
    rw[q02 x,q02 y,q02 (q2W (q1C n) x y)] at *
    rcases E with _ | ⟨e0,es⟩
    all_goals
     simp only[Kb,Kg] at hl8
     simp only[qlk,q5O,q5Q,KA,Ku,if_true,Ke,if_false,Kr,Kv]
     (repeat' first|simp (disch:=omega) only[go_sem,Option.isSome_some,q1Z,Kb]|refine q00 _ (ga) ?_|refine q00 _ (gb) ?_|refine q00 _ (hbo) ?_|(apply spl<;>intro h<;>try simp (disch:=omega) only[go_sem,h]))
     refine ⟨(k+1,_++[_]),?_,⟨hlt,hnew⟩,by simp only; omega⟩
     simp only[qlk,q5O,q5Q,KA,Ku,if_true,Ke,if_false,Kr,Kv,Kk,Kb,Kg]
     rfl
 ·obtain rfl:k=8:=by omega
  rw[q4f,←hE] at hR
  rw[←hR]
  rcases E with _ | ⟨e0,es⟩
  all_goals
   simp only[Kb,Kg] at hl8
   simp only[qlk,q5O,q5Q,KA,Ku,if_true,Ke,if_false,Kr,Kv]
   (repeat' first|simp (disch:=omega) only[go_sem,q1Z,Kz,Kb])
   all_goals first | rfl | (simp; done)
end Ago
