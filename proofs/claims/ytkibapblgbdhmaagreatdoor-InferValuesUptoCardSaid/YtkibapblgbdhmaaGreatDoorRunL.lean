/- Infer: the joined properties,of the program. -/
import Derived.Test.YtkibapblgbdhmaaGreatDoorRunI
import Derived.Test.YtkibapblgbdhmaaGreatDoorRunA
set_option linter.unusedSimpArgs false
set_option linter.unusedVariables false
set_option maxRecDepth 100000
set_option maxHeartbeats 4000000
namespace Ago
open Go (IntKind)
def qgl (A B:List (PK × Sch)) (E:List AV):St:={ tmps:=q0i 99 [(0,.tsl 17 (A.map q0h)),(1,.tsl 17 (B.map q0h)),(5,q2k 17 0 E)],heap:=q2j 17 0 E,base:=0 }
theorem qi2 (f:Sch→Sch→Sch) (p q:List (PK × Sch)) (hp : ∀ x,x∈p→x.2.s.op≠4∧x.2.bulk≤2^24) (hq : ∀ x,x∈q→x.2.s.op≠4∧x.2.bulk≤2^24) (hl:p.length+q.length≤2^25)
  (hj : ∀ x,x∈p→∀ y,y∈q→q0f CI 974 [q03 x.2,q03 y.2] (q03 (f x.2 y.2))):q0f CI 999 [.tsl 17 (p.map q0h),.tsl 17 (q.map q0h)] (.tsl 17 ((q0K f p q).map q0h)):=by
 refine q04 qjR rfl ?_
 (repeat' first|simp (disch:=omega) only[go_sem,qjR,enter]|(apply spl<;>intro h<;>try simp (disch:=omega) only[go_sem,h]))
 refine q08 (α:=List (PK × Sch) × List (PK × Sch) × List AV) (fun a=>qgl a.1 a.2.1 a.2.2)
  (fun a=>(∀ x,x∈a.1→x∈p)∧(∀ x,x∈a.2.1→x∈q)∧a.2.2++(q0K f a.1 a.2.1).map q0h=(q0K f p q).map q0h∧a.2.2.length+a.1.length+a.2.1.length≤2^25) (fun a=>a.1.length+a.2.1.length) (p,q,[]) rfl ⟨fun x h=>h,fun x h=>h,rfl,by simpa using hl⟩ ?_
 rintro ⟨A,B,E⟩ ⟨hA,hB,hE,hn⟩
 simp only at hA hB hE hn
 rcases hAe:A with _ | ⟨x,A'⟩<;>rcases hBe:B with _ | ⟨y,B'⟩
 all_goals subst hAe hBe
 ·rw[q0K] at hE
  rw[←hE]
  rcases E with _ | ⟨e0,es⟩
  all_goals
   simp only[qgl,q2k,q2j,List.isEmpty_nil,List.isEmpty_cons,if_true,Bool.false_eq_true,if_false,List.map_nil,List.map_cons,List.length_cons]
   (repeat' first|simp (disch:=omega) only[go_sem,List.take_length,List.append_nil]|(apply spl<;>intro h<;>try simp (disch:=omega) only[go_sem,h]))
   all_goals trace_state
 ·have hq1:=hq y (hB y (List.mem_cons_self ..))
  have cp:=fun H=>q0X y.2 hq1.2 H (.inl hq1.1)
  have hB':=fun x h=>hB x (List.mem_cons_of_mem _ h)
  have hA':=hA
  rw[q0K,List.map_cons,List.append_cons] at hE
  simp only[List.length_cons,List.length_nil] at hn
  rw[q01 y.2] at cp
  rcases E with _ | ⟨e0,es⟩
  all_goals
   simp only[List.length_cons,List.length_nil] at hn
   simp only[qgl,q2k,q2j,List.isEmpty_nil,List.isEmpty_cons,if_true,Bool.false_eq_true,if_false,List.map_nil,List.map_cons,List.length_cons]
   rw[q0m y]
   (repeat' first|simp (disch:=omega) only[go_sem,List.length_map,List.length_cons,q1d]|(apply spl<;>intro h<;>try simp (disch:=omega) only[go_sem,h]))
   refine q38 ?_ ?_ ?_
   rotate_left
   ·repeat' first | exact q33 | refine q2o ?_ ?_
    all_goals
     (repeat' first|simp (disch:=omega) only[go_sem,q4j,List.length_cons]|(refine q0l _ _ (cp _) ?_)|(apply spl<;>intro h<;>try simp (disch:=omega) only[go_sem,h]))
     all_goals rfl
   ·(repeat' first|simp (disch:=omega) only[go_sem,List.length_cons,List.length_map,q1d]|(apply spl<;>intro h<;>try simp (disch:=omega) only[go_sem,h]))
    refine ⟨(_,_,_++[_]),?_,⟨hA',hB',hE,by simp only[List.length_append,List.length_cons,List.length_nil]; omega⟩,by simp only[List.length_cons,List.length_nil]; omega⟩
    simp only[qgl,q2k,q2j,List.isEmpty_nil,List.isEmpty_cons,if_true,Bool.false_eq_true,if_false,List.map_nil,List.map_cons,List.cons_append,List.nil_append,List.length_append,List.length_cons,List.length_nil]
    simp only[q0m]
    rfl
 ·have hp1:=hp x (hA x (List.mem_cons_self ..))
  have cp:=fun H=>q0X x.2 hp1.2 H (.inl hp1.1)
  have hA':=fun x h=>hA x (List.mem_cons_of_mem _ h)
  have hB':=hB
  rw[q0K,List.map_cons,List.append_cons] at hE
  simp only[List.length_cons,List.length_nil] at hn
  rw[q01 x.2] at cp
  rcases E with _ | ⟨e0,es⟩
  all_goals
   simp only[List.length_cons,List.length_nil] at hn
   simp only[qgl,q2k,q2j,List.isEmpty_nil,List.isEmpty_cons,if_true,Bool.false_eq_true,if_false,List.map_nil,List.map_cons,List.length_cons]
   rw[q0m x]
   (repeat' first|simp (disch:=omega) only[go_sem,List.length_map,List.length_cons,q1d]|(apply spl<;>intro h<;>try simp (disch:=omega) only[go_sem,h]))
   refine q38 ?_ ?_ ?_
   rotate_left
   ·repeat' first | exact q33 | refine q2o ?_ ?_
    all_goals
     (repeat' first|simp (disch:=omega) only[go_sem,q4j,List.length_cons]|(refine q0l _ _ (cp _) ?_)|(apply spl<;>intro h<;>try simp (disch:=omega) only[go_sem,h]))
     all_goals rfl
   ·(repeat' first|simp (disch:=omega) only[go_sem,List.length_cons,List.length_map,q1d]|(apply spl<;>intro h<;>try simp (disch:=omega) only[go_sem,h]))
    refine ⟨(_,_,_++[_]),?_,⟨hA',hB',hE,by simp only[List.length_append,List.length_cons,List.length_nil]; omega⟩,by simp only[List.length_cons,List.length_nil]; omega⟩
    simp only[qgl,q2k,q2j,List.isEmpty_nil,List.isEmpty_cons,if_true,Bool.false_eq_true,if_false,List.map_nil,List.map_cons,List.cons_append,List.nil_append,List.length_append,List.length_cons,List.length_nil]
    simp only[q0m]
    rfl
 ·have hp1:=hp x (hA x (List.mem_cons_self ..))
  have hq1:=hq y (hB y (List.mem_cons_self ..))
  have hcm:=qiT (upS (qee x.1.key y.1.key))
  simp only[List.length_cons,List.length_nil] at hn
  rw[q0K] at hE
  cases hlt:Go.Op.bytesLess x.1.key y.1.key with
  | true=>
   rw[hlt,if_pos rfl,List.map_cons,List.append_cons] at hE
   rw[qm6 hlt] at hcm
   have cp:=fun H=>q0X x.2 hp1.2 H (.inl hp1.1)
   have hA':=fun x h=>hA x (List.mem_cons_of_mem _ h)
   have hB':=hB
   rw[q01 x.2] at cp
   rcases E with _ | ⟨e0,es⟩
   all_goals
    simp only[List.length_cons,List.length_nil] at hn
    simp only[qgl,q2k,q2j,List.isEmpty_nil,List.isEmpty_cons,if_true,Bool.false_eq_true,if_false,List.map_nil,List.map_cons,List.length_cons]
    rw[q0m x,q0m y]
    (repeat' first|simp (disch:=omega) only[go_sem,List.length_map,List.length_cons,q1d]|refine q00 _ (hcm) ?_|(apply spl<;>intro h<;>try simp (disch:=omega) only[go_sem,h]))
    refine q38 ?_ ?_ ?_
    rotate_left
    ·repeat' first | exact q33 | refine q2o ?_ ?_
     all_goals
      (repeat' first|simp (disch:=omega) only[go_sem,q4j,List.length_cons]|(refine q0l _ _ (cp _) ?_)|(apply spl<;>intro h<;>try simp (disch:=omega) only[go_sem,h]))
      all_goals rfl
    ·(repeat' first|simp (disch:=omega) only[go_sem,List.length_cons,List.length_map,q1d]|(apply spl<;>intro h<;>try simp (disch:=omega) only[go_sem,h]))
     refine ⟨(_,_,_++[_]),?_,⟨hA',hB',hE,by simp only[List.length_append,List.length_cons,List.length_nil]; omega⟩,by simp only[List.length_cons,List.length_nil]; omega⟩
     simp only[qgl,q2k,q2j,List.isEmpty_nil,List.isEmpty_cons,if_true,Bool.false_eq_true,if_false,List.map_nil,List.map_cons,List.cons_append,List.nil_append,List.length_append,List.length_cons,List.length_nil]
     simp only[q0m]
     rfl
  | false=>
   rw[hlt,if_neg (by simp)] at hE
   cases hgt:Go.Op.bytesLess y.1.key x.1.key with
   | true=>
    rw[hgt,if_pos rfl,List.map_cons,List.append_cons] at hE
    rw[qlX hgt] at hcm
    have cp:=fun H=>q0X y.2 hq1.2 H (.inl hq1.1)
    have hB':=fun x h=>hB x (List.mem_cons_of_mem _ h)
    have hA':=hA
    rw[q01 y.2] at cp
    rcases E with _ | ⟨e0,es⟩
    all_goals
     simp only[List.length_cons,List.length_nil] at hn
     simp only[qgl,q2k,q2j,List.isEmpty_nil,List.isEmpty_cons,if_true,Bool.false_eq_true,if_false,List.map_nil,List.map_cons,List.length_cons]
     rw[q0m x,q0m y]
     (repeat' first|simp (disch:=omega) only[go_sem,List.length_map,List.length_cons,q1d]|refine q00 _ (hcm) ?_|(apply spl<;>intro h<;>try simp (disch:=omega) only[go_sem,h]))
     refine q38 ?_ ?_ ?_
     rotate_left
     ·repeat' first | exact q33 | refine q2o ?_ ?_
      all_goals
       (repeat' first|simp (disch:=omega) only[go_sem,q4j,List.length_cons]|(refine q0l _ _ (cp _) ?_)|(apply spl<;>intro h<;>try simp (disch:=omega) only[go_sem,h]))
       all_goals rfl
     ·(repeat' first|simp (disch:=omega) only[go_sem,List.length_cons,List.length_map,q1d]|(apply spl<;>intro h<;>try simp (disch:=omega) only[go_sem,h]))
      refine ⟨(_,_,_++[_]),?_,⟨hA',hB',hE,by simp only[List.length_append,List.length_cons,List.length_nil]; omega⟩,by simp only[List.length_cons,List.length_nil]; omega⟩
      simp only[qgl,q2k,q2j,List.isEmpty_nil,List.isEmpty_cons,if_true,Bool.false_eq_true,if_false,List.map_nil,List.map_cons,List.cons_append,List.nil_append,List.length_append,List.length_cons,List.length_nil]
      simp only[q0m]
      rfl
   | false=>
    rw[hgt,if_neg (by simp),List.map_cons,List.append_cons] at hE
    rw[qna hlt hgt] at hcm
    have hB':=fun x h=>hB x (List.mem_cons_of_mem _ h)
    have hA':=fun x h=>hA x (List.mem_cons_of_mem _ h)
    have hjj:=hj x (hA x (List.mem_cons_self ..)) y (hB y (List.mem_cons_self ..))
    rw[q01 x.2,q01 y.2,q01 (f x.2 y.2)] at hjj
    rcases E with _ | ⟨e0,es⟩
    all_goals
     simp only[List.length_cons,List.length_nil] at hn
     simp only[qgl,q2k,q2j,List.isEmpty_nil,List.isEmpty_cons,if_true,Bool.false_eq_true,if_false,List.map_nil,List.map_cons,List.length_cons]
     rw[q0m x,q0m y]
     cases hr1:x.1.req<;>cases hr2:y.1.req
     all_goals
      rw[hr1,hr2] at hE
      (repeat' first|simp (disch:=omega) only[go_sem,List.length_map,List.length_cons,q1d,hr1,hr2]|refine q00 _ (hcm) ?_|refine q00 _ (hjj) ?_|(apply spl<;>intro h<;>try simp (disch:=omega) only[go_sem,h]))
      refine ⟨(_,_,_++[_]),?_,⟨hA',hB',hE,by simp only[List.length_append,List.length_cons,List.length_nil]; omega⟩,by simp only[List.length_cons,List.length_nil]; omega⟩
      simp only[qgl,q2k,q2j,List.isEmpty_nil,List.isEmpty_cons,if_true,Bool.false_eq_true,if_false,List.map_nil,List.map_cons,List.cons_append,List.nil_append,List.length_append,List.length_cons,List.length_nil]
      simp only[q0m]
      rfl
end Ago
set_option maxRecDepth 100000
set_option maxHeartbeats 4000000
namespace Ago
open Go (IntKind)
theorem q4P {x:Sch} {l:List Sch} (h:x∈(q1n l).a):x.bulk<(q1n l).bulk:=(Sch.lens (v:=q1n l) (Nat.le_refl _)).kids x h
theorem qmU (f:Sch→Sch→Sch) (x y:Option Sch):(q2u f x y).length≤1:=by
 cases x<;>cases y<;>simp [q2u]
theorem qeg (f:Sch→Sch→Sch) (g h:Nat→Option Sch) (n:Nat):((List.range n).flatMap fun (k:Nat)=>q2u f (g k) (h k)).length≤n:=by
 induction n with
 | zero=>simp
 | succ n ih=>
  rw[List.range_succ,List.flatMap_append,List.length_append,List.flatMap_singleton]
  have:=qmU f (g n) (h n)
  omega
def q9u (nt:Nat) (a b:AV) (k:Nat) (E:List AV):St:={ tmps:=q0i nt [(2,.ptr 15 0 0 0),(3,.ptr 15 1 0 0),(4,.ptr 15 2 0 0),(5,.ptr 15 3 0 0),(6,.int .i64 k)],heap:=[.row 15 [.agg [.int .i64 12,.int .i64 0,.int .i64 0,.int .i64 0,.str [],.tsl 11 [],.int .i64 0,.int .i64 0,.int .i64 0,.int .i64 0,.int .i64 0,.tsl 6 [],.tsl 13 [],.tsl 17 [],a]] false true 0,.row 15 [.agg [.int .i64 12,.int .i64 0,.int .i64 0,.int .i64 0,.str [],.tsl 11 [],.int .i64 0,.int .i64 0,.int .i64 0,.int .i64 0,.int .i64 0,.tsl 6 [],.tsl 13 [],.tsl 17 [],b]] false true 1,.row 15 [q0O] false true 2,.row 15 [.agg [.int .i64 12,.int .i64 0,.int .i64 0,.int .i64 0,.str [],.snil 11,.int .i64 0,.int .i64 0,.int .i64 0,.int .i64 0,.int .i64 0,.snil 6,.snil 13,.snil 17,q2k 15 4 E]] false E.isEmpty 3]++q2j 15 4 E,base:=0 }
end Ago
set_option maxRecDepth 100000
set_option maxHeartbeats 4000000
namespace Ago
open Go (IntKind)

theorem qj3 (n:Nat) (hn:n≤2^24) (hb : ∀ x y,Two x y→x.bulk+y.bulk≤n→q0f CI 987 [q03 x,q03 y] (q03 (q2U (q1Y n) x y))) (a b:Sch) (ha:q8u a) (hbf:q8u b) (hs:a.bulk+b.bulk≤n+1):q0f CI 974 [q03 a,q03 b] (q03 (q1Y (n+1) a b)):=by
 have hab:a.bulk≤2^24:=by have:=q1b (q03 b); have:1≤b.bulk:=this; omega
 have hbb:b.bulk≤2^24:=by have:=q1b (q03 a); have:1≤a.bulk:=this; omega
 have fa:=fun k=>qim a k hab
 have fb:=fun k=>qim b k hbb
 rcases ha with rfl | ⟨l,rfl,hlm⟩
 ·rw[q52]
  refine q04 qbZ rfl ?_
  have cp:=q0X b hbb
  have hbo:b.s.op≠4:=by rcases hbf with rfl | ⟨m,rfl,_⟩<;>first | exact (show (2:Int)≠4 by decide) | exact (show (12:Int)≠4 by decide)
  rw[q0H,q01 b] at *
  (repeat' first|simp (disch:=omega) only[go_sem,qbZ,enter]|(refine q0l _ _ (cp _ (.inl hbo)) ?_)|(apply spl<;>intro h<;>try simp (disch:=omega) only[go_sem,h]))
  all_goals rfl
 rcases hbf with rfl | ⟨m,rfl,hmm⟩
 ·rw[q2J]
  refine q04 qbZ rfl ?_
  have cp:=q0X (q1n l) hab
  have hbo:(q1n l).s.op≠4:=show (12:Int)≠4 by decide
  rw[q0H,q1A l] at *
  (repeat' first|simp (disch:=omega) only[go_sem,qbZ,enter]|(refine q0l _ _ (cp _ (.inl hbo)) ?_)|(apply spl<;>intro h<;>try simp (disch:=omega) only[go_sem,h]))
  all_goals rfl
 rw[q66]
 generalize hR:q03 (q1n ((List.range 8).flatMap fun (k:Nat)=>q2u (q1Y n) (kfM (q1n l) (k:Int)) (kfM (q1n m) (k:Int))))=R
 refine q04 qbZ rfl ?_
 simp only[q1A l,q1A m] at fa fb ⊢
 (repeat' first|simp (disch:=omega) only[go_sem,qbZ,enter]|(apply spl<;>intro h<;>try simp (disch:=omega) only[go_sem,h]))
 refine q08 (α:=Nat × List AV) (fun a=>q9u 70 (.tsl 15 (l.map q03)) (.tsl 15 (m.map q03)) a.1 a.2)
  (fun a=>a.1≤8∧a.2=((List.range a.1).flatMap fun (k:Nat)=>q2u (q1Y n) (kfM (q1n l) (k:Int)) (kfM (q1n m) (k:Int))).map q03) (fun a=>8-a.1) (0,[]) rfl ⟨Nat.zero_le _,rfl⟩ ?_
 rintro ⟨k,E⟩ ⟨hk,hE⟩
 simp only at hk hE
 have hl8:E.length≤8:=by
  rw[hE,List.length_map]
  exact Nat.le_trans (qeg _ _ _ _) hk
 by_cases hlt:k<8
 ·have hnew:E++(q2u (q1Y n) (kfM (q1n l) (k:Int)) (kfM (q1n m) (k:Int))).map q03=((List.range (k+1)).flatMap fun (k:Nat)=>q2u (q1Y n) (kfM (q1n l) (k:Int)) (kfM (q1n m) (k:Int))).map q03:=by
   rw[hE,List.range_succ,List.flatMap_append,List.map_append,List.flatMap_singleton]
  have ga:=fa k
  have gb:=fb k
  cases h1:kfM (q1n l) (k:Int) with
  | none=>
   rw[h1,Option.getD_none,q1k] at ga
   cases h2:kfM (q1n m) (k:Int) with
   | none=>
    rw[h2,Option.getD_none,q1k] at gb
    rw[h1,h2] at hnew
    simp only[q2u,List.map_nil,List.append_nil] at hnew
    rcases E with _ | ⟨e0,es⟩
    all_goals
     simp only[q9u,q2k,q2j,List.isEmpty_nil,List.isEmpty_cons,if_true,Bool.false_eq_true,if_false,List.cons_append,List.nil_append]
     (repeat' first|simp (disch:=omega) only[go_sem,Option.isSome_none,q0O]|refine q00 _ (ga) ?_|refine q00 _ (gb) ?_|(apply spl<;>intro h<;>try simp (disch:=omega) only[go_sem,h]))
     refine ⟨(k+1,_),?_,⟨hlt,hnew⟩,by simp only; omega⟩
     simp only[q9u,q2k,q2j,List.isEmpty_nil,List.isEmpty_cons,if_true,Bool.false_eq_true,if_false,List.cons_append,List.nil_append]
     rfl
   | some y=>
    obtain ⟨hy1,hy2⟩:=q1l h2
    rw[h2,Option.getD_some] at gb
    rw[h1,h2] at hnew
    simp only[q2u,List.map_cons,List.map_nil] at hnew
    have cp:=q0X y (by have:=q4P hy1; omega)
    rw[q01 y] at *
    rcases E with _ | ⟨e0,es⟩
    all_goals
     simp only[List.length_cons,List.length_nil] at hl8
     simp only[q9u,q2k,q2j,List.isEmpty_nil,List.isEmpty_cons,if_true,Bool.false_eq_true,if_false,List.cons_append,List.nil_append]
     (repeat' first|simp (disch:=omega) only[go_sem,Option.isSome_some,Option.isSome_none,q0O,List.length_cons]|refine q00 _ (ga) ?_|refine q00 _ (gb) ?_|(apply spl<;>intro h<;>try simp (disch:=omega) only[go_sem,h]))
     first
     | (
      refine q38 ?_ ?_ ?_
      rotate_left
      ·repeat' first | exact q33 | refine q2o ?_ ?_
       all_goals
        (repeat' first|simp (disch:=omega) only[go_sem,q4j,List.length_cons]|(refine q0l _ _ (cp _ (by simp)) ?_)|(apply spl<;>intro h<;>try simp (disch:=omega) only[go_sem,h]))
        all_goals rfl
      (repeat' first|simp (disch:=omega) only[go_sem,List.length_cons]|(apply spl<;>intro h<;>try simp (disch:=omega) only[go_sem,h])))
     | skip
     refine ⟨(k+1,_++[_]),?_,⟨hlt,hnew⟩,by simp only; omega⟩
     simp only[q9u,q2k,q2j,List.isEmpty_nil,List.isEmpty_cons,if_true,Bool.false_eq_true,if_false,List.cons_append,List.nil_append,List.length_append,List.length_cons,List.length_nil]
     rfl
  | some x=>
   obtain ⟨hx1,hx2⟩:=q1l h1
   rw[h1,Option.getD_some] at ga
   cases h2:kfM (q1n m) (k:Int) with
   | none=>
    rw[h2,Option.getD_none,q1k] at gb
    rw[h1,h2] at hnew
    simp only[q2u,List.map_cons,List.map_nil] at hnew
    have cp:=q0X x (by have:=q4P hx1; omega)
    rw[q01 x] at *
    rcases E with _ | ⟨e0,es⟩
    all_goals
     simp only[List.length_cons,List.length_nil] at hl8
     simp only[q9u,q2k,q2j,List.isEmpty_nil,List.isEmpty_cons,if_true,Bool.false_eq_true,if_false,List.cons_append,List.nil_append]
     (repeat' first|simp (disch:=omega) only[go_sem,Option.isSome_some,Option.isSome_none,q0O,List.length_cons]|refine q00 _ (ga) ?_|refine q00 _ (gb) ?_|(apply spl<;>intro h<;>try simp (disch:=omega) only[go_sem,h]))
     first
     | (
      refine q38 ?_ ?_ ?_
      rotate_left
      ·repeat' first | exact q33 | refine q2o ?_ ?_
       all_goals
        (repeat' first|simp (disch:=omega) only[go_sem,q4j,List.length_cons]|(refine q0l _ _ (cp _ (by simp)) ?_)|(apply spl<;>intro h<;>try simp (disch:=omega) only[go_sem,h]))
        all_goals rfl
      (repeat' first|simp (disch:=omega) only[go_sem,List.length_cons]|(apply spl<;>intro h<;>try simp (disch:=omega) only[go_sem,h])))
     | skip
     refine ⟨(k+1,_++[_]),?_,⟨hlt,hnew⟩,by simp only; omega⟩
     simp only[q9u,q2k,q2j,List.isEmpty_nil,List.isEmpty_cons,if_true,Bool.false_eq_true,if_false,List.cons_append,List.nil_append,List.length_append,List.length_cons,List.length_nil]
     rfl
   | some y=>
    obtain ⟨hy1,hy2⟩:=q1l h2
    rw[h2,Option.getD_some] at gb
    rw[h1,h2] at hnew
    simp only[q2u,List.map_cons,List.map_nil] at hnew
    have hbo:=hb x y (qeb (hlm x hx1) (hmm y hy1) (hx2.trans hy2.symm)) (by
     have:=q4P hx1
     have:=q4P hy1
     omega)
    rw[q01 x,q01 y,q01 (q2U (q1Y n) x y)] at *
    rcases E with _ | ⟨e0,es⟩
    all_goals
     simp only[List.length_cons,List.length_nil] at hl8
     simp only[q9u,q2k,q2j,List.isEmpty_nil,List.isEmpty_cons,if_true,Bool.false_eq_true,if_false,List.cons_append,List.nil_append]
     (repeat' first|simp (disch:=omega) only[go_sem,Option.isSome_some,q0O,List.length_cons]|refine q00 _ (ga) ?_|refine q00 _ (gb) ?_|refine q00 _ (hbo) ?_|(apply spl<;>intro h<;>try simp (disch:=omega) only[go_sem,h]))
     refine ⟨(k+1,_++[_]),?_,⟨hlt,hnew⟩,by simp only; omega⟩
     simp only[q9u,q2k,q2j,List.isEmpty_nil,List.isEmpty_cons,if_true,Bool.false_eq_true,if_false,List.cons_append,List.nil_append,List.length_append,List.length_cons,List.length_nil]
     rfl
 ·obtain rfl:k=8:=by omega
  rw[q1A,←hE] at hR
  rw[←hR]
  rcases E with _ | ⟨e0,es⟩
  all_goals
   simp only[List.length_cons,List.length_nil] at hl8
   simp only[q9u,q2k,q2j,List.isEmpty_nil,List.isEmpty_cons,if_true,Bool.false_eq_true,if_false,List.cons_append,List.nil_append]
   (repeat' first|simp (disch:=omega) only[go_sem,q0O,List.take_length,List.length_cons]|(apply spl<;>intro h<;>try simp (disch:=omega) only[go_sem,h]))
   all_goals first | rfl | (simp; done)
end Ago
