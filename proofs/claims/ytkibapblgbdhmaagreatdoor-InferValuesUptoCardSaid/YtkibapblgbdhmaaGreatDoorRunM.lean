/- Infer: joins,of the reference. -/
import Derived.Test.YtkibapblgbdhmaaGreatDoorRunL
set_option linter.unusedSimpArgs false
set_option linter.unusedVariables false
set_option maxRecDepth 100000
set_option maxHeartbeats 4000000
namespace Ago
open Go (IntKind)

theorem qdv (n:Nat) (hn:n≤2^24) (hb : ∀ x y,Two x y→x.bulk+y.bulk≤n→q0f CI 991 [q03 x,q03 y] (q03 (q2U (q1Y n) x y))) (a b:Sch) (ha:q8u a) (hbf:q8u b) (hs:a.bulk+b.bulk≤n+1):q0f CI 978 [q03 a,q03 b] (q03 (q1Y (n+1) a b)):=by
 have hab:a.bulk≤2^24:=by have:=q1b (q03 b); have:1≤b.bulk:=this; omega
 have hbb:b.bulk≤2^24:=by have:=q1b (q03 a); have:1≤a.bulk:=this; omega
 have fa:=fun k=>q8C a k hab
 have fb:=fun k=>q8C b k hbb
 rcases ha with rfl | ⟨l,rfl,hlm⟩
 ·rw[q52]
  refine q04 qbR rfl ?_
  rw[q0H,q01 b] at *
  (repeat' first|simp (disch:=omega) only[go_sem,qbR,enter]|(apply spl<;>intro h<;>try simp (disch:=omega) only[go_sem,h]))
  all_goals rfl
 rcases hbf with rfl | ⟨m,rfl,hmm⟩
 ·rw[q2J]
  refine q04 qbR rfl ?_
  rw[q0H,q1A l] at *
  (repeat' first|simp (disch:=omega) only[go_sem,qbR,enter]|(apply spl<;>intro h<;>try simp (disch:=omega) only[go_sem,h]))
  all_goals rfl
 rw[q66]
 generalize hR:q03 (q1n ((List.range 8).flatMap fun (k:Nat)=>q2u (q1Y n) (kfM (q1n l) (k:Int)) (kfM (q1n m) (k:Int))))=R
 refine q04 qbR rfl ?_
 simp only[q1A l,q1A m] at fa fb ⊢
 (repeat' first|simp (disch:=omega) only[go_sem,qbR,enter]|(apply spl<;>intro h<;>try simp (disch:=omega) only[go_sem,h]))
 refine q08 (α:=Nat × List AV) (fun a=>q9u 63 (.tsl 15 (l.map q03)) (.tsl 15 (m.map q03)) a.1 a.2)
  (fun a=>a.1≤8∧a.2=((List.range a.1).flatMap fun (k:Nat)=>q2u (q1Y n) (kfM (q1n l) (k:Int)) (kfM (q1n m) (k:Int))).map q03) (fun a=>8-a.1) (0,[]) rfl ⟨Nat.zero_le _,rfl⟩ ?_
 rintro ⟨k,E⟩ ⟨hk,hE⟩
 simp only at hk hE
 have hl8:E.length≤8:=by
  rw[hE,List.length_map]
  exact Nat.le_trans (qeg _ _ _ _) hk
 by_cases hlt:k<8
 ·have hnew:E++(q2u (q1Y n) (kfM (q1n l) (k:Int)) (kfM (q1n m) (k:Int))).map q03=((List.range (k+1)).flatMap fun (k:Nat)=>q2u (q1Y n) (kfM (q1n l) (k:Int)) (kfM (q1n m) (k:Int))).map q03:=by
   rw[hE,List.range_succ,List.flatMap_append,List.map_append,List.flatMap_singleton]
  have ga:=fa k
  have gb:=fb k
  cases h1:kfM (q1n l) (k:Int) with
  | none=>
   rw[h1,Option.getD_none,q1k] at ga
   cases h2:kfM (q1n m) (k:Int) with
   | none=>
    rw[h2,Option.getD_none,q1k] at gb
    rw[h1,h2] at hnew
    simp only[q2u,List.map_nil,List.append_nil] at hnew
    rcases E with _ | ⟨e0,es⟩
    all_goals
     simp only[q9u,q2k,q2j,List.isEmpty_nil,List.isEmpty_cons,if_true,Bool.false_eq_true,if_false,List.cons_append,List.nil_append]
     (repeat' first|simp (disch:=omega) only[go_sem,Option.isSome_none,q0O]|refine q00 _ (ga) ?_|refine q00 _ (gb) ?_|(apply spl<;>intro h<;>try simp (disch:=omega) only[go_sem,h]))
     refine ⟨(k+1,_),?_,⟨hlt,hnew⟩,by simp only; omega⟩
     simp only[q9u,q2k,q2j,List.isEmpty_nil,List.isEmpty_cons,if_true,Bool.false_eq_true,if_false,List.cons_append,List.nil_append]
     rfl
   | some y=>
    obtain ⟨hy1,hy2⟩:=q1l h2
    rw[h2,Option.getD_some] at gb
    rw[h1,h2] at hnew
    simp only[q2u,List.map_cons,List.map_nil] at hnew
    rw[q01 y] at *
    rcases E with _ | ⟨e0,es⟩
    all_goals
     simp only[List.length_cons,List.length_nil] at hl8
     simp only[q9u,q2k,q2j,List.isEmpty_nil,List.isEmpty_cons,if_true,Bool.false_eq_true,if_false,List.cons_append,List.nil_append]
     (repeat' first|simp (disch:=omega) only[go_sem,Option.isSome_some,Option.isSome_none,q0O,List.length_cons]|refine q00 _ (ga) ?_|refine q00 _ (gb) ?_|(apply spl<;>intro h<;>try simp (disch:=omega) only[go_sem,h]))
     refine ⟨(k+1,_++[_]),?_,⟨hlt,hnew⟩,by simp only; omega⟩
     simp only[q9u,q2k,q2j,List.isEmpty_nil,List.isEmpty_cons,if_true,Bool.false_eq_true,if_false,List.cons_append,List.nil_append,List.length_append,List.length_cons,List.length_nil]
     rfl
  | some x=>
   obtain ⟨hx1,hx2⟩:=q1l h1
   rw[h1,Option.getD_some] at ga
   cases h2:kfM (q1n m) (k:Int) with
   | none=>
    rw[h2,Option.getD_none,q1k] at gb
    rw[h1,h2] at hnew
    simp only[q2u,List.map_cons,List.map_nil] at hnew
    rw[q01 x] at *
    rcases E with _ | ⟨e0,es⟩
    all_goals
     simp only[List.length_cons,List.length_nil] at hl8
     simp only[q9u,q2k,q2j,List.isEmpty_nil,List.isEmpty_cons,if_true,Bool.false_eq_true,if_false,List.cons_append,List.nil_append]
     (repeat' first|simp (disch:=omega) only[go_sem,Option.isSome_some,Option.isSome_none,q0O,List.length_cons]|refine q00 _ (ga) ?_|refine q00 _ (gb) ?_|(apply spl<;>intro h<;>try simp (disch:=omega) only[go_sem,h]))
     refine ⟨(k+1,_++[_]),?_,⟨hlt,hnew⟩,by simp only; omega⟩
     simp only[q9u,q2k,q2j,List.isEmpty_nil,List.isEmpty_cons,if_true,Bool.false_eq_true,if_false,List.cons_append,List.nil_append,List.length_append,List.length_cons,List.length_nil]
     rfl
   | some y=>
    obtain ⟨hy1,hy2⟩:=q1l h2
    rw[h2,Option.getD_some] at gb
    rw[h1,h2] at hnew
    simp only[q2u,List.map_cons,List.map_nil] at hnew
    have hbo:=hb x y (qeb (hlm x hx1) (hmm y hy1) (hx2.trans hy2.symm)) (by
     have:=q4P hx1
     have:=q4P hy1
     omega)
    rw[q01 x,q01 y,q01 (q2U (q1Y n) x y)] at *
    rcases E with _ | ⟨e0,es⟩
    all_goals
     simp only[List.length_cons,List.length_nil] at hl8
     simp only[q9u,q2k,q2j,List.isEmpty_nil,List.isEmpty_cons,if_true,Bool.false_eq_true,if_false,List.cons_append,List.nil_append]
     (repeat' first|simp (disch:=omega) only[go_sem,Option.isSome_some,q0O,List.length_cons]|refine q00 _ (ga) ?_|refine q00 _ (gb) ?_|refine q00 _ (hbo) ?_|(apply spl<;>intro h<;>try simp (disch:=omega) only[go_sem,h]))
     refine ⟨(k+1,_++[_]),?_,⟨hlt,hnew⟩,by simp only; omega⟩
     simp only[q9u,q2k,q2j,List.isEmpty_nil,List.isEmpty_cons,if_true,Bool.false_eq_true,if_false,List.cons_append,List.nil_append,List.length_append,List.length_cons,List.length_nil]
     rfl
 ·obtain rfl:k=8:=by omega
  rw[q1A,←hE] at hR
  rw[←hR]
  rcases E with _ | ⟨e0,es⟩
  all_goals
   simp only[List.length_cons,List.length_nil] at hl8
   simp only[q9u,q2k,q2j,List.isEmpty_nil,List.isEmpty_cons,if_true,Bool.false_eq_true,if_false,List.cons_append,List.nil_append]
   (repeat' first|simp (disch:=omega) only[go_sem,q0O,List.take_length,List.length_cons]|(apply spl<;>intro h<;>try simp (disch:=omega) only[go_sem,h]))
   all_goals first | rfl | (simp; done)
end Ago
set_option maxRecDepth 100000
set_option maxHeartbeats 4000000
namespace Ago
open Go (IntKind)
def qgj (p q:List (PK × Sch)) (i k:Nat) (E:List AV):St:={ tmps:=q0i 129 [(0,.tsl 17 (p.map q0h)),(1,.tsl 17 (q.map q0h)),(5,q2k 17 0 E),(6,.int .i64 i),(7,.int .i64 k)],heap:=q2j 17 0 E,base:=0 }
theorem qcl (f:Sch→Sch→Sch) (p q:List (PK × Sch)) (hl:p.length+q.length≤2^25)
  (hj : ∀ x,x∈p→∀ y,y∈q→q0f CI 978 [q03 x.2,q03 y.2] (q03 (f x.2 y.2))):q0f CI 1001 [.tsl 17 (p.map q0h),.tsl 17 (q.map q0h)] (.tsl 17 ((q0K f p q).map q0h)):=by
 refine q04 qdK rfl ?_
 (repeat' first|simp (disch:=omega) only[go_sem,qdK,enter]|(apply spl<;>intro h<;>try simp (disch:=omega) only[go_sem,h]))
 refine q08 (α:=Nat × Nat × List AV) (fun a=>qgj p q a.1 a.2.1 a.2.2)
  (fun a=>a.1≤p.length∧a.2.1≤q.length∧a.2.2++(q0K f (p.drop a.1) (q.drop a.2.1)).map q0h=(q0K f p q).map q0h∧a.2.2.length+(p.length-a.1)+(q.length-a.2.1)≤2^25) (fun a=>(p.length-a.1)+(q.length-a.2.1)) (0,0,[]) rfl ⟨Nat.zero_le _,Nat.zero_le _,rfl,by simpa using hl⟩ ?_
 rintro ⟨i,k,E⟩ ⟨hi,hk,hE,hn⟩
 simp only at hi hk hE hn
 by_cases hip:i<p.length
 ·obtain ⟨x,hx⟩:=q06 hip
  have hx2:=q09 (g:=q0h) hx
  rw[q70 hx] at hE
  rw[q0m] at hx2
  by_cases hkq:k<q.length
  ·obtain ⟨y,hy⟩:=q06 hkq
   have hy2:=q09 (g:=q0h) hy
   rw[q70 hy,q0K] at hE
   rw[q0m] at hy2
   cases hlt:Go.Op.bytesLess x.1.key y.1.key with
   | true=>
    rw[hlt,if_pos rfl,List.map_cons,List.append_cons,←q70 hy] at hE
    rcases E with _ | ⟨e0,es⟩
    all_goals
     simp only[List.length_cons,List.length_nil] at hn
     simp only[qgj,q2k,q2j,List.isEmpty_nil,List.isEmpty_cons,if_true,Bool.false_eq_true,if_false,List.map_nil,List.map_cons,List.length_cons]
     (repeat' first|simp (disch:=omega) only[go_sem,hx2,hy2,List.length_map,List.length_cons,hlt]|(apply spl<;>intro h<;>try simp (disch:=omega) only[go_sem,h]))
     refine ⟨(_,_,_++[_]),?_,⟨by simp only; omega,by simp only; omega,hE,by simp only[List.length_append,List.length_cons,List.length_nil]; omega⟩,by simp only[List.length_cons,List.length_nil]; omega⟩
     simp only[qgj,q2k,q2j,List.isEmpty_nil,List.isEmpty_cons,if_true,Bool.false_eq_true,if_false,List.map_nil,List.map_cons,List.cons_append,List.nil_append,List.length_append,List.length_cons,List.length_nil]
     simp only[q0m]
     rfl
   | false=>
    rw[hlt,if_neg (by simp)] at hE
    cases hgt:Go.Op.bytesLess y.1.key x.1.key with
    | true=>
     rw[hgt,if_pos rfl,List.map_cons,List.append_cons,←q70 hx] at hE
     rcases E with _ | ⟨e0,es⟩
     all_goals
      simp only[List.length_cons,List.length_nil] at hn
      simp only[qgj,q2k,q2j,List.isEmpty_nil,List.isEmpty_cons,if_true,Bool.false_eq_true,if_false,List.map_nil,List.map_cons,List.length_cons]
      (repeat' first|simp (disch:=omega) only[go_sem,hx2,hy2,List.length_map,List.length_cons,hlt,hgt]|(apply spl<;>intro h<;>try simp (disch:=omega) only[go_sem,h]))
      refine ⟨(_,_,_++[_]),?_,⟨by simp only; omega,by simp only; omega,hE,by simp only[List.length_append,List.length_cons,List.length_nil]; omega⟩,by simp only[List.length_cons,List.length_nil]; omega⟩
      simp only[qgj,q2k,q2j,List.isEmpty_nil,List.isEmpty_cons,if_true,Bool.false_eq_true,if_false,List.map_nil,List.map_cons,List.cons_append,List.nil_append,List.length_append,List.length_cons,List.length_nil]
      simp only[q0m]
      rfl
    | false=>
     rw[hgt,if_neg (by simp),List.map_cons,List.append_cons] at hE
     have hjj:=hj x (List.mem_of_getElem? hx) y (List.mem_of_getElem? hy)
     rw[q01 x.2,q01 y.2,q01 (f x.2 y.2)] at hjj
     rcases E with _ | ⟨e0,es⟩
     all_goals
      simp only[List.length_cons,List.length_nil] at hn
      simp only[qgj,q2k,q2j,List.isEmpty_nil,List.isEmpty_cons,if_true,Bool.false_eq_true,if_false,List.map_nil,List.map_cons,List.length_cons]
      cases hr1:x.1.req<;>cases hr2:y.1.req
      all_goals
       rw[hr1,hr2] at hE
       (repeat' first|simp (disch:=omega) only[go_sem,hx2,hy2,List.length_map,List.length_cons,hlt,hgt,hr1,hr2]|refine q00 _ (hjj) ?_|(apply spl<;>intro h<;>try simp (disch:=omega) only[go_sem,h]))
       refine ⟨(_,_,_++[_]),?_,⟨by simp only; omega,by simp only; omega,hE,by simp only[List.length_append,List.length_cons,List.length_nil]; omega⟩,by simp only[List.length_cons,List.length_nil]; omega⟩
       simp only[qgj,q2k,q2j,List.isEmpty_nil,List.isEmpty_cons,if_true,Bool.false_eq_true,if_false,List.map_nil,List.map_cons,List.cons_append,List.nil_append,List.length_append,List.length_cons,List.length_nil]
       simp only[q0m]
       rfl
  ·obtain rfl:k=q.length:=by omega
   rw[List.drop_length,q0K,List.map_cons,List.append_cons] at hE
   have hE:=hE
   rw[←List.drop_length (l:=q)] at hE
   rcases E with _ | ⟨e0,es⟩
   all_goals
    simp only[List.length_cons,List.length_nil] at hn
    simp only[qgj,q2k,q2j,List.isEmpty_nil,List.isEmpty_cons,if_true,Bool.false_eq_true,if_false,List.map_nil,List.map_cons,List.length_cons]
    (repeat' first|simp (disch:=omega) only[go_sem,hx2,List.length_map,List.length_cons]|(apply spl<;>intro h<;>try simp (disch:=omega) only[go_sem,h]))
    refine ⟨(_,_,_++[_]),?_,⟨by simp only; omega,by simp only; omega,hE,by simp only[List.length_append,List.length_cons,List.length_nil]; omega⟩,by simp only[List.length_cons,List.length_nil]; omega⟩
    simp only[qgj,q2k,q2j,List.isEmpty_nil,List.isEmpty_cons,if_true,Bool.false_eq_true,if_false,List.map_nil,List.map_cons,List.cons_append,List.nil_append,List.length_append,List.length_cons,List.length_nil]
    simp only[q0m]
    rfl
 ·obtain rfl:i=p.length:=by omega
  by_cases hkq:k<q.length
  ·obtain ⟨y,hy⟩:=q06 hkq
   have hy2:=q09 (g:=q0h) hy
   rw[q70 hy,List.drop_length,q0K,List.map_cons,List.append_cons] at hE
   rw[q0m] at hy2
   rw[←List.drop_length (l:=p)] at hE
   rcases E with _ | ⟨e0,es⟩
   all_goals
    simp only[List.length_cons,List.length_nil] at hn
    simp only[qgj,q2k,q2j,List.isEmpty_nil,List.isEmpty_cons,if_true,Bool.false_eq_true,if_false,List.map_nil,List.map_cons,List.length_cons]
    (repeat' first|simp (disch:=omega) only[go_sem,hy2,List.length_map,List.length_cons]|(apply spl<;>intro h<;>try simp (disch:=omega) only[go_sem,h]))
    refine ⟨(_,_,_++[_]),?_,⟨by simp only; omega,by simp only; omega,hE,by simp only[List.length_append,List.length_cons,List.length_nil]; omega⟩,by simp only[List.length_cons,List.length_nil]; omega⟩
    simp only[qgj,q2k,q2j,List.isEmpty_nil,List.isEmpty_cons,if_true,Bool.false_eq_true,if_false,List.map_nil,List.map_cons,List.cons_append,List.nil_append,List.length_append,List.length_cons,List.length_nil]
    simp only[q0m]
    rfl
  ·obtain rfl:k=q.length:=by omega
   rw[List.drop_length,List.drop_length,q0K,List.map_nil,List.append_nil] at hE
   rw[←hE]
   rcases E with _ | ⟨e0,es⟩
   all_goals
    simp only[List.length_cons,List.length_nil] at hn
    simp only[qgj,q2k,q2j,List.isEmpty_nil,List.isEmpty_cons,if_true,Bool.false_eq_true,if_false,List.map_nil,List.map_cons,List.length_cons]
    (repeat' first|simp (disch:=omega) only[go_sem,List.length_map,List.length_cons,List.take_length]|(apply spl<;>intro h<;>try simp (disch:=omega) only[go_sem,h]))
    all_goals first | rfl | (simp; done)
end Ago
