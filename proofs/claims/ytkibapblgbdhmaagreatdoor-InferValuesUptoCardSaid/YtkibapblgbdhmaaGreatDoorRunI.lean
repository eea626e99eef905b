/- Infer: the context in which schemas,decimals and the functions of Infer live. -/
import Derived.Test.YtkibapblgbdhmaaGreatDoorCodeI
import Derived.Test.YtkibapblgbdhmaaGreatDoorRunJ
import Derived.Test.YtkibapblgbdhmaaGreatDoorRunG
import Derived.Test.YtkibapblgbdhmaaGreatDoorRunD
import Derived.Test.YtkibapblgbdhmaaGreatDoorRunC
import Derived.Test.YtkibapblgbdhmaaGreatDoorRunA
import Derived.Test.YtkibapblgbdhmaaGreatDoorRunF
set_option linter.unusedSimpArgs false
set_option linter.unusedVariables false
set_option maxRecDepth 100000
set_option maxHeartbeats 4000000
namespace Ago
open Go (IntKind)
theorem qr9 {g:J} (h:BS CS g):BS CI0 g:=q8W (C:=CS) (C':=CI0) (fun f fn h=>by
 have h:q8H f=some fn:=h
 show q8S f=some fn
 unfold q8S qeQ
 rw[h]) (fun _ _ _ _ _ h=>h) (fun f ts v h=>by
 rcases h with h | ⟨h1,a,b,rfl,rfl⟩ | ⟨h1,h2⟩
 ·exact Or.inl (Or.inl h)
 ·refine Or.inr ⟨qo3,?_,rfl⟩
  have h1:f=272:=by simpa [csQ] using h1
  rw[h1]
  rfl
 ·refine Or.inl (Or.inr (Or.inr ⟨?_,h2⟩))
  have h1:f=551:=by simpa [lnQ] using h1
  rw[h1]
  rfl) h
theorem qnW {f:Nat} {ts:List AV} {v:AV} (h:q0f CS f ts v):q0f CI0 f ts v:=qr9 h
theorem qml {f:Nat} {fn:AFn} (h:qcU f=some fn):q8S f=some fn:=by
 have h2:qeQ f=some fn:=by
  unfold qeQ
  unfold qcU at h
  cases hc:code f with
  | some a=>
   rw[hc] at h
   simp only at h
   have:q8H f=some a:=by
    unfold q8H
    rw[hc]
   rw[this]
   exact h
  | none=>
   rw[hc] at h
   simp only at h
   unfold qlF at h
   split at h<;>first | (cases h; rfl) | cases h
 unfold q8S
 rw[h2]
theorem qr3 {f:Nat} {ts:List AV} {v:AV} (h:q0f CN f ts v):q0f CI0 f ts v:=q8W (C:=CN) (C':=CI0) (fun f fn h=>qml h) (fun f x v H H' h=>by
 obtain ⟨p,x,h,h2⟩:=h
 refine Or.inl ⟨p,x,?_,h2⟩
 unfold qra at h
 split at h
 ·exact h
 ·cases h) (fun f ts v h=>by
 rcases h with ⟨p,l,h,h2⟩ | h
 ·refine Or.inl (Or.inl ⟨p,l,?_,h2⟩)
  unfold qqP at h
  split at h
  ·exact h
  ·cases h
 ·exact Or.inr h) h
theorem qr1 {f:Nat} {ts:List AV} {v:AV} (h:q0f CI0 f ts v):q0f CI f ts v:=q7Z (qdo h)
theorem qiT {f:Nat} {ts:List AV} {v:AV} (h:q0f CS f ts v):q0f CI f ts v:=qr1 (qnW h)
theorem qnn {f:Nat} {ts:List AV} {v:AV} (h:q0f CN f ts v):q0f CI f ts v:=qr1 (qr3 h)
theorem qm9 {f:Nat} {a:List AV} {H H':Heap} {v:AV} (hf:q8H f=none) (h:q1M CS f a H v H'):q1M CC f a H v H':=by
 cases h with
 | prim h=>exact .prim h
 | run hf2 _ _ _=>
  have hf2:q8H f=some _:=hf2
  rw[hf] at hf2
  cases hf2
theorem qi1 {cs:List AV} {k:Int} {H:Heap} (hk:k≠4∨H.length≠3) (h:q0f CC 985 [.agg (.int .i64 k::cs)] (.agg (.int .i64 k::cs))) (hf:frz H 6 (.agg (.int .i64 k::cs))=some (.agg (.int .i64 k::cs))) (ha:q0t H [.agg (.int .i64 k::cs)] (.agg (.int .i64 k::cs))=H) :
  q1M CI 985 [.agg (.int .i64 k::cs)] H (.agg (.int .i64 k::cs)) H:=by
 refine qgo (.inr ⟨?_,h,?_,ha.symm⟩)
 ·rcases hk with hk | hk
  ·have:qkL [.agg (.int .i64 k::cs)]=false:=by
    unfold qkL
    split
    ·rename_i h
     cases h
     exact absurd rfl hk
    ·rfl
   rw[this]
   rfl
  ·have:(H.length == 3)=false:=by simpa using hk
   rw[this,Bool.and_false]
 ·simp only[q1v,hf]
theorem qjo {cs:List AV} {H H':Heap} {v:AV} (hl:H.length=3) (h:q1M CC 985 [.agg (.int .i64 4::cs)] H v H'):q1M CI 985 [.agg (.int .i64 4::cs)] H v H':=by
 refine qgo (.inl ⟨?_,h⟩)
 rw[hl]
 rfl
end Ago
set_option maxRecDepth 100000
set_option maxHeartbeats 4000000
namespace Ago
open Go (IntKind)
def q2H (x:Sch):Int:=
 if x.s.op=3 then (if x.s.mask=1 then 0 else if x.s.mask=2 then 1 else if x.s.mask=8 then 3 else if x.s.mask=32 then 5 else -1)
 else if x.s.op=4 then 2 else if x.s.op=5 then 4 else if x.s.op=9 then 6 else if x.s.op=10 then 7 else -1
theorem qdt (x:Sch):q0f CI 995 [q03 x] (.int .i64 (q2H x)):=by
 refine q04 ql2 rfl ?_
 rw[q01]
 unfold q2H
 (repeat' first|simp (disch:=omega) only[go_sem,ql2,enter]|(apply spl<;>intro h<;>try simp (disch:=omega) only[go_sem,h]))
 all_goals simp_all
def kfM (x:Sch) (k:Int):Option Sch:=x.a.find? fun y=>decide (q2H y=k)
theorem qjq:IntKind.i64.wrap (1 * 2^min 0 64)=1:=by decide
theorem qjI:IntKind.i64.wrap (1 * 2^min 1 64)=2:=by decide
theorem qkz:IntKind.i64.wrap (1 * 2^min 3 64)=8:=by decide
theorem qkf:IntKind.i64.wrap (1 * 2^min 5 64)=32:=by decide
theorem qfK (x:Sch):q0f CI 993 [q03 x] (.int .i64 (q2H x)):=by
 refine q04 qiy rfl ?_
 unfold q2H
 by_cases h3:x.s.op=3
 ·rw[if_pos h3,q01]
  (repeat' first|simp (disch:=omega) only[go_sem,qiy,enter,h3]|(apply spl<;>intro h<;>try simp (disch:=omega) only[go_sem,h]))
  refine q08 (α:=Nat) (fun a=>{ tmps:=q0i 30 [(1,.ptr 15 0 0 0),(9,.sref 1 1 0 4),(10,.int .i64 4),(11,.int .i64 a)],heap:=[.row 15 [q03 x] false true 0,.row 1 [.int .i64 0,.int .i64 1,.int .i64 3,.int .i64 5] false true 1],base:=0 })
   (fun a=>a≤4∧(0<a→x.s.mask≠1)∧(1<a→x.s.mask≠2)∧(2<a→x.s.mask≠8)∧(3<a→x.s.mask≠32)) (fun a=>4-a) 0 (by rw[q01,h3]; rfl) (by omega) ?_
  rintro k ⟨hk,k1,k2,k3,k4⟩
  rw[q01]
  obtain rfl | rfl | rfl | rfl | rfl:k=0∨k=1∨k=2∨k=3∨k=4:=by omega
  ·by_cases hm:x.s.mask=1
   ·(repeat' first|simp (disch:=omega) only[go_sem,hm,qjq,qjI,qkz,qkf]|(apply spl<;>intro h<;>try simp (disch:=omega) only[go_sem,h]))
   ·(repeat' first|simp (disch:=omega) only[go_sem,hm,qjq,qjI,qkz,qkf]|(apply spl<;>intro h<;>try simp (disch:=omega) only[go_sem,h]))
    exact ⟨1,rfl,by refine ⟨?_,?_,?_,?_,?_⟩<;>first | omega | simp_all,by omega⟩
  ·have:=k1 (by omega)
   by_cases hm:x.s.mask=2
   ·(repeat' first|simp (disch:=omega) only[go_sem,hm,qjq,qjI,qkz,qkf]|(apply spl<;>intro h<;>try simp (disch:=omega) only[go_sem,h]))
   ·(repeat' first|simp (disch:=omega) only[go_sem,hm,qjq,qjI,qkz,qkf]|(apply spl<;>intro h<;>try simp (disch:=omega) only[go_sem,h]))
    exact ⟨2,rfl,by refine ⟨?_,?_,?_,?_,?_⟩<;>first | omega | simp_all,by omega⟩
  ·have:=k1 (by omega)
   have:=k2 (by omega)
   by_cases hm:x.s.mask=8
   ·(repeat' first|simp (disch:=omega) only[go_sem,hm,qjq,qjI,qkz,qkf]|(apply spl<;>intro h<;>try simp (disch:=omega) only[go_sem,h]))
   ·(repeat' first|simp (disch:=omega) only[go_sem,hm,qjq,qjI,qkz,qkf]|(apply spl<;>intro h<;>try simp (disch:=omega) only[go_sem,h]))
    exact ⟨3,rfl,by refine ⟨?_,?_,?_,?_,?_⟩<;>first | omega | simp_all,by omega⟩
  ·have:=k1 (by omega)
   have:=k2 (by omega)
   have:=k3 (by omega)
   by_cases hm:x.s.mask=32
   ·(repeat' first|simp (disch:=omega) only[go_sem,hm,qjq,qjI,qkz,qkf]|(apply spl<;>intro h<;>try simp (disch:=omega) only[go_sem,h]))
   ·(repeat' first|simp (disch:=omega) only[go_sem,hm,qjq,qjI,qkz,qkf]|(apply spl<;>intro h<;>try simp (disch:=omega) only[go_sem,h]))
    exact ⟨4,rfl,by refine ⟨?_,?_,?_,?_,?_⟩<;>first | omega | simp_all,by omega⟩
  ·have e1:=k1 (by omega)
   have e2:=k2 (by omega)
   have e3:=k3 (by omega)
   have e4:=k4 (by omega)
   (repeat' first|simp (disch:=omega) only[go_sem,qjq,qjI,qkz,qkf,e1,e2,e3,e4]|(apply spl<;>intro h<;>try simp (disch:=omega) only[go_sem,h]))
 ·rw[if_neg h3,q01]
  (repeat' first|simp (disch:=omega) only[go_sem,qiy,enter,h3]|(apply spl<;>intro h<;>try simp (disch:=omega) only[go_sem,h]))
  all_goals simp_all
def q0O:AV:=.agg [.int .i64 0,.int .i64 0,.int .i64 0,.int .i64 0,.str [],.snil 11,.int .i64 0,.int .i64 0,.int .i64 0,.int .i64 0,.int .i64 0,.snil 6,.snil 13,.snil 17,.snil 15]
theorem qef {x:Sch} {k:Int} (h : ∀ y,y∈x.a→q2H y≠k):kfM x k=none:=by
 unfold kfM
 rw[List.find?_eq_none]
 intro y hy
 simpa using h y hy
theorem qlJ {x:Sch} {k:Int} {i:Nat} {y:Sch} (hy:x.a[i]?=some y) (hk:q2H y=k) (h : ∀ z,z∈x.a.take i→q2H z≠k):kfM x k=some y:=by
 unfold kfM
 have e:x.a=x.a.take i++x.a.drop i:=(List.take_append_drop i x.a).symm
 rw[e,List.find?_append,List.find?_eq_none.2 (by intro z hz; simpa using h z hz),q70 hy]
 simp [hk]
theorem qim (x:Sch) (k:Int) (hx:x.bulk≤2^24):q0f CI 986 [q03 x,.int .i64 k] (.tup [q03 ((kfM x k).getD zeroX),.bool (kfM x k).isSome]):=by
 have L:=Sch.lens hx
 have hal:=L.args
 refine q04 qkX rfl ?_
 rw[q01]
 (repeat' first|simp (disch:=omega) only[go_sem,qkX,enter,List.length_map]|(apply spl<;>intro h<;>try simp (disch:=omega) only[go_sem,h]))
 refine q08 (α:=Nat) (fun a=>{ tmps:=q0i 22 [(1,.int .i64 k),(4,.ptr 15 0 0 0),(9,.tsl 15 (x.a.map q03)),(10,.int .i64 x.a.length),(11,.int .i64 a)],heap:=[.row 15 [q0O] false true 0],base:=0 })
  (fun a=>a≤x.a.length∧∀ z,z∈x.a.take a→q2H z≠k) (fun a=>x.a.length-a) 0 rfl ⟨Nat.zero_le _,by simp⟩ ?_
 rintro i ⟨hi,hz⟩
 by_cases hlt:i<x.a.length
 ·obtain ⟨y,hy⟩:=q06 hlt
  have hy2:=q09 (g:=q03) hy
  have hk:=qfK y
  rw[q01 y] at hy2 hk
  by_cases hkk:q2H y=k
  ·rw[qlJ hy hkk hz,Option.getD_some]
   rw[hkk] at hk
   rw[q01 y]
   (repeat' first|simp (disch:=omega) only[go_sem,hy2,List.length_map,q0O]|refine q00 _ (hk) ?_|(apply spl<;>intro h<;>try simp (disch:=omega) only[go_sem,h]))
   all_goals rfl
  ·(repeat' first|simp (disch:=omega) only[go_sem,hy2,List.length_map,q0O,hkk]|refine q00 _ (hk) ?_|(apply spl<;>intro h<;>try simp (disch:=omega) only[go_sem,h]))
   refine ⟨i+1,rfl,⟨hlt,fun z hm=>?_⟩,by omega⟩
   rw[List.take_add_one,hy] at hm
   rcases List.mem_append.1 hm with hm | hm
   ·exact hz z hm
   ·obtain rfl:z=y:=by simpa using hm
    exact hkk
 ·rw[qef (x:=x) (k:=k) (by rw[q0C hlt hi] at hz; exact hz),Option.getD_none,q1k]
  (repeat' first|simp (disch:=omega) only[go_sem,List.length_map,q0O]|(apply spl<;>intro h<;>try simp (disch:=omega) only[go_sem,h]))
  all_goals rfl
end Ago
set_option maxRecDepth 100000
set_option maxHeartbeats 32000000
namespace Ago
open Go (IntKind)
theorem q8C (x:Sch) (k:Int) (hx:x.bulk≤2^24):q0f CI 990 [q03 x,.int .i64 k] (.tup [q03 ((kfM x k).getD zeroX),.bool (kfM x k).isSome]):=by
 have L:=Sch.lens hx
 have hal:=L.args
 refine q04 ql3 rfl ?_
 rw[q01]
 (repeat' first|simp (disch:=omega) only[go_sem,ql3,enter,List.length_map]|(apply spl<;>intro h<;>try simp (disch:=omega) only[go_sem,h]))
 refine q08 (α:=Nat) (fun a=>{ tmps:=q0i 28 [(1,.int .i64 k),(2,.ptr 15 0 0 0),(4,.ptr 15 1 0 0),(6,.int .i64 a)],heap:=[.row 15 [q03 x] false true 0,.row 15 [q0O] false true 1],base:=0 })
  (fun a=>a≤x.a.length∧∀ z,z∈x.a.take a→q2H z≠k) (fun a=>x.a.length-a) 0 (by rw[q01]; rfl) ⟨Nat.zero_le _,by simp⟩ ?_
 rintro i ⟨hi,hz⟩
 by_cases hlt:i<x.a.length
 ·obtain ⟨y,hy⟩:=q06 hlt
  have hy2:=q09 (g:=q03) hy
  have hk:=qdt y
  rw[q01 y] at hy2 hk
  by_cases hkk:q2H y=k
  ·rw[qlJ hy hkk hz,Option.getD_some]
   rw[hkk] at hk
   rw[q01 x,q01 y]
   (repeat' first|simp (disch:=omega) only[go_sem,hy2,List.length_map,q0O]|refine q00 _ (hk) ?_|(apply spl<;>intro h<;>try simp (disch:=omega) only[go_sem,h]))
   all_goals rfl
  ·rw[q01 x]
   (repeat' first|simp (disch:=omega) only[go_sem,hy2,List.length_map,q0O,hkk]|refine q00 _ (hk) ?_|(apply spl<;>intro h<;>try simp (disch:=omega) only[go_sem,h]))
   refine ⟨i+1,rfl,⟨hlt,fun z hm=>?_⟩,by omega⟩
   rw[List.take_add_one,hy] at hm
   rcases List.mem_append.1 hm with hm | hm
   ·exact hz z hm
   ·obtain rfl:z=y:=by simpa using hm
    exact hkk
 ·rw[qef (x:=x) (k:=k) (by rw[q0C hlt hi] at hz; exact hz),Option.getD_none,q1k,q01 x]
  (repeat' first|simp (disch:=omega) only[go_sem,List.length_map,q0O]|(apply spl<;>intro h<;>try simp (disch:=omega) only[go_sem,h]))
  all_goals rfl
def noneX:Sch:=.mk ⟨2,0,0,0,[],[],.mk ⟨0,0,0,0,0⟩ [],[]⟩ [] []
theorem q0H:q03 noneX = .agg [.int .i64 2,.int .i64 0,.int .i64 0,.int .i64 0,.str [],.tsl 11 [],.int .i64 0,.int .i64 0,.int .i64 0,.int .i64 0,.int .i64 0,.tsl 6 [],.tsl 13 [],.tsl 17 [],.tsl 15 []]:=by
 rw[q01]
 rfl
theorem qa0:q0f CI 977 [] (q03 noneX):=by
 rw[q0H]
 refine q04 (C:=CI) qkT rfl ?_
 (repeat' first|simp (disch:=omega) only[go_sem,qkT,enter]|(apply spl<;>intro h<;>try simp (disch:=omega) only[go_sem,h]))
def qlm (n0:Nat) (ahead:Heap) (t:List (Nat × AV)) (pre:List (Nat × Bool × List AV)) (cells:List AV→List AV):St:=
 { tmps:=q0i 54 ([(2,.ptr 15 n0 0 0),(3,.ptr 15 (n0+1) 0 0)]++t),heap:=ahead++[.row 15 [q0O] false true n0,.row 15 [.agg (cells (qa7 (n0+2) pre).1)] false (pre.all fun p=>p.2.1) (n0+1)]++(qa7 (n0+2) pre).2,base:=0 }
theorem qcZ : ∀ (n:Nat) (x:Sch),x.bulk≤n→n≤2^24→q0f CC 985 [q03 x] (q03 x):=by
 intro n
 induction n with
 | zero=>
  intro x h1 h2
  have:1≤x.bulk:=q1b _
  omega
 | succ n ih=>
  intro x h1 h2
  have L:=Sch.lens (v:=x) (N:=2^24) (by omega)
  have l1:=L.parts
  have l3:=L.props
  have l4:=L.args
  have c1:=fun (H:Heap) (z:AV) (zs:List AV) (h:zs.length<2^24)=>qm9 rfl (q7J (f:=216) (n:=11) (b:=104) rfl (by decide) H z zs h)
  have d1:=fun (H:Heap)=>qm9 rfl (q6x (f:=216) (n:=11) (b:=104) rfl H)
  have ml1:(x.s.parts.map q0p).length=x.s.parts.length:=List.length_map ..
  refine q04 qeU rfl ?_
  rw[q01]
  rcases q4t q0p x.s.parts with ⟨hp,ep,np⟩ | ⟨p0,ps,hp,ep,np⟩
  all_goals
   rw[hp]
   (repeat' first|simp (disch:=omega) only[go_sem,qeU,enter,List.length_map]|(refine q0l _ _ (d1 _) ?_)|(refine q0l _ _ (c1 _ _ _ (by omega)) ?_)|(apply spl<;>intro h<;>try simp (disch:=omega) only[go_sem,h]))
   refine q08 (α:=Nat × List AV) (fun a=>qlm 1 [.row 15 [q03 x] false true 0] [(1,.ptr 15 0 0 0),(18,.tsl 17 (x.p.map q0h)),(19,.int .i64 x.p.length),(20,.int .i64 a.1)] [(11,(x.s.parts.map q0p).isEmpty,x.s.parts.map q0p),(17,a.2.isEmpty,a.2)] fun c=>q2r x (c.getD 0 .dead) (.tsl 13 (x.s.vals.map q0j)) (c.getD 1 .dead) (.snil 15))
    (fun a=>a.1≤x.p.length∧a.2=(x.p.take a.1).map q0h) (fun a=>x.p.length-a.1) (0,[]) (by
     simp only[qlm,hp,List.isEmpty_nil,List.isEmpty_cons,q1c,q2v,q2P,List.length_cons,List.length_nil]
     rw[q01,hp]
     rfl) ⟨Nat.zero_le _,by simp⟩ ?_
   rintro ⟨k,E⟩ ⟨hk,hE⟩
   simp only at hk hE
   rcases hEe:E with _ | ⟨e0,es⟩
   all_goals
    simp only[qlm,q2r,hp,ep,hEe,List.isEmpty_nil,List.isEmpty_cons,q1c,q2v,q2P,List.length_cons,List.length_nil,List.getD_cons_zero,List.getD_cons_succ,List.all_cons,List.all_nil,Bool.and_true,Bool.and_false,Bool.true_and,List.cons_append,List.nil_append]
    rw[q01,hp]
    by_cases hlt:k<x.p.length
    ·obtain ⟨y,hy⟩:=q06 hlt
     have hym:=List.mem_of_getElem? hy
     have hy2:=q09 (g:=q0h) hy
     have hr:=ih y.2 (by have:=(L.pkids y hym).1; omega) (by omega)
     have hnew:E++[q0h y]=(x.p.take (k+1)).map q0h:=by rw[hE,List.take_add_one,hy]; simp
     have hEl:E.length=k:=by rw[hE]; simp; omega
     rw[hEe] at hnew hEl
     simp only[List.length_cons,List.length_nil] at hEl
     rw[q0m] at hy2
     rw[q01] at hr
     (repeat' first|simp (disch:=omega) only[go_sem,hy2,List.length_map,q0O,List.length_cons,List.length_nil]|refine q00 _ (hr) ?_|(apply spl<;>intro h<;>try simp (disch:=omega) only[go_sem,h]))
     refine ⟨(k+1,_++[q0h y]),?_,⟨hlt,hnew⟩,by simp only; omega⟩
     simp only[qlm,q2r,hp,ep,List.isEmpty_nil,List.isEmpty_cons,q1c,q2v,q2P,List.length_cons,List.length_nil,List.length_append,List.getD_cons_zero,List.getD_cons_succ,List.all_cons,List.all_nil,Bool.and_true,Bool.and_false,Bool.true_and,List.cons_append,List.nil_append]
     rw[q0m y]
     rfl
    ·have hkl:k=x.p.length:=by omega
     have hE2:E=x.p.map q0h:=by rw[hE,hkl,List.take_length]
     have hEl:E.length=x.p.length:=by rw[hE2]; simp
     rw[hEe] at hEl hE2
     simp only[List.length_cons,List.length_nil] at hEl
     (repeat' first|simp (disch:=omega) only[go_sem,q0O,List.length_map]|(apply spl<;>intro h<;>try simp (disch:=omega) only[go_sem,h]))
     refine q08 (α:=Nat × List AV) (fun a=>qlm 0 [] [(39,.tsl 15 (x.a.map q03)),(40,.int .i64 x.a.length),(41,.int .i64 a.1)] [(11,(x.s.parts.map q0p).isEmpty,x.s.parts.map q0p),(17,(x.p.map q0h).isEmpty,x.p.map q0h),(15,a.2.isEmpty,a.2)] fun c=>q2r x (c.getD 0 .dead) (.tsl 13 (x.s.vals.map q0j)) (c.getD 1 .dead) (c.getD 2 .dead))
      (fun a=>a.1≤x.a.length∧a.2=(x.a.take a.1).map q03) (fun a=>x.a.length-a.1) (0,[]) (by
       simp only[qlm,hp,←hE2,List.isEmpty_nil,List.isEmpty_cons,q1c,q2v,q2P,List.length_cons,List.length_nil]
       rfl) ⟨Nat.zero_le _,by simp⟩ ?_
     rintro ⟨j,F⟩ ⟨hj,hF⟩
     simp only at hj hF
     rcases hFe:F with _ | ⟨f0,fs⟩
     all_goals
      simp only[qlm,q2r,hp,ep,←hE2,hFe,List.isEmpty_nil,List.isEmpty_cons,q1c,q2v,q2P,List.length_cons,List.length_nil,List.getD_cons_zero,List.getD_cons_succ,List.all_cons,List.all_nil,Bool.and_true,Bool.and_false,Bool.true_and,List.cons_append,List.nil_append]
      by_cases hlt2:j<x.a.length
      ·obtain ⟨y,hy⟩:=q06 hlt2
       have hym:=List.mem_of_getElem? hy
       have hy2:=q09 (g:=q03) hy
       have hr:=ih y (by have:=L.kids y hym; omega) (by omega)
       have hnew:F++[q03 y]=(x.a.take (j+1)).map q03:=by rw[hF,List.take_add_one,hy]; simp
       have hFl:F.length=j:=by rw[hF]; simp; omega
       rw[hFe] at hnew hFl
       simp only[List.length_cons,List.length_nil] at hFl
       rw[q01] at hy2 hr
       (repeat' first|simp (disch:=omega) only[go_sem,hy2,List.length_map,q0O,List.length_cons,List.length_nil]|refine q00 _ (hr) ?_|(apply spl<;>intro h<;>try simp (disch:=omega) only[go_sem,h]))
       refine ⟨(j+1,_++[q03 y]),?_,⟨hlt2,hnew⟩,by simp only; omega⟩
       simp only[qlm,q2r,hp,ep,←hE2,List.isEmpty_nil,List.isEmpty_cons,q1c,q2v,q2P,List.length_cons,List.length_nil,List.length_append,List.getD_cons_zero,List.getD_cons_succ,List.all_cons,List.all_nil,Bool.and_true,Bool.and_false,Bool.true_and,List.cons_append,List.nil_append]
       rw[q01 y]
       rfl
      ·have hjl:j=x.a.length:=by omega
       have hF2:F=x.a.map q03:=by rw[hF,hjl,List.take_length]
       have hFl:F.length=x.a.length:=by rw[hF2]; simp
       rw[hFe] at hFl hF2
       simp only[List.length_cons,List.length_nil] at hFl
       rw[←hF2]
       (repeat' first|simp (disch:=omega) only[go_sem,q0O,List.take_length,List.length_map,List.length_cons]|(apply spl<;>intro h<;>try simp (disch:=omega) only[go_sem,h]))
       all_goals first | rfl | (simp; done)
end Ago
set_option maxRecDepth 100000
set_option maxHeartbeats 4000000
namespace Ago
open Go (IntKind)
def qgk:Pat:=.mk ⟨0,0,0,0,0⟩ []
def q1n (l:List Sch):Sch:=.mk ⟨12,0,0,0,[],[],qgk,[]⟩ [] l
def q68 (p:Prt):Sch:=.mk ⟨4,0,0,0,[],[p],qgk,[]⟩ [] []
def q3l (a b:Int):Sch:=.mk ⟨5,0,a,b,[],[],qgk,[]⟩ [] []
def q2V (a b:Int) (e:Sch):Sch:=.mk ⟨9,0,a,b,[],[],qgk,[]⟩ [] [e]
def q6e (p:List (PK × Sch)):Sch:=.mk ⟨10,0,0,0,[],[],qgk,[]⟩ p [noneX]
def q35 (m:Int):Sch:=.mk ⟨3,m,0,0,[],[],qgk,[]⟩ [] []
def q4C (p q:Prt):Prt:=⟨if qe4 q.lo.num p.lo.num<0 then q.lo else p.lo,if 0<qe4 q.hi.num p.hi.num then q.hi else p.hi,if q.sort=0 then 0 else p.sort⟩
def q0K (f:Sch→Sch→Sch):List (PK × Sch)→List (PK × Sch)→List (PK × Sch)
 | [],[]=>[]
 | x::a,[]=>(⟨x.1.key,false⟩,x.2)::q0K f a []
 | [],y::b=>(⟨y.1.key,false⟩,y.2)::q0K f [] b
 | x::a,y::b=>
  if Go.Op.bytesLess x.1.key y.1.key=true then (⟨x.1.key,false⟩,x.2)::q0K f a (y::b)
  else if Go.Op.bytesLess y.1.key x.1.key=true then (⟨y.1.key,false⟩,y.2)::q0K f (x::a) b
  else (⟨x.1.key,x.1.req && y.1.req⟩,f x.2 y.2)::q0K f a b
termination_by a b=>a.length+b.length
def qrv (x:Sch):Sch:=x.a.headD noneX
def qnG (x:Sch):Prt:=x.s.parts.headD ⟨⟨false,⟨false,[],0⟩,false⟩,⟨false,⟨false,[],0⟩,false⟩,0⟩
def q2U (f:Sch→Sch→Sch) (x y:Sch):Sch:=
 if x.s.op=4 then q68 (q4C (qnG x) (qnG y))
 else if x.s.op=5 then q3l (min x.s.min y.s.min) (max x.s.max y.s.max)
 else if x.s.op=9 then q2V (min x.s.min y.s.min) (max x.s.max y.s.max) (f (qrv x) (qrv y))
 else if x.s.op=10 then q6e (q0K f x.p y.p)
 else x
def q2u (f:Sch→Sch→Sch):Option Sch→Option Sch→List Sch
 | some x,some y=>[q2U f x y]
 | some x,none=>[x]
 | none,some y=>[y]
 | none,none=>[]
def q1Y:Nat→Sch→Sch→Sch
 | 0,a,_=>a
 | n+1,a,b=>if a.s.op=2 then b else if b.s.op=2 then a else q1n ((List.range 8).flatMap fun (k:Nat)=>q2u (q1Y n) (kfM a (k:Int)) (kfM b (k:Int)))
inductive MemF:Sch→Prop where
 | kind (m:Int):MemF (q35 m)
 | num (p:Prt):q0Q p.lo.num=true→q0Q p.hi.num=true→MemF (q68 p)
 | text (a b:Int):MemF (q3l a b)
 | list0 (a b:Int):MemF (q2V a b noneX)
 | list (a b:Int) (l:List Sch):(∀ y,y∈l→MemF y)→MemF (q2V a b (q1n l))
 | map (p:List (PK × List Sch)):(∀ y,y∈p→∀ z,z∈y.2→MemF z)→MemF (q6e (p.map fun y=>(y.1,q1n y.2)))
def FamF (x:Sch):Prop:=∃ l,x=q1n l∧∀ y,y∈l→MemF y
def q8u (x:Sch):Prop:=x=noneX∨FamF x
end Ago
set_option maxRecDepth 100000
set_option maxHeartbeats 4000000
namespace Ago
open Go (IntKind)
section
variable {R:Nat→List AV→Heap→AV→Heap→Prop} {PR:Nat→List AV→AV→Prop}
def qqe (R:Nat→List AV→Heap→AV→Heap→Prop) (PR:Nat→List AV→AV→Prop) (s s':St) (ls:List (List AOper)):Prop:=∀ l,l∈ls→q0W R PR l (fun t=>t=s') s
theorem q33 {s s':St}:qqe R PR s s' []:=fun _ h=>by cases h
theorem q2o {s s':St} {l:List AOper} {ls:List (List AOper)} (h : @q0Y s ⟨q0W R PR l fun t=>t=s'⟩) (h2:qqe R PR s s' ls):qqe R PR s s' (l::ls):=fun x hx=>by
 unfold q0Y at h
 rcases List.mem_cons.1 hx with rfl | hx
 ·exact h
 ·exact h2 x hx
theorem q38 {k:Nat} {l:List AOper} {ls:List (List AOper)} {Q:Ex→St→Prop} {s:St} (s':St) (h:qqe R PR (s.keep k) s' (l::ls)) (h3 : @q0Y { s' with rb:=0 } ⟨Q .normal⟩):aw R PR (.draw k (l::ls)) Q s:=by
 unfold q0Y at h3
 exact ⟨s',by simp,h,h3⟩
end
def q8r (d:Dec):Prt:=⟨⟨true,d,false⟩,⟨true,d,false⟩,if 0≤d.exp then 1 else 0⟩
theorem qit (d:Dec):q0f CI 992 [q11 d] (q5N [q8r d]):=by
 have h1:=qnn (qi7 d)
 unfold q8r q5N
 refine q04 qiI rfl ?_
 unfold q11 at h1 ⊢
 by_cases h:0≤d.exp
 ·rw[decide_eq_true h] at h1
  rw[if_pos h]
  (repeat' first|simp (disch:=omega) only[go_sem,qiI,enter]|refine q00 _ (h1) ?_|(apply spl<;>intro h<;>try simp (disch:=omega) only[go_sem,h]))
  all_goals rfl
 ·rw[decide_eq_false h] at h1
  rw[if_neg h]
  (repeat' first|simp (disch:=omega) only[go_sem,qiI,enter]|refine q00 _ (h1) ?_|(apply spl<;>intro h<;>try simp (disch:=omega) only[go_sem,h]))
  all_goals rfl
theorem qhM (p q:Prt) (h1:q0Q p.lo.num=true) (h2:q0Q p.hi.num=true) (h3:q0Q q.lo.num=true) (h4:q0Q q.hi.num=true):q0f CI 1000 [q5N [p],q5N [q]] (q5N [q4C p q]):=by
 have c1:=qnn (qaX q.lo.num p.lo.num h3 h1)
 have c2:=qnn (qaX q.hi.num p.hi.num h4 h2)
 unfold q4C
 unfold q11 at c1 c2
 generalize qe4 q.lo.num p.lo.num=k1 at *
 generalize qe4 q.hi.num p.hi.num=k2 at *
 refine q04 qe3 rfl ?_
 simp only[q5N,q0p,List.map_cons,List.map_nil]
 (repeat' first|simp (disch:=omega) only[go_sem,qe3,enter]|(apply spl<;>intro h<;>try simp (disch:=omega) only[go_sem,h]))
 refine q38 ?s1 ?g1 ?g2
 rotate_left
 case g1=>
  repeat' first | exact q33 | refine q2o ?_ ?_
  all_goals
   (repeat' first|simp (disch:=omega) only[go_sem,q4j]|(apply spl<;>intro h<;>try simp (disch:=omega) only[go_sem,h]))
   all_goals first | rfl | omega
 case g2=>
  by_cases e1:k1<0<;>by_cases e2:0<k2<;>by_cases e3:q.sort=0
  all_goals
   simp only[e1,e2,e3,if_true,if_false]
   (repeat' first|simp (disch:=omega) only[go_sem,e1,e2,e3]|refine q00 _ (c1) ?_|refine q00 _ (c2) ?_|(apply spl<;>intro h<;>try simp (disch:=omega) only[go_sem,h]))
   all_goals first | rfl | trace_state
end Ago
set_option maxRecDepth 100000
set_option maxHeartbeats 4000000
namespace Ago
open Go (IntKind)
theorem q3t (m:Int):q2H (q35 m)≠2∧q2H (q35 m)≠4∧q2H (q35 m)≠6∧q2H (q35 m)≠7:=by
 unfold q2H q35 Sch.s
 simp only[if_true]
 repeat' split
 all_goals omega
theorem qeK {l:List Sch} (h : ∀ y,y∈l→MemF y):FamF (q1n l):=⟨l,rfl,h⟩
theorem qet {p:List (PK × Sch)} (h : ∀ y,y∈p→FamF y.2):MemF (q6e p):=by
 obtain ⟨q,rfl,hq⟩ : ∃ q:List (PK × List Sch),p=q.map (fun y=>(y.1,q1n y.2))∧∀ y,y∈q→∀ z,z∈y.2→MemF z:=by
  induction p with
  | nil=>exact ⟨[],rfl,fun y hy=>by cases hy⟩
  | cons x p ih=>
   obtain ⟨l,h1,h2⟩:=h x (List.mem_cons_self ..)
   obtain ⟨q,h3,h4⟩:=ih fun y hy=>h y (List.mem_cons_of_mem _ hy)
   refine ⟨(x.1,l)::q,?_,fun y hy=>?_⟩
   ·rw[List.map_cons,←h3,←h1]
   ·rcases List.mem_cons.1 hy with rfl | hy
    ·exact h2
    ·exact h4 y hy
 exact .map q hq
theorem qek {p:List (PK × Sch)} (h:MemF (q6e p)) : ∀ y,y∈p→FamF y.2:=by
 generalize hx:q6e p=x at h
 cases h with
 | map q hq=>
  have hp:p=q.map fun y=>(y.1,q1n y.2):=congrArg Sch.p hx
  rw[hp]
  intro y hy
  obtain ⟨z,hz,rfl⟩:=List.mem_map.1 hy
  exact ⟨z.2,rfl,hq z hz⟩
 | _=>cases congrArg (fun x=>x.s.op) hx
def qhJ (f:Sch→Sch→Sch):Prop:=∀ a b,q8u a→q8u b→q8u (f a b)∧(FamF a→FamF b→FamF (f a b))
theorem q39 {f:Sch→Sch→Sch} (hf:qhJ f) : ∀ (n:Nat) (p q:List (PK × Sch)),p.length+q.length≤n→(∀ y,y∈p→FamF y.2)→(∀ y,y∈q→FamF y.2)→∀ y,y∈q0K f p q→FamF y.2
 | n,[],[],_,_,_=>fun y hy=>by
  rw[q0K] at hy
  cases hy
 | 0,x::p,q,hn,_,_=>by simp at hn
 | 0,[],x::q,hn,_,_=>by simp at hn
 | n+1,x::p,[],hn,hp,hq=>fun y hy=>by
  rw[q0K] at hy
  rcases List.mem_cons.1 hy with rfl | hy
  ·exact hp x (List.mem_cons_self ..)
  ·exact q39 hf n p [] (by simp at hn ⊢; omega) (fun y h=>hp y (List.mem_cons_of_mem _ h)) hq y hy
 | n+1,[],x::q,hn,hp,hq=>fun y hy=>by
  rw[q0K] at hy
  rcases List.mem_cons.1 hy with rfl | hy
  ·exact hq x (List.mem_cons_self ..)
  ·exact q39 hf n [] q (by simp at hn ⊢; omega) hp (fun y h=>hq y (List.mem_cons_of_mem _ h)) y hy
 | n+1,x::p,z::q,hn,hp,hq=>fun y hy=>by
  rw[q0K] at hy
  simp only[List.length_cons] at hn
  split at hy
  ·rcases List.mem_cons.1 hy with rfl | hy
   ·exact hp x (List.mem_cons_self ..)
   ·exact q39 hf n p (z::q) (by simp; omega) (fun y h=>hp y (List.mem_cons_of_mem _ h)) hq y hy
  ·split at hy
   ·rcases List.mem_cons.1 hy with rfl | hy
    ·exact hq z (List.mem_cons_self ..)
    ·exact q39 hf n (x::p) q (by simp; omega) hp (fun y h=>hq y (List.mem_cons_of_mem _ h)) y hy
   ·rcases List.mem_cons.1 hy with rfl | hy
    ·have h1:=hp x (List.mem_cons_self ..)
     have h2:=hq z (List.mem_cons_self ..)
     exact (hf _ _ (.inr h1) (.inr h2)).2 h1 h2
    ·exact q39 hf n p q (by omega) (fun y h=>hp y (List.mem_cons_of_mem _ h)) (fun y h=>hq y (List.mem_cons_of_mem _ h)) y hy
theorem qc6 {a b:Int} {e:Sch} (h:q8u e):MemF (q2V a b e):=by
 rcases h with rfl | ⟨l,rfl,h⟩
 ·exact .list0 a b
 ·exact .list a b l h
inductive Two:Sch→Sch→Prop where
 | kind (m:Int) (y:Sch):Two (q35 m) y
 | num (p q:Prt):q0Q p.lo.num=true→q0Q p.hi.num=true→q0Q q.lo.num=true→q0Q q.hi.num=true→Two (q68 p) (q68 q)
 | text (a b c d:Int):Two (q3l a b) (q3l c d)
 | list (a b c d:Int) (x y:Sch):q8u x→q8u y→Two (q2V a b x) (q2V c d y)
 | map (p q:List (PK × Sch)):(∀ y,y∈p→FamF y.2)→(∀ y,y∈q→FamF y.2)→Two (q6e p) (q6e q)
theorem qeb {x y:Sch} (hx:MemF x) (hy:MemF y) (hk:q2H x=q2H y):Two x y:=by
 cases hx with
 | kind m=>exact .kind m y
 | num p h1 h2=>
  cases hy with
  | num q h3 h4=>exact .num p q h1 h2 h3 h4
  | kind m=>exact absurd hk.symm (q3t m).1
  | _=>cases hk
 | text a b=>
  cases hy with
  | text c d=>exact .text a b c d
  | kind m=>exact absurd hk.symm (q3t m).2.1
  | _=>cases hk
 | list0 a b=>
  cases hy with
  | list0 c d=>exact .list a b c d _ _ (.inl rfl) (.inl rfl)
  | list c d l hl=>exact .list a b c d _ _ (.inl rfl) (.inr ⟨l,rfl,hl⟩)
  | kind m=>exact absurd hk.symm (q3t m).2.2.1
  | _=>cases hk
 | list a b l hl=>
  cases hy with
  | list0 c d=>exact .list a b c d _ _ (.inr ⟨l,rfl,hl⟩) (.inl rfl)
  | list c d l' hl'=>exact .list a b c d _ _ (.inr ⟨l,rfl,hl⟩) (.inr ⟨l',rfl,hl'⟩)
  | kind m=>exact absurd hk.symm (q3t m).2.2.1
  | _=>cases hk
 | map p hp=>
  cases hy with
  | map q hq=>exact .map _ _ (qek (.map p hp)) (qek (.map q hq))
  | kind m=>exact absurd hk.symm (q3t m).2.2.2
  | _=>cases hk
theorem qc3 {p q:Prt} (h1:q0Q p.lo.num=true) (h2:q0Q p.hi.num=true) (h3:q0Q q.lo.num=true) (h4:q0Q q.hi.num=true):q0Q (q4C p q).lo.num=true∧q0Q (q4C p q).hi.num=true:=by
 unfold q4C
 refine ⟨?_,?_⟩
 ·show q0Q (if qe4 q.lo.num p.lo.num<0 then q.lo else p.lo).num=true
  split<;>assumption
 ·show q0Q (if 0<qe4 q.hi.num p.hi.num then q.hi else p.hi).num=true
  split<;>assumption
theorem q5U (f:Sch→Sch→Sch) (p q:Prt):q2U f (q68 p) (q68 q)=q68 (q4C p q):=(rfl)
theorem q6r (f:Sch→Sch→Sch) (a b c d:Int):q2U f (q3l a b) (q3l c d)=q3l (min a c) (max b d):=(rfl)
theorem q51 (f:Sch→Sch→Sch) (a b c d:Int) (x y:Sch):q2U f (q2V a b x) (q2V c d y)=q2V (min a c) (max b d) (f x y):=(rfl)
theorem q5X (f:Sch→Sch→Sch) (p q:List (PK × Sch)):q2U f (q6e p) (q6e q)=q6e (q0K f p q):=(rfl)
theorem q6w (f:Sch→Sch→Sch) (m:Int) (y:Sch):q2U f (q35 m) y=q35 m:=(rfl)
theorem qgq {f:Sch→Sch→Sch} (hf:qhJ f) {x y:Sch} (h:Two x y):MemF (q2U f x y):=by
 cases h with
 | kind m y=>exact .kind m
 | num p q h1 h2 h3 h4=>
  rw[q5U]
  exact .num _ (qc3 h1 h2 h3 h4).1 (qc3 h1 h2 h3 h4).2
 | text a b c d=>exact .text _ _
 | list a b c d x y hx hy=>
  rw[q51]
  exact qc6 (hf x y hx hy).1
 | map p q hp hq=>
  rw[q5X]
  exact qet (q39 hf _ p q (Nat.le_refl _) hp hq)
theorem q1l {x y:Sch} {k:Int} (h:kfM x k=some y):y∈x.a∧q2H y=k:=by
 unfold kfM at h
 exact ⟨List.mem_of_find?_eq_some h,by simpa using List.find?_some h⟩
theorem qh7 {f:Sch→Sch→Sch} (hf:qhJ f) {a b:Sch} (ha : ∀ y,y∈a.a→MemF y) (hb : ∀ y,y∈b.a→MemF y) (k:Int) : ∀ y,y∈q2u f (kfM a k) (kfM b k)→MemF y:=by
 intro y hy
 cases h1:kfM a k with
 | none=>
  cases h2:kfM b k with
  | none=>rw[h1,h2] at hy; cases hy
  | some v=>
   rw[h1,h2] at hy
   obtain rfl:y=v:=by simpa [q2u] using hy
   exact hb _ (q1l h2).1
 | some u=>
  cases h2:kfM b k with
  | none=>
   rw[h1,h2] at hy
   obtain rfl:y=u:=by simpa [q2u] using hy
   exact ha _ (q1l h1).1
  | some v=>
   rw[h1,h2] at hy
   obtain rfl:y=q2U f u v:=by simpa [q2u] using hy
   exact qgq hf (qeb (ha _ (q1l h1).1) (hb _ (q1l h2).1) ((q1l h1).2.trans (q1l h2).2.symm))
theorem q52 (n:Nat) (b:Sch):q1Y (n+1) noneX b=b:=(rfl)
theorem q2J (n:Nat) (l:List Sch):q1Y (n+1) (q1n l) noneX=q1n l:=(rfl)
theorem q66 (n:Nat) (l m:List Sch):q1Y (n+1) (q1n l) (q1n m)=q1n ((List.range 8).flatMap fun (k:Nat)=>q2u (q1Y n) (kfM (q1n l) (k:Int)) (kfM (q1n m) (k:Int))):=(rfl)
theorem qbA : ¬ FamF noneX:=by
 rintro ⟨l,h,_⟩
 cases congrArg (fun x=>x.s.op) h
theorem q7N : ∀ n,qhJ (q1Y n)
 | 0=>fun a b ha hb=>⟨ha,fun h _=>h⟩
 | n+1=>fun a b ha hb=>by
  rcases ha with rfl | ⟨l,rfl,hl⟩
  ·rw[q52]
   exact ⟨hb,fun h _=>absurd h qbA⟩
  ·rcases hb with rfl | ⟨m,rfl,hm⟩
   ·rw[q2J]
    exact ⟨.inr ⟨l,rfl,hl⟩,fun h _=>h⟩
   ·rw[q66]
    have:FamF (q1n ((List.range 8).flatMap fun (k:Nat)=>q2u (q1Y n) (kfM (q1n l) (k:Int)) (kfM (q1n m) (k:Int)))):=qeK fun y hy=>by
     obtain ⟨k,_,h⟩:=List.mem_flatMap.1 hy
     exact qh7 (q7N n) (a:=q1n l) (b:=q1n m) hl hm k y h
    exact ⟨.inr this,fun _ _=>this⟩
end Ago
set_option maxRecDepth 100000
set_option maxHeartbeats 4000000
namespace Ago
open Go (IntKind)
def sb (l:List Sch):Nat:=AV.bulks (l.map q03)
def pb (l:List (PK × Sch)):Nat:=AV.bulks (l.map q0h)
theorem q3u (x:Sch) (l:List Sch):sb (x::l)=x.bulk+sb l:=(rfl)
theorem q3V (l m:List Sch):sb (l++m)=sb l+sb m:=by
 unfold sb
 rw[List.map_append,q2Q]
theorem q91 (x:PK × Sch):(q0h x).bulk=x.2.bulk+x.1.key.length+2:=by
 unfold Sch.bulk q0h
 rw[q01]
 simp [AV.bulk,AV.bulks,AV.cells]
 omega
theorem q2W (x:PK × Sch) (l:List (PK × Sch)):pb (x::l)=x.2.bulk+x.1.key.length+2+pb l:=by
 show (q0h x).bulk+pb l=_
 rw[q91]
theorem q5F (l:List Sch):(q1n l).bulk=sb l+16:=by
 rw[Sch.bulk_eq]
 simp [q1n,Sch.s,Sch.p,Sch.a,qgk,Pat.a,Pat.s,AV.bulks,sb]
theorem q2e:noneX.bulk=16:=by
 rw[Sch.bulk_eq]
 simp [noneX,Sch.s,Sch.p,Sch.a,Pat.a,Pat.s,AV.bulks]
theorem q65 (p:Prt):(q68 p).bulk=p.lo.num.digits.length+p.hi.num.digits.length+28:=by
 rw[Sch.bulk_eq]
 simp [q68,Sch.s,Sch.p,Sch.a,qgk,Pat.a,Pat.s,AV.bulks,q7I]
theorem q3L (a b:Int):(q3l a b).bulk=16:=by
 rw[Sch.bulk_eq]
 simp [q3l,Sch.s,Sch.p,Sch.a,qgk,Pat.a,Pat.s,AV.bulks]
theorem q94 (a:Int):(q35 a).bulk=16:=by
 rw[Sch.bulk_eq]
 simp [q35,Sch.s,Sch.p,Sch.a,qgk,Pat.a,Pat.s,AV.bulks]
theorem q3b (a b:Int) (e:Sch):(q2V a b e).bulk=e.bulk+16:=by
 have:(q03 e).bulk=e.bulk:=rfl
 rw[Sch.bulk_eq]
 simp [q2V,Sch.s,Sch.p,Sch.a,qgk,Pat.a,Pat.s,AV.bulks,this]
theorem q3P (p:List (PK × Sch)):(q6e p).bulk=pb p+32:=by
 have:(q03 noneX).bulk=16:=q2e
 rw[Sch.bulk_eq]
 simp [q6e,Sch.s,Sch.p,Sch.a,qgk,Pat.a,Pat.s,AV.bulks,this,pb]
theorem qdy (p q:Prt):(q68 (q4C p q)).bulk≤(q68 p).bulk+(q68 q).bulk:=by
 rw[q65,q65,q65]
 have h1:(q4C p q).lo.num.digits.length≤p.lo.num.digits.length+q.lo.num.digits.length:=by
  show (if qe4 q.lo.num p.lo.num<0 then q.lo else p.lo).num.digits.length≤_
  split<;>omega
 have h2:(q4C p q).hi.num.digits.length≤p.hi.num.digits.length+q.hi.num.digits.length:=by
  show (if 0<qe4 q.hi.num p.hi.num then q.hi else p.hi).num.digits.length≤_
  split<;>omega
 omega
def qc2 (f:Sch→Sch→Sch):Prop:=∀ a b,q8u a→q8u b→(f a b).bulk≤a.bulk+b.bulk
theorem q2z {f:Sch→Sch→Sch} (hf:qc2 f) : ∀ (n:Nat) (p q:List (PK × Sch)),p.length+q.length≤n→(∀ y,y∈p→FamF y.2)→(∀ y,y∈q→FamF y.2)→pb (q0K f p q)≤pb p+pb q
 | n,[],[],_,_,_=>by
  rw[q0K]
  show 0≤_
  omega
 | 0,x::p,q,hn,_,_=>by simp at hn
 | 0,[],x::q,hn,_,_=>by simp at hn
 | n+1,x::p,[],hn,hp,hq=>by
  have ih:=q2z hf n p [] (by simp at hn ⊢; omega) (fun y h=>hp y (List.mem_cons_of_mem _ h)) hq
  rw[q0K]
  rw[q2W,q2W]
  show x.2.bulk+x.1.key.length+2+_≤_
  omega
 | n+1,[],x::q,hn,hp,hq=>by
  have ih:=q2z hf n [] q (by simp at hn ⊢; omega) hp (fun y h=>hq y (List.mem_cons_of_mem _ h))
  rw[q0K]
  rw[q2W,q2W]
  show x.2.bulk+x.1.key.length+2+_≤_
  omega
 | n+1,x::p,z::q,hn,hp,hq=>by
  simp only[List.length_cons] at hn
  rw[q0K]
  split
  ·have ih:=q2z hf n p (z::q) (by simp; omega) (fun y h=>hp y (List.mem_cons_of_mem _ h)) hq
   rw[q2W,q2W x p]
   show x.2.bulk+x.1.key.length+2+_≤_
   omega
  ·split
   ·have ih:=q2z hf n (x::p) q (by simp; omega) hp (fun y h=>hq y (List.mem_cons_of_mem _ h))
    rw[q2W,q2W z q]
    show z.2.bulk+z.1.key.length+2+_≤_
    omega
   ·have ih:=q2z hf n p q (by omega) (fun y h=>hp y (List.mem_cons_of_mem _ h)) (fun y h=>hq y (List.mem_cons_of_mem _ h))
    have h3:=hf x.2 z.2 (.inr (hp x (List.mem_cons_self ..))) (.inr (hq z (List.mem_cons_self ..)))
    rw[q2W,q2W,q2W]
    show (f x.2 z.2).bulk+x.1.key.length+2+_≤_
    omega
theorem qeS {f:Sch→Sch→Sch} (hf:qc2 f) {x y:Sch} (h:Two x y):(q2U f x y).bulk≤x.bulk+y.bulk:=by
 cases h with
 | kind m y=>
  rw[q6w]
  omega
 | num p q h1 h2 h3 h4=>
  rw[q5U]
  exact qdy p q
 | text a b c d=>
  rw[q6r,q3L,q3L,q3L]
  omega
 | list a b c d x y hx hy=>
  rw[q51,q3b,q3b,q3b]
  have:=hf x y hx hy
  omega
 | map p q hp hq=>
  rw[q5X,q3P,q3P,q3P]
  have:=q2z hf _ p q (Nat.le_refl _) hp hq
  omega
def ob:Option Sch→Nat
 | none=>0
 | some x=>x.bulk
theorem qiu (c:Int) (B:Nat) : ∀ ks:List Nat,ks.Nodup→(ks.map fun (k:Nat)=>if c=(k:Int) then B else 0).sum≤B
 | [],_=>by simp
 | k::ks,h=>by
  rw[List.nodup_cons] at h
  rw[List.map_cons,List.sum_cons]
  by_cases hc:c=(k:Int)
  ·have:(ks.map fun (j:Nat)=>if c=(j:Int) then B else 0).sum=0:=by
    have : ∀ l:List Nat,k∉l→(l.map fun (j:Nat)=>if c=(j:Int) then B else 0).sum=0:=by
     intro l
     induction l with
     | nil=>simp
     | cons j l ih=>
      intro hj
      rw[List.map_cons,List.sum_cons,ih (fun h=>hj (List.mem_cons_of_mem _ h)),if_neg]
      intro e
      exact hj (by rw[show k=j by omega]; exact List.mem_cons_self ..)
    exact this ks h.1
   rw[this,if_pos hc]
   omega
  ·rw[if_neg hc]
   have:=qiu c B ks h.2
   omega
theorem qab (ks:List Nat) (hk:ks.Nodup) : ∀ l:List Sch,(ks.map fun (k:Nat)=>ob (kfM (q1n l) (k:Int))).sum≤sb l
 | []=>by
  have : ∀ k:Nat,ob (kfM (q1n []) (k:Int))=0:=fun k=>rfl
  simp only[this]
  have : ∀ ks:List Nat,(ks.map fun _=>0).sum=0:=by
   intro ks
   induction ks with
   | nil=>rfl
   | cons k ks ih=>simpa using ih
  rw[this]
  omega
 | y::l=>by
  have ih:=qab ks hk l
  have hy:=qiu (q2H y) y.bulk ks hk
  have h1 : ∀ k:Nat,ob (kfM (q1n (y::l)) (k:Int))≤(if q2H y=(k:Int) then y.bulk else 0)+ob (kfM (q1n l) (k:Int)):=fun k=>by
   show ob ((y::l).find? fun y=>decide (q2H y=(k:Int)))≤_
   rw[List.find?_cons]
   by_cases h:q2H y=(k:Int)
   ·rw[if_pos h,decide_eq_true h]
    show y.bulk≤_
    omega
   ·rw[if_neg h,decide_eq_false h]
    show ob (l.find? fun y=>decide (q2H y=(k:Int)))≤0+ob (l.find? fun y=>decide (q2H y=(k:Int)))
    omega
  have h2 : ∀ js:List Nat,(js.map fun (k:Nat)=>ob (kfM (q1n (y::l)) (k:Int))).sum≤(js.map fun (k:Nat)=>if q2H y=(k:Int) then y.bulk else 0).sum+(js.map fun (k:Nat)=>ob (kfM (q1n l) (k:Int))).sum:=by
   intro js
   induction js with
   | nil=>simp
   | cons k js ih2=>
    simp only[List.map_cons,List.sum_cons]
    have:=h1 k
    omega
  have:=h2 ks
  rw[q3u]
  omega
theorem qfj {f:Sch→Sch→Sch} (hf:qc2 f) {a b:Sch} (ha : ∀ y,y∈a.a→MemF y) (hb : ∀ y,y∈b.a→MemF y) (k:Int):sb (q2u f (kfM a k) (kfM b k))≤ob (kfM a k)+ob (kfM b k):=by
 cases h1:kfM a k with
 | none=>
  cases h2:kfM b k with
  | none=>
   show 0≤_
   omega
  | some v=>
   show v.bulk+0≤0+v.bulk
   omega
 | some u=>
  cases h2:kfM b k with
  | none=>
   show u.bulk+0≤u.bulk+0
   omega
  | some v=>
   have:=qeS hf (qeb (ha _ (q1l h1).1) (hb _ (q1l h2).1) ((q1l h1).2.trans (q1l h2).2.symm))
   show (q2U f u v).bulk+0≤u.bulk+v.bulk
   omega
theorem q9B : ∀ n,qc2 (q1Y n)
 | 0=>fun a b ha hb=>by
  show a.bulk≤_
  omega
 | n+1=>fun a b ha hb=>by
  rcases ha with rfl | ⟨l,rfl,hl⟩
  ·rw[q52]
   omega
  ·rcases hb with rfl | ⟨m,rfl,hm⟩
   ·rw[q2J]
    omega
   ·rw[q66,q5F,q5F,q5F]
    have h1 : ∀ ks:List Nat,sb (ks.flatMap fun (k:Nat)=>q2u (q1Y n) (kfM (q1n l) (k:Int)) (kfM (q1n m) (k:Int)))≤(ks.map fun (k:Nat)=>ob (kfM (q1n l) (k:Int))).sum+(ks.map fun (k:Nat)=>ob (kfM (q1n m) (k:Int))).sum:=by
     intro ks
     induction ks with
     | nil=>
      show 0≤_
      omega
     | cons k ks ih=>
      rw[List.flatMap_cons,q3V]
      simp only[List.map_cons,List.sum_cons]
      have:=qfj (q9B n) (a:=q1n l) (b:=q1n m) hl hm k
      omega
    have h2:=h1 (List.range 8)
    have h3:=qab (List.range 8) List.nodup_range l
    have h4:=qab (List.range 8) List.nodup_range m
    omega
def jn:Nat:=2^24
theorem qmz:jn=2^24:=(rfl)
def jM (a b:Sch):Sch:=q1Y jn a b
theorem qdY:qhJ jM:=q7N jn
theorem qn6:qc2 jM:=q9B jn
attribute [irreducible] jn
def ofM:Nat→V→Sch
 | 0,_=>noneX
 | n+1,v=>q1n [if v.s.kind=2 then q68 (q8r v.s.num) else if v.s.kind=4 then q3l (qcq v.s.text:Nat) (qcq v.s.text:Nat) else if v.s.kind=6 then q2V v.l.length v.l.length ((v.l.map (ofM n)).foldl jM noneX)
   else if v.s.kind=7 then q6e ((q30 v.f).map fun y=>(⟨y.1,true⟩,ofM n y.2)) else q35 (IntKind.i64.wrap (1 * 2^min v.s.kind.toNat 64))]
theorem qdm : ∀ (n m:Nat) (v:V),ofM n (q13 m v)=ofM n v
 | 0,_,_=>rfl
 | n+1,0,v=>rfl
 | n+1,m+1,v=>by
  have e1:(v.l.map (q13 m)).map (ofM n)=v.l.map (ofM n):=by
   rw[List.map_map]
   exact List.map_congr_left fun x _=>qdm n m x
  have e2:q30 ((q30 v.f).map fun y=>(y.1,q13 m y.2))=(q30 v.f).map fun y=>(y.1,q13 m y.2):=by
   rw[qkp,qmb (qeh v.f)]
  have e3:((q30 v.f).map fun y=>(y.1,q13 m y.2)).map (fun y=>((⟨y.1,true⟩,ofM n y.2):PK × Sch))=(q30 v.f).map fun y=>(⟨y.1,true⟩,ofM n y.2):=by
   rw[List.map_map]
   refine List.map_congr_left fun x _=>?_
   show ((⟨x.1,true⟩,ofM n (q13 m x.2)):PK × Sch)=_
   rw[qdm n m x.2]
  show q1n [if v.s.kind=2 then q68 (q8r v.s.num) else if v.s.kind=4 then q3l (qcq v.s.text:Nat) (qcq v.s.text:Nat) else if v.s.kind=6 then q2V (v.l.map (q13 m)).length (v.l.map (q13 m)).length (((v.l.map (q13 m)).map (ofM n)).foldl jM noneX)
   else if v.s.kind=7 then q6e ((q30 ((q30 v.f).map fun y=>(y.1,q13 m y.2))).map fun y=>(⟨y.1,true⟩,ofM n y.2)) else q35 (IntKind.i64.wrap (1 * 2^min v.s.kind.toNat 64))]=_
  rw[e1,e2,e3,List.length_map]
  rfl
theorem q4B {l:List Sch} : ∀ {e:Sch},q8u e→(∀ y,y∈l→FamF y)→q8u (l.foldl jM e):=by
 induction l with
 | nil=>intro e h _; exact h
 | cons x l ih=>
  intro e h hl
  exact ih (qdY e x h (.inr (hl x (List.mem_cons_self ..)))).1 fun y hy=>hl y (List.mem_cons_of_mem _ hy)
theorem q2b {l:List Sch} : ∀ {e:Sch},q8u e→(∀ y,y∈l→FamF y)→(l.foldl jM e).bulk≤e.bulk+sb l:=by
 induction l with
 | nil=>intro e h _; show e.bulk≤e.bulk+0; omega
 | cons x l ih=>
  intro e h hl
  have h1:=ih (qdY e x h (.inr (hl x (List.mem_cons_self ..)))).1 fun y hy=>hl y (List.mem_cons_of_mem _ hy)
  have h2:=qn6 e x h (.inr (hl x (List.mem_cons_self ..)))
  rw[q3u]
  show (l.foldl jM (jM e x)).bulk≤_
  omega
inductive Fit:Nat→V→Prop where
 | mk {n:Nat} {v:V} (h1:0≤v.s.kind∧v.s.kind≤7) (h2:q0Q v.s.num=true) (h3:utf v.s.text=true) (hk : ∀ x,x∈v.kids→Fit n x):Fit (n+1) v
theorem Fit.kids {n:Nat} {v:V} (h:Fit (n+1) v) : ∀ x,x∈v.kids→Fit n x:=by
 cases h with
 | mk _ _ _ hk=>exact hk
theorem Fit.num {n:Nat} {v:V} (h:Fit n v):q0Q v.s.num=true:=by
 cases h with
 | mk _ h _ _=>exact h
theorem Fit.kind {n:Nat} {v:V} (h:Fit n v):0≤v.s.kind∧v.s.kind≤7:=by
 cases h with
 | mk h _ _ _=>exact h
theorem Fit.text {n:Nat} {v:V} (h:Fit n v):utf v.s.text=true:=by
 cases h with
 | mk _ _ h _=>exact h
theorem qdM {v:V} (h:ownM v=true):0≤v.s.kind∧v.s.kind≤7:=by
 unfold ownM at h
 simp only[Bool.and_eq_true,decide_eq_true_eq] at h
 omega
theorem Gd.fit : ∀ {n:Nat} {v:V},Gd n v→Fit n v
 | 0,v,h=>by cases h
 | n+1,v,h=>by
  have hk:=h.kids
  cases h with
  | mk h _=>
   obtain ⟨a,b,_,c,_⟩:=qag h
   exact .mk (qdM a) b c fun x hx=>(hk x hx).fit
theorem Fit.sort : ∀ (m:Nat) {n:Nat} {v:V},Fit n v→Fit n (q13 m v)
 | 0,_,_,h=>h
 | m+1,0,v,h=>by cases h
 | m+1,n+1,v,h=>by
  refine .mk h.kind h.num h.text fun x hx=>?_
  have hx:x∈(if v.s.kind=7 then ((q30 v.f).map fun y=>(y.1,q13 m y.2)).map (·.2) else v.l.map (q13 m)):=hx
  by_cases h7:v.s.kind=7
  ·rw[if_pos h7,List.map_map] at hx
   obtain ⟨y,hy,rfl⟩:=List.mem_map.1 hx
   exact Fit.sort m (h.kids y.2 (by unfold V.kids; rw[if_pos h7]; exact List.mem_map.2 ⟨y,(q2q v.f).mem_iff.1 hy,rfl⟩))
  ·rw[if_neg h7] at hx
   obtain ⟨y,hy,rfl⟩:=List.mem_map.1 hx
   exact Fit.sort m (h.kids y (by unfold V.kids; rw[if_neg h7]; exact hy))
theorem q4l : ∀ (n k:Nat) (v:V),Fit k v→k≤n→FamF (ofM n v)
 | 0,k,v,h,hk=>by
  cases h
  omega
 | n+1,0,v,h,hk=>by cases h
 | n+1,k+1,v,h,hk=>by
  have hkids:=h.kids
  have hone:=h.num
  refine qeK fun y hy=>?_
  rw[List.mem_singleton.1 hy]
  split
  ·exact .num _ hone hone
  ·split
   ·exact .text _ _
   ·split
    ·refine qc6 (q4B (.inl rfl) fun y hy=>?_)
     obtain ⟨x,hx,rfl⟩:=List.mem_map.1 hy
     exact q4l n k x (hkids x (by unfold V.kids; rw[if_neg (by omega)]; exact hx)) (by omega)
    ·split
     ·refine qet fun y hy=>?_
      obtain ⟨x,hx,rfl⟩:=List.mem_map.1 hy
      exact q4l n k x.2 (hkids x.2 (by unfold V.kids; rw[if_pos (by assumption)]; exact List.mem_map.2 ⟨x,(q2q v.f).mem_iff.1 hx,rfl⟩)) (by omega)
     ·exact .kind _
theorem q5h : ∀ (n k:Nat) (v:V),Fit k v→k≤n→(ofM n v).bulk≤4 * v.bulk
 | 0,k,v,h,hk=>by
  cases h
  omega
 | n+1,0,v,h,hk=>by cases h
 | n+1,k+1,v,h,hk=>by
  have hkids:=h.kids
  have hb:=v.bulk_eq
  unfold ofM
  rw[q5F,q3u]
  show _+0+16≤_
  split
  ·rw[q65]
   show v.s.num.digits.length+v.s.num.digits.length+28+0+16≤_
   omega
  ·split
   ·rw[q3L]
    omega
   ·split
    ·rw[q3b]
     have h1:=q2b (l:=v.l.map (ofM n)) (e:=noneX) (.inl rfl) fun y hy=>by
      obtain ⟨x,hx,rfl⟩:=List.mem_map.1 hy
      exact q4l n k x (hkids x (by unfold V.kids; rw[if_neg (by omega)]; exact hx)) (by omega)
     have h2 : ∀ l:List V,(∀ x,x∈l→(ofM n x).bulk≤4 * x.bulk)→sb (l.map (ofM n))≤4 * AV.bulks (l.map q0j):=by
      intro l
      induction l with
      | nil=>intro _; show 0≤_; omega
      | cons x l ih=>
       intro hl
       have a1:=ih fun y hy=>hl y (List.mem_cons_of_mem _ hy)
       have a2:=hl x (List.mem_cons_self ..)
       rw[List.map_cons,q3u]
       simp only[List.map_cons,AV.bulks]
       have a3:(q0j x).bulk=x.bulk:=rfl
       omega
     have h3:=h2 v.l fun x hx=>q5h n k x (hkids x (by unfold V.kids; rw[if_neg (by omega)]; exact hx)) (by omega)
     rw[q2e] at h1
     omega
    ·split
     ·rw[q3P]
      have h2 : ∀ l:List (List UInt8 × V),(∀ x,x∈l→(ofM n x.2).bulk≤4 * x.2.bulk)→pb (l.map fun y=>(⟨y.1,true⟩,ofM n y.2))≤4 * AV.bulks (l.map q0r):=by
       intro l
       induction l with
       | nil=>intro _; show 0≤_; omega
       | cons x l ih=>
        intro hl
        have a1:=ih fun y hy=>hl y (List.mem_cons_of_mem _ hy)
        have a2:=hl x (List.mem_cons_self ..)
        rw[List.map_cons,q2W]
        simp only[List.map_cons,AV.bulks,q9n]
        omega
      have h3:=h2 (q30 v.f) fun x hx=>q5h n k x.2 (hkids x.2 (by unfold V.kids; rw[if_pos (by assumption)]; exact List.mem_map.2 ⟨x,(q2q v.f).mem_iff.1 hx,rfl⟩)) (by omega)
      have h4:AV.bulks ((q30 v.f).map q0r)=AV.bulks (v.f.map q0r):=q97 ((q2q v.f).map _)
      omega
     ·rw[q94]
      omega
end Ago
set_option maxRecDepth 100000
set_option maxHeartbeats 4000000
namespace Ago
open Go (IntKind)
theorem q3i (p:Prt):q03 (q68 p) = .agg [.int .i64 4,.int .i64 0,.int .i64 0,.int .i64 0,.str [],.tsl 11 [q0p p],.int .i64 0,.int .i64 0,.int .i64 0,.int .i64 0,.int .i64 0,.tsl 6 [],.tsl 13 [],.tsl 17 [],.tsl 15 []]:=by
 rw[q01]
 rfl
theorem q34 (a b:Int):q03 (q3l a b) = .agg [.int .i64 5,.int .i64 0,.int .i64 a,.int .i64 b,.str [],.tsl 11 [],.int .i64 0,.int .i64 0,.int .i64 0,.int .i64 0,.int .i64 0,.tsl 6 [],.tsl 13 [],.tsl 17 [],.tsl 15 []]:=by
 rw[q01]
 rfl
theorem q2Z (a b:Int) (e:Sch):q03 (q2V a b e) = .agg [.int .i64 9,.int .i64 0,.int .i64 a,.int .i64 b,.str [],.tsl 11 [],.int .i64 0,.int .i64 0,.int .i64 0,.int .i64 0,.int .i64 0,.tsl 6 [],.tsl 13 [],.tsl 17 [],.tsl 15 [q03 e]]:=by
 rw[q01]
 rfl
theorem q4h (p:List (PK × Sch)):q03 (q6e p) = .agg [.int .i64 10,.int .i64 0,.int .i64 0,.int .i64 0,.str [],.tsl 11 [],.int .i64 0,.int .i64 0,.int .i64 0,.int .i64 0,.int .i64 0,.tsl 6 [],.tsl 13 [],.tsl 17 (p.map q0h),.tsl 15 [q03 noneX]]:=by
 rw[q01]
 rfl
theorem q62 (m:Int):q03 (q35 m) = .agg [.int .i64 3,.int .i64 m,.int .i64 0,.int .i64 0,.str [],.tsl 11 [],.int .i64 0,.int .i64 0,.int .i64 0,.int .i64 0,.int .i64 0,.tsl 6 [],.tsl 13 [],.tsl 17 [],.tsl 15 []]:=by
 rw[q01]
 rfl
theorem q1A (l:List Sch):q03 (q1n l) = .agg [.int .i64 12,.int .i64 0,.int .i64 0,.int .i64 0,.str [],.tsl 11 [],.int .i64 0,.int .i64 0,.int .i64 0,.int .i64 0,.int .i64 0,.tsl 6 [],.tsl 13 [],.tsl 17 [],.tsl 15 (l.map q03)]:=by
 rw[q01]
 rfl
theorem qn0 (a c:Int):(if c<a then c else a)=min a c:=by split<;>omega
theorem qmQ (b d:Int):(if d>b then d else b)=max b d:=by split<;>omega
theorem qdw (f:Sch→Sch→Sch) (p q:Prt) (h1:q0Q p.lo.num=true) (h2:q0Q p.hi.num=true) (h3:q0Q q.lo.num=true) (h4:q0Q q.hi.num=true):q0f CI 991 [q03 (q68 p),q03 (q68 q)] (q03 (q2U f (q68 p) (q68 q))):=by
 have hw:=qhM p q h1 h2 h3 h4
 rw[q5U,q3i,q3i,q3i]
 unfold q5N at hw
 simp only[List.map_cons,List.map_nil] at hw
 unfold q0p at hw ⊢
 refine q04 q6T rfl ?_
 (repeat' first|simp (disch:=omega) only[go_sem,q6T,enter]|refine q00 _ (hw) ?_|(apply spl<;>intro h<;>try simp (disch:=omega) only[go_sem,h]))
 all_goals rfl
theorem qcb (f:Sch→Sch→Sch) (a b c d:Int):q0f CI 991 [q03 (q3l a b),q03 (q3l c d)] (q03 (q2U f (q3l a b) (q3l c d))):=by
 rw[q6r,q34,q34,q34]
 refine q04 q6T rfl ?_
 (repeat' first|simp (disch:=omega) only[go_sem,q6T,enter]|(apply spl<;>intro h<;>try simp (disch:=omega) only[go_sem,h]))
 all_goals first | rfl | (simp; omega) | trace_state
theorem qci (f:Sch→Sch→Sch) (m:Int) (y:Sch):q0f CI 991 [q03 (q35 m),q03 y] (q03 (q2U f (q35 m) y)):=by
 rw[q6w,q62,q01 y]
 refine q04 q6T rfl ?_
 (repeat' first|simp (disch:=omega) only[go_sem,q6T,enter]|(apply spl<;>intro h<;>try simp (disch:=omega) only[go_sem,h]))
 all_goals rfl
theorem qdq (f:Sch→Sch→Sch) (p q:List (PK × Sch)) (h:q0f CI 1001 [.tsl 17 (p.map q0h),.tsl 17 (q.map q0h)] (.tsl 17 ((q0K f p q).map q0h))):q0f CI 991 [q03 (q6e p),q03 (q6e q)] (q03 (q2U f (q6e p) (q6e q))):=by
 rw[q5X,q4h,q4h,q4h]
 have hn:=qa0
 rw[q0H] at hn ⊢
 refine q04 q6T rfl ?_
 (repeat' first|simp (disch:=omega) only[go_sem,q6T,enter]|refine q00 _ (h) ?_|refine q00 _ (hn) ?_|(apply spl<;>intro h<;>try simp (disch:=omega) only[go_sem,h]))
 all_goals first | rfl | trace_state
theorem qbF (f:Sch→Sch→Sch) (a b c d:Int) (x y:Sch) (h:q0f CI 978 [q03 x,q03 y] (q03 (f x y))):q0f CI 991 [q03 (q2V a b x),q03 (q2V c d y)] (q03 (q2U f (q2V a b x) (q2V c d y))):=by
 rw[q51,q2Z,q2Z,q2Z]
 rw[q01 x,q01 y,q01 (f x y)] at h ⊢
 refine q04 q6T rfl ?_
 (repeat' first|simp (disch:=omega) only[go_sem,q6T,enter]|refine q00 _ (h) ?_|(apply spl<;>intro h<;>try simp (disch:=omega) only[go_sem,h]))
 all_goals rw[qn0,qmQ]
 all_goals rfl
end Ago
set_option maxRecDepth 100000
set_option maxHeartbeats 4000000
namespace Ago
open Go (IntKind)
theorem q0X (x:Sch) (hx:x.bulk≤2^24) (H:Heap) (h:x.s.op≠4∨H.length≠3):q1M CI 985 [q03 x] H (q03 x) H:=by
 have h1:=qcZ _ x (Nat.le_refl _) hx
 rw[q01] at h1 ⊢
 exact qi1 h h1 (by simp only[go_sem]) (by simp only[go_sem])
def qlO (r:Nat):AV:=.agg [.int .i64 4,.int .i64 0,.int .i64 0,.int .i64 0,.str [],.sref 11 r 0 1,.int .i64 0,.int .i64 0,.int .i64 0,.int .i64 0,.int .i64 0,.tsl 6 [],.tsl 13 [],.snil 17,.snil 15]
theorem qff (p:Prt) (a b c:AV):q1M CI 985 [q03 (q68 p)] [.row 15 [a] false true 0,.row 15 [b] false true 1,.row 15 [c] false true 2] (qlO 3) [.row 15 [a] false true 0,.row 15 [b] false true 1,.row 15 [c] false true 2,.row 11 [q0p p] false true 3]:=by
 have c1:=fun (H:Heap) (z:AV) (zs:List AV) (h:zs.length<2^24)=>qm9 rfl (q7J (f:=216) (n:=11) (b:=104) rfl (by decide) H z zs h)
 have h:q1M CC 985 [q03 (q68 p)] [.row 15 [a] false true 0,.row 15 [b] false true 1,.row 15 [c] false true 2] (qlO 3) [.row 15 [a] false true 0,.row 15 [b] false true 1,.row 15 [c] false true 2,.row 11 [q0p p] false true 3]:=by
  rw[q3i]
  refine qmP qeU rfl ?_
  (repeat' first|simp (disch:=omega) only[go_sem,qeU,enter]|(refine q0l _ _ (c1 _ _ _ (by simp)) ?_)|(apply spl<;>intro h<;>try simp (disch:=omega) only[go_sem,h]))
  refine q08 (α:=Unit) (fun _=>{ tmps:=q0i 54 [(1,.ptr 15 3 0 0),(2,.ptr 15 4 0 0),(3,.ptr 15 5 0 0),(18,.tsl 17 []),(19,.int .i64 0),(20,.int .i64 0)],heap:=[.row 15 [a] false true 0,.row 15 [b] false true 1,.row 15 [c] false true 2,.row 15 [.agg [.int .i64 4,.int .i64 0,.int .i64 0,.int .i64 0,.str [],.tsl 11 [q0p p],.int .i64 0,.int .i64 0,.int .i64 0,.int .i64 0,.int .i64 0,.tsl 6 [],.tsl 13 [],.tsl 17 [],.tsl 15 []]] false true 3,.row 15 [q0O] false true 4,.row 15 [qlO 6] false false 5,.row 11 [q0p p] false true 6],base:=3 }) (fun _=>True) (fun _=>0) () rfl trivial ?_
  intro _ _
  unfold qlO
  (repeat' first|simp (disch:=omega) only[go_sem]|(apply spl<;>intro h<;>try simp (disch:=omega) only[go_sem,h]))
  refine q08 (α:=Unit) (fun _=>{ tmps:=q0i 54 [(2,.ptr 15 3 0 0),(3,.ptr 15 4 0 0),(39,.tsl 15 []),(40,.int .i64 0),(41,.int .i64 0)],heap:=[.row 15 [a] false true 0,.row 15 [b] false true 1,.row 15 [c] false true 2,.row 15 [q0O] false true 3,.row 15 [qlO 5] false false 4,.row 11 [q0p p] false true 5],base:=3 }) (fun _=>True) (fun _=>0) () rfl trivial ?_
  intro _ _
  unfold qlO q0O
  (repeat' first|simp (disch:=omega) only[go_sem,qoS]|(apply spl<;>intro h<;>try simp (disch:=omega) only[go_sem,h]))
  refine ⟨_,rfl,?_,?_⟩
  ·rfl
  ·rfl
 rw[q3i] at h ⊢
 exact qjo rfl h
end Ago
set_option maxRecDepth 100000
set_option maxHeartbeats 4000000
namespace Ago
open Go (IntKind)
theorem qhF (f:Sch→Sch→Sch) (m:Int) (y:Sch):q0f CI 987 [q03 (q35 m),q03 y] (q03 (q2U f (q35 m) y)):=by
 have cp:=fun H=>q0X (q35 m) (by rw[q94]; decide) H (.inl (show (3:Int)≠4 by decide))
 rw[q6w,q62] at *
 rw[q01 y]
 refine q04 q6W rfl ?_
 (repeat' first|simp (disch:=omega) only[go_sem,q6W,enter]|(refine q0l _ _ (cp _) ?_)|(apply spl<;>intro h<;>try simp (disch:=omega) only[go_sem,h]))
 all_goals rfl
theorem qhG (f:Sch→Sch→Sch) (a b c d:Int):q0f CI 987 [q03 (q3l a b),q03 (q3l c d)] (q03 (q2U f (q3l a b) (q3l c d))):=by
 have cp:=fun H=>q0X (q3l a b) (by rw[q3L]; decide) H (.inl (show (5:Int)≠4 by decide))
 rw[q6r,q34,q34,q34] at *
 refine q04 q6W rfl ?_
 (repeat' first|simp (disch:=omega) only[go_sem,q6W,enter]|(refine q0l _ _ (cp _) ?_)|(apply spl<;>intro h<;>try simp (disch:=omega) only[go_sem,h]))
 refine q38 ?s1 ?g1 ?g2
 rotate_left
 case g1=>
  repeat' first | exact q33 | refine q2o ?_ ?_
  all_goals
   (repeat' first|simp (disch:=omega) only[go_sem,q4j]|(apply spl<;>intro h<;>try simp (disch:=omega) only[go_sem,h]))
   all_goals rfl
 (repeat' first|simp (disch:=omega) only[go_sem]|(apply spl<;>intro h<;>try simp (disch:=omega) only[go_sem,h]))
 all_goals rw[qn0,qmQ]
 all_goals rfl
theorem qjL (f:Sch→Sch→Sch) (p q:List (PK × Sch)) (hp:(q6e p).bulk≤2^24) (h:q0f CI 999 [.tsl 17 (p.map q0h),.tsl 17 (q.map q0h)] (.tsl 17 ((q0K f p q).map q0h))):q0f CI 987 [q03 (q6e p),q03 (q6e q)] (q03 (q2U f (q6e p) (q6e q))):=by
 have cp:=fun H=>q0X (q6e p) hp H (.inl (show (10:Int)≠4 by decide))
 rw[q5X,q4h,q4h,q4h] at *
 refine q04 q6W rfl ?_
 (repeat' first|simp (disch:=omega) only[go_sem,q6W,enter]|refine q00 _ (h) ?_|(refine q0l _ _ (cp _) ?_)|(apply spl<;>intro h<;>try simp (disch:=omega) only[go_sem,h]))
 all_goals rfl
theorem qio (f:Sch→Sch→Sch) (a b c d:Int) (x y:Sch) (hp:(q2V a b x).bulk≤2^24) (h:q0f CI 974 [q03 x,q03 y] (q03 (f x y))):q0f CI 987 [q03 (q2V a b x),q03 (q2V c d y)] (q03 (q2U f (q2V a b x) (q2V c d y))):=by
 have cp:=fun H=>q0X (q2V a b x) hp H (.inl (show (9:Int)≠4 by decide))
 rw[q51,q2Z,q2Z,q2Z] at *
 rw[q01 x,q01 y,q01 (f x y)] at *
 refine q04 q6W rfl ?_
 (repeat' first|simp (disch:=omega) only[go_sem,q6W,enter]|(refine q0l _ _ (cp _) ?_)|(apply spl<;>intro h<;>try simp (disch:=omega) only[go_sem,h]))
 refine q38 ?s1 ?g1 ?g2
 rotate_left
 case g1=>
  repeat' first | exact q33 | refine q2o ?_ ?_
  all_goals
   (repeat' first|simp (disch:=omega) only[go_sem,q4j]|(apply spl<;>intro h<;>try simp (disch:=omega) only[go_sem,h]))
   all_goals rfl
 (repeat' first|simp (disch:=omega) only[go_sem]|refine q00 _ (h) ?_|(apply spl<;>intro h<;>try simp (disch:=omega) only[go_sem,h]))
 all_goals rw[qn0,qmQ]
 all_goals rfl
theorem ql7 (f:Sch→Sch→Sch) (p q:Prt) (h1:q0Q p.lo.num=true) (h2:q0Q p.hi.num=true) (h3:q0Q q.lo.num=true) (h4:q0Q q.hi.num=true):q0f CI 987 [q03 (q68 p),q03 (q68 q)] (q03 (q2U f (q68 p) (q68 q))):=by
 have cp:=qff p (q03 (q68 p)) (q03 (q68 q)) q0O
 have c1:=qnn (qey q.lo.num p.lo.num h3 h1)
 have c2:=qnn (qey q.hi.num p.hi.num h4 h2)
 rw[q5U]
 unfold q4C
 unfold q11 at c1 c2
 generalize qe4 q.lo.num p.lo.num=k1 at *
 generalize qe4 q.hi.num p.hi.num=k2 at *
 rw[q3i,q3i,q3i] at *
 unfold qlO q0O q0p at *
 refine q04 q6W rfl ?_
 (repeat' first|simp (disch:=omega) only[go_sem,q6W,enter]|(refine q0l _ _ cp ?_)|(apply spl<;>intro h<;>try simp (disch:=omega) only[go_sem,h]))
 by_cases e1:k1<0<;>by_cases e2:0<k2<;>by_cases e3:q.sort=0
 all_goals
  try simp only[e1,e2,e3,if_true,if_false]
  (repeat' first|simp (disch:=omega) only[go_sem,e1,e2,e3,gt_iff_lt]|refine q00 _ (c1) ?_|refine q00 _ (c2) ?_|(apply spl<;>intro h<;>try simp (disch:=omega) only[go_sem,h]))
  all_goals first | rfl | trace_state
end Ago
