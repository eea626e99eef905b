/- Infer: the context in which schemas,decimals and the functions of Infer live. -/
import Derived.Test.YtjeahlpkonkjiaaGreatDoorOCodeI
import Derived.Test.YtjeahlpkonkjiaaGreatDoorORunJ
import Derived.Test.YtjeahlpkonkjiaaGreatDoorORunG
import Derived.Test.YtjeahlpkonkjiaaGreatDoorORunD
import Derived.Test.YtjeahlpkonkjiaaGreatDoorORunC
import Derived.Test.YtjeahlpkonkjiaaGreatDoorORunA
import Derived.Test.YtjeahlpkonkjiaaGreatDoorORunZ
set_option linter.unusedSimpArgs false
set_option linter.unusedVariables false
set_option maxRecDepth 100000
set_option maxHeartbeats 4000000
namespace Ago
open Go (IntKind)
theorem qwB {g:J} (h:BS CS g):BS CI0 g:=qad (C:=CS) (C':=CI0) (fun f fn h=>by
 have h:qa8 f=some fn:=h
 show qa9 f=some fn
 unfold qa9 qfp
 rw[h]) (fun _ _ _ _ _ h=>h) (fun f ts v h=>by
 rcases h with h | ⟨h1,a,b,rfl,rfl⟩ | ⟨h1,h2⟩
 ·exact Or.inl (Or.inl h)
 ·refine Or.inr ⟨quy,?_,rfl⟩
  have h1:f=272:=by simpa [csQ] using h1
  rw[h1]
  rfl
 ·refine Or.inl (Or.inr (Or.inr ⟨?_,h2⟩))
  have h1:f=551:=by simpa [lnQ] using h1
  rw[h1]
  rfl) h
theorem qvl {f:Nat} {ts:List AV} {v:AV} (h:q0k CS f ts v):q0k CI0 f ts v:=qwB h
theorem qq2 {f:Nat} {fn:AFn} (h:qeB f=some fn):qa9 f=some fn:=by
 have h2:qfp f=some fn:=by
  unfold qfp
  unfold qeB at h
  cases hc:code f with
  | some a=>
   rw[hc] at h
   simp only at h
   have:qa8 f=some a:=by
    unfold qa8
    rw[hc]
   rw[this]
   exact h
  | none=>
   rw[hc] at h
   simp only at h
   unfold qoM at h
   split at h<;>first | (cases h; rfl) | cases h
 unfold qa9
 rw[h2]
theorem qxo {f:Nat} {ts:List AV} {v:AV} (h:q0k CN f ts v):q0k CI0 f ts v:=qad (C:=CN) (C':=CI0) (fun f fn h=>qq2 h) (fun f x v H H' h=>by
 obtain ⟨p,x,h,h2⟩:=h
 refine Or.inl ⟨p,x,?_,h2⟩
 unfold qwN at h
 split at h
 ·exact h
 ·cases h) (fun f ts v h=>by
 rcases h with ⟨p,l,h,h2⟩ | h
 ·refine Or.inl (Or.inl ⟨p,l,?_,h2⟩)
  unfold qwA at h
  split at h
  ·exact h
  ·cases h
 ·exact Or.inr h) h
theorem qwV {f:Nat} {ts:List AV} {v:AV} (h:q0k CI0 f ts v):q0k CI f ts v:=q8L (qf2 h)
theorem qn0 {f:Nat} {ts:List AV} {v:AV} (h:q0k CS f ts v):q0k CI f ts v:=qwV (qvl h)
theorem qll {f:Nat} {ts:List AV} {v:AV} (h:q0k CN f ts v):q0k CI f ts v:=qwV (qxo h)
theorem qrj {f:Nat} {a:List AV} {H H':Heap} {v:AV} (hf:qa8 f=none) (h:q1u CS f a H v H'):q1u CC f a H v H':=by
 cases h with
 | prim h=>exact .prim h
 | run hf2 _ _ _=>
  have hf2:qa8 f=some _:=hf2
  rw[hf] at hf2
  cases hf2
theorem qkY {cs:List AV} {k:Int} {H:Heap} (hk:k≠4∨H.length≠3) (h:q0k CC 985 [.agg (.int .i64 k::cs)] (.agg (.int .i64 k::cs))) (hf:frz H 6 (.agg (.int .i64 k::cs))=some (.agg (.int .i64 k::cs))) (ha:q0A H [.agg (.int .i64 k::cs)] (.agg (.int .i64 k::cs))=H) :
  q1u CI 985 [.agg (.int .i64 k::cs)] H (.agg (.int .i64 k::cs)) H:=by
 refine qky (.inr ⟨?_,h,?_,ha.symm⟩)
 ·rcases hk with hk | hk
  ·have:qnH [.agg (.int .i64 k::cs)]=false:=by
    unfold qnH
    split
    ·rename_i h
     cases h
     exact absurd rfl hk
    ·rfl
   rw[this]
   rfl
  ·have:(H.length == 3)=false:=by simpa using hk
   rw[this,Vq]
 ·simp only[q1y,hf]
theorem qlO {cs:List AV} {H H':Heap} {v:AV} (hl:H.length=3) (h:q1u CC 985 [.agg (.int .i64 4::cs)] H v H'):q1u CI 985 [.agg (.int .i64 4::cs)] H v H':=by
 refine qky (.inl ⟨?_,h⟩)
 rw[hl]
 rfl
end Ago
set_option maxRecDepth 100000
set_option maxHeartbeats 4000000
namespace Ago
open Go (IntKind)
def q0p (x:Sch):Int:=
 if x.s.op=3 then (if x.s.mask=1 then 0 else if x.s.mask=2 then 1 else if x.s.mask=8 then 3 else if x.s.mask=32 then 5 else -1)
 else if x.s.op=4 then 2 else if x.s.op=5 then 4 else if x.s.op=9 then 6 else if x.s.op=10 then 7 else -1
theorem qdX (x:Sch):q0k CI 995 [q03 x] (.int .i64 (q0p x)):=by
 refine q04 qnt rfl ?_
 rw[q02]
 unfold q0p
 (repeat' first|simp (disch:=omega) only[go_sem,qnt,enter]|(apply spl<;>intro h<;>try simp (disch:=omega) only[go_sem,h]))
 all_goals simp_all
def kfM (x:Sch) (k:Int):Option Sch:=x.a.find? fun y=>decide (q0p y=k)
theorem qog:IntKind.i64.wrap (1 * 2^min 0 64)=1:=by decide
theorem qnE:IntKind.i64.wrap (1 * 2^min 1 64)=2:=by decide
theorem qnn:IntKind.i64.wrap (1 * 2^min 3 64)=8:=by decide
theorem qn1:IntKind.i64.wrap (1 * 2^min 5 64)=32:=by decide
theorem q7H (x:Sch):q0k CI 993 [q03 x] (.int .i64 (q0p x)):=by
 refine q04 qkB rfl ?_
 unfold q0p
 by_cases h3:x.s.op=3
 ·rw[if_pos h3,q02]
  (repeat' first|simp (disch:=omega) only[go_sem,qkB,enter,h3]|(apply spl<;>intro h<;>try simp (disch:=omega) only[go_sem,h]))
  refine q07 (α:=Nat) (fun a=>{ tmps:=q0q 30 [(1,.ptr 15 0 0 0),(9,.sref 1 1 0 4),(10,.int .i64 4),(11,.int .i64 a)],heap:=[.row 15 [q03 x] false true 0,.row 1 [.int .i64 0,.int .i64 1,.int .i64 3,.int .i64 5] false true 1],base:=0 })
   (fun a=>a≤4∧(0<a→x.s.mask≠1)∧(1<a→x.s.mask≠2)∧(2<a→x.s.mask≠8)∧(3<a→x.s.mask≠32)) (fun a=>4-a) 0 (by rw[q02,h3]; rfl) (by omega) ?_
  rintro k ⟨hk,k1,k2,k3,k4⟩
  rw[q02]
  obtain rfl | rfl | rfl | rfl | rfl:k=0∨k=1∨k=2∨k=3∨k=4:=by omega
  ·by_cases hm:x.s.mask=1
   ·(repeat' first|simp (disch:=omega) only[go_sem,hm,qog,qnE,qnn,qn1])
   ·(repeat' first|simp (disch:=omega) only[go_sem,hm,qog,qnE,qnn,qn1]|(apply spl<;>intro h<;>try simp (disch:=omega) only[go_sem,h]))
    exact ⟨1,rfl,by refine ⟨?_,?_,?_,?_,?_⟩<;>first | omega | simp_all,by omega⟩
  ·have:=k1 (by omega)
   by_cases hm:x.s.mask=2
   ·(repeat' first|simp (disch:=omega) only[go_sem,hm,qog,qnE,qnn,qn1])
   ·(repeat' first|simp (disch:=omega) only[go_sem,hm,qog,qnE,qnn,qn1]|(apply spl<;>intro h<;>try simp (disch:=omega) only[go_sem,h]))
    exact ⟨2,rfl,by refine ⟨?_,?_,?_,?_,?_⟩<;>first | omega | simp_all,by omega⟩
  ·have:=k1 (by omega)
   have:=k2 (by omega)
   by_cases hm:x.s.mask=8
   ·(repeat' first|simp (disch:=omega) only[go_sem,hm,qog,qnE,qnn,qn1])
   ·(repeat' first|simp (disch:=omega) only[go_sem,hm,qog,qnE,qnn,qn1]|(apply spl<;>intro h<;>try simp (disch:=omega) only[go_sem,h]))
    exact ⟨3,rfl,by refine ⟨?_,?_,?_,?_,?_⟩<;>first | omega | simp_all,by omega⟩
  ·have:=k1 (by omega)
   have:=k2 (by omega)
   have:=k3 (by omega)
   by_cases hm:x.s.mask=32
   ·(repeat' first|simp (disch:=omega) only[go_sem,hm,qog,qnE,qnn,qn1])
   ·(repeat' first|simp (disch:=omega) only[go_sem,hm,qog,qnE,qnn,qn1]|(apply spl<;>intro h<;>try simp (disch:=omega) only[go_sem,h]))
    exact ⟨4,rfl,by refine ⟨?_,?_,?_,?_,?_⟩<;>first | omega | simp_all,by omega⟩
  ·have e1:=k1 (by omega)
   have e2:=k2 (by omega)
   have e3:=k3 (by omega)
   have e4:=k4 (by omega)
   (repeat' first|simp (disch:=omega) only[go_sem,qog,qnE,qnn,qn1,e1,e2,e3,e4])
 ·rw[if_neg h3,q02]
  (repeat' first|simp (disch:=omega) only[go_sem,qkB,enter,h3]|(apply spl<;>intro h<;>try simp (disch:=omega) only[go_sem,h]))
  all_goals simp_all
def q1Z:AV:=.agg [.int .i64 0,.int .i64 0,.int .i64 0,.int .i64 0,.str [],.snil 11,.int .i64 0,.int .i64 0,.int .i64 0,.int .i64 0,.int .i64 0,.snil 6,.snil 13,.snil 17,.snil 15]
theorem qlv {x:Sch} {k:Int} (h : ∀ y,y∈x.a→q0p y≠k):kfM x k=none:=by
 unfold kfM
 rw[VR]
 intro y hy
 simpa using h y hy
theorem qug {x:Sch} {k:Int} {i:Nat} {y:Sch} (hy:x.a[i]?=some y) (hk:q0p y=k) (h : ∀ z,z∈x.a.take i→q0p z≠k):kfM x k=some y:=by
 unfold kfM
 have e:x.a=x.a.take i++x.a.drop i:=(K6 i x.a).symm
 rw[e,List.find?_append,VR.2 (by intro z hz; simpa using h z hz),q8S hy]
 simp [hk]
theorem qeu (x:Sch) (k:Int) (hx:x.bulk≤2^24):q0k CI 986 [q03 x,.int .i64 k] (.tup [q03 ((kfM x k).getD zeroX),.bool (kfM x k).isSome]):=by
 have L:=Sch.lens hx
 have hal:=L.args
 refine q04 qlN rfl ?_
 rw[q02]
 (repeat' first|simp (disch:=omega) only[go_sem,qlN,enter,Ka]|(apply spl<;>intro h<;>try simp (disch:=omega) only[go_sem,h]))
 refine q07 (α:=Nat) (fun a=>{ tmps:=q0q 22 [(1,.int .i64 k),(4,.ptr 15 0 0 0),(9,.tsl 15 (x.a.map q03)),(10,.int .i64 x.a.length),(11,.int .i64 a)],heap:=[.row 15 [q1Z] false true 0],base:=0 })
  (fun a=>a≤x.a.length∧∀ z,z∈x.a.take a→q0p z≠k) (fun a=>x.a.length-a) 0 rfl ⟨Kp _,by simp⟩ ?_
 rintro i ⟨hi,hz⟩
 by_cases hlt:i<x.a.length
 ·obtain ⟨y,hy⟩:=q06 hlt
  have hy2:=q0c (g:=q03) hy
  have hk:=q7H y
  rw[q02 y] at hy2 hk
  by_cases hkk:q0p y=k
  ·rw[qug hy hkk hz,Vc]
   rw[hkk] at hk
   rw[q02 y]
   (repeat' first|simp (disch:=omega) only[go_sem,hy2,Ka,q1Z]|refine q00 _ (hk) ?_|(apply spl<;>intro h<;>try simp (disch:=omega) only[go_sem,h]))
   all_goals rfl
  ·(repeat' first|simp (disch:=omega) only[go_sem,hy2,Ka,q1Z,hkk]|refine q00 _ (hk) ?_|(apply spl<;>intro h<;>try simp (disch:=omega) only[go_sem,h]))
   refine ⟨i+1,rfl,⟨hlt,fun z hm=>?_⟩,by omega⟩
   rw[KG,hy] at hm
   rcases K9.1 hm with hm | hm
   ·exact hz z hm
   ·obtain rfl:z=y:=by simpa using hm
    exact hkk
 ·rw[qlv (x:=x) (k:=k) (by rw[q1j hlt hi] at hz; exact hz),Option.getD_none,q3g]
  (repeat' first|simp (disch:=omega) only[go_sem,Ka,q1Z]|(apply spl<;>intro h<;>try simp (disch:=omega) only[go_sem,h]))
  all_goals rfl
end Ago
set_option maxRecDepth 100000
set_option maxHeartbeats 32000000
namespace Ago
open Go (IntKind)
def noneX:Sch:=.mk ⟨2,0,0,0,[],[],.mk ⟨0,0,0,0,0⟩ [],[]⟩ [] []
theorem q3A:q03 noneX = .agg [.int .i64 2,.int .i64 0,.int .i64 0,.int .i64 0,.str [],.tsl 11 [],.int .i64 0,.int .i64 0,.int .i64 0,.int .i64 0,.int .i64 0,.tsl 6 [],.tsl 13 [],.tsl 17 [],.tsl 15 []]:=by
 rw[q02]
 rfl
def qoS (n0:Nat) (ahead:Heap) (t:List (Nat × AV)) (pre:List (Nat × Bool × List AV)) (cells:List AV→List AV):St:=
 { tmps:=q0q 54 ([(2,.ptr 15 n0 0 0),(3,.ptr 15 (n0+1) 0 0)]++t),heap:=ahead++[.row 15 [q1Z] false true n0,.row 15 [.agg (cells (qdm (n0+2) pre).1)] false (pre.all fun p=>p.2.1) (n0+1)]++(qdm (n0+2) pre).2,base:=0 }
theorem qeH : ∀ (n:Nat) (x:Sch),x.bulk≤n→n≤2^24→q0k CC 985 [q03 x] (q03 x):=by
 intro n
 induction n with
 | zero=>
  intro x h1 h2
  have:1≤x.bulk:=q1B _
  omega
 | succ n ih=>
  intro x h1 h2
  have L:=Sch.lens (v:=x) (N:=2^24) (by omega)
  have l1:=L.parts
  have l3:=L.props
  have l4:=L.args
  have c1:=fun (H:Heap) (z:AV) (zs:List AV) (h:zs.length<2^24)=>qrj rfl (q8Y (f:=216) (n:=11) (b:=104) rfl (by decide) H z zs h)
  have d1:=fun (H:Heap)=>qrj rfl (q7o (f:=216) (n:=11) (b:=104) rfl H)
  have ml1:(x.s.parts.map q0m).length=x.s.parts.length:=Ka ..
  refine q04 qgE rfl ?_
  rw[q02]
  rcases q5t q0m x.s.parts with ⟨hp,ep,np⟩ | ⟨p0,ps,hp,ep,np⟩
  all_goals
   rw[hp]
   (repeat' first|simp (disch:=omega) only[go_sem,qgE,enter,Ka]|(refine q0f _ _ (d1 _) ?_)|(refine q0f _ _ (c1 _ _ _ (by omega)) ?_)|(apply spl<;>intro h<;>try simp (disch:=omega) only[go_sem,h]))
   refine q07 (α:=Nat × List AV) (fun a=>qoS 1 [.row 15 [q03 x] false true 0] [(1,.ptr 15 0 0 0),(18,.tsl 17 (x.p.map q0i)),(19,.int .i64 x.p.length),(20,.int .i64 a.1)] [(11,(x.s.parts.map q0m).isEmpty,x.s.parts.map q0m),(17,a.2.isEmpty,a.2)] fun c=>q2N x (c.getD 0 .dead) (.tsl 13 (x.s.vals.map q0u)) (c.getD 1 .dead) (.snil 15))
    (fun a=>a.1≤x.p.length∧a.2=(x.p.take a.1).map q0i) (fun a=>x.p.length-a.1) (0,[]) (by
     simp only[qoS,hp,KA,Ku,q2r,q53,q4Z,Kb,Kg]
     rw[q02,hp]
     rfl) ⟨Kp _,by simp⟩ ?_
   rintro ⟨k,E⟩ ⟨hk,hE⟩
   simp only at hk hE
   rcases hEe:E with _ | ⟨e0,es⟩
   all_goals
    simp only[qoS,q2N,hp,ep,hEe,KA,Ku,q2r,q53,q4Z,Kb,Kg,VH,VI,K7,VV,VG,Vq,KH,Kr,Kv]
    rw[q02,hp]
    by_cases hlt:k<x.p.length
    ·obtain ⟨y,hy⟩:=q06 hlt
     have hym:=Kc hy
     have hy2:=q0c (g:=q0i) hy
     have hr:=ih y.2 (by have:=(L.pkids y hym).1; omega) (by omega)
     have hnew:E++[q0i y]=(x.p.take (k+1)).map q0i:=by rw[hE,KG,hy]; simp
     have hEl:E.length=k:=by rw[hE]; simp; omega
     rw[hEe] at hnew hEl
     simp only[Kb,Kg] at hEl
     rw[q0o] at hy2
     rw[q02] at hr
     (repeat' first|simp (disch:=omega) only[go_sem,hy2,Ka,q1Z,Kb,Kg]|refine q00 _ (hr) ?_|(apply spl<;>intro h<;>try simp (disch:=omega) only[go_sem,h]))
     refine ⟨(k+1,_++[q0i y]),?_,⟨hlt,hnew⟩,by simp only; omega⟩
     simp only[qoS,q2N,hp,ep,KA,Ku,q2r,q53,q4Z,Kb,Kg,Kk,VH,VI,K7,VV,VG,Vq,KH,Kr,Kv]
     rw[q0o y]
     rfl
    ·have hkl:k=x.p.length:=by omega
     have hE2:E=x.p.map q0i:=by rw[hE,hkl,Kz]
     have hEl:E.length=x.p.length:=by rw[hE2]; simp
     rw[hEe] at hEl hE2
     simp only[Kb,Kg] at hEl
     (repeat' first|simp (disch:=omega) only[go_sem,q1Z,Ka]|(apply spl<;>intro h<;>try simp (disch:=omega) only[go_sem,h]))
     refine q07 (α:=Nat × List AV) (fun a=>qoS 0 [] [(39,.tsl 15 (x.a.map q03)),(40,.int .i64 x.a.length),(41,.int .i64 a.1)] [(11,(x.s.parts.map q0m).isEmpty,x.s.parts.map q0m),(17,(x.p.map q0i).isEmpty,x.p.map q0i),(15,a.2.isEmpty,a.2)] fun c=>q2N x (c.getD 0 .dead) (.tsl 13 (x.s.vals.map q0u)) (c.getD 1 .dead) (c.getD 2 .dead))
      (fun a=>a.1≤x.a.length∧a.2=(x.a.take a.1).map q03) (fun a=>x.a.length-a.1) (0,[]) (by
       simp only[qoS,hp,←hE2,KA,Ku,q2r,q53,q4Z,Kb,Kg]
       rfl) ⟨Kp _,by simp⟩ ?_
     rintro ⟨j,F⟩ ⟨hj,hF⟩
     simp only at hj hF
     rcases hFe:F with _ | ⟨f0,fs⟩
     all_goals
      simp only[qoS,q2N,hp,ep,←hE2,hFe,KA,Ku,q2r,q53,q4Z,Kb,Kg,VH,VI,K7,VV,VG,Vq,KH,Kr,Kv]
      by_cases hlt2:j<x.a.length
      ·obtain ⟨y,hy⟩:=q06 hlt2
       have hym:=Kc hy
       have hy2:=q0c (g:=q03) hy
       have hr:=ih y (by have:=L.kids y hym; omega) (by omega)
       have hnew:F++[q03 y]=(x.a.take (j+1)).map q03:=by rw[hF,KG,hy]; simp
       have hFl:F.length=j:=by rw[hF]; simp; omega
       rw[hFe] at hnew hFl
       simp only[Kb,Kg] at hFl
       rw[q02] at hy2 hr
       (repeat' first|simp (disch:=omega) only[go_sem,hy2,Ka,q1Z,Kb,Kg]|refine q00 _ (hr) ?_|(apply spl<;>intro h<;>try simp (disch:=omega) only[go_sem,h]))
       refine ⟨(j+1,_++[q03 y]),?_,⟨hlt2,hnew⟩,by simp only; omega⟩
       simp only[qoS,q2N,hp,ep,←hE2,KA,Ku,q2r,q53,q4Z,Kb,Kg,Kk,VH,VI,K7,VV,VG,Vq,KH,Kr,Kv]
       rw[q02 y]
       rfl
      ·have hjl:j=x.a.length:=by omega
       have hF2:F=x.a.map q03:=by rw[hF,hjl,Kz]
       have hFl:F.length=x.a.length:=by rw[hF2]; simp
       rw[hFe] at hFl hF2
       simp only[Kb,Kg] at hFl
       rw[←hF2]
       (repeat' first|simp (disch:=omega) only[go_sem,q1Z,Kz,Ka,Kb])
       all_goals first | rfl | (simp; done)
end Ago
set_option maxRecDepth 100000
set_option maxHeartbeats 4000000
namespace Ago
open Go (IntKind)
def qe2:Pat:=.mk ⟨0,0,0,0,0⟩ []
def q1c (l:List Sch):Sch:=.mk ⟨12,0,0,0,[],[],qe2,[]⟩ [] l
def q4j (p:Prt):Sch:=.mk ⟨4,0,0,0,[],[p],qe2,[]⟩ [] []
def q24 (a b:Int):Sch:=.mk ⟨5,0,a,b,[],[],qe2,[]⟩ [] []
def q1I (a b:Int) (e:Sch):Sch:=.mk ⟨9,0,a,b,[],[],qe2,[]⟩ [] [e]
def q3Z (p:List (PK × Sch)):Sch:=.mk ⟨10,0,0,0,[],[],qe2,[]⟩ p [noneX]
def q1W (m:Int):Sch:=.mk ⟨3,m,0,0,[],[],qe2,[]⟩ [] []
def q2f (p q:Prt):Prt:=⟨if q2V q.lo.num p.lo.num<0 then q.lo else p.lo,if 0<q2V q.hi.num p.hi.num then q.hi else p.hi,if q.sort=0 then 0 else p.sort⟩
def q0I (f:Sch→Sch→Sch):List (PK × Sch)→List (PK × Sch)→List (PK × Sch)
 | [],[]=>[]
 | x::a,[]=>(⟨x.1.key,false⟩,x.2)::q0I f a []
 | [],y::b=>(⟨y.1.key,false⟩,y.2)::q0I f [] b
 | x::a,y::b=>
  if Go.Op.bytesLess x.1.key y.1.key=true then (⟨x.1.key,false⟩,x.2)::q0I f a (y::b)
  else if Go.Op.bytesLess y.1.key x.1.key=true then (⟨y.1.key,false⟩,y.2)::q0I f (x::a) b
  else (⟨x.1.key,x.1.req && y.1.req⟩,f x.2 y.2)::q0I f a b
termination_by a b=>a.length+b.length
def qlj (x:Sch):Sch:=x.a.headD noneX
def qcb (x:Sch):Prt:=x.s.parts.headD ⟨⟨false,⟨false,[],0⟩,false⟩,⟨false,⟨false,[],0⟩,false⟩,0⟩
def q2W (f:Sch→Sch→Sch) (x y:Sch):Sch:=
 if x.s.op=4 then q4j (q2f (qcb x) (qcb y))
 else if x.s.op=5 then q24 (min x.s.min y.s.min) (max x.s.max y.s.max)
 else if x.s.op=9 then q1I (min x.s.min y.s.min) (max x.s.max y.s.max) (f (qlj x) (qlj y))
 else if x.s.op=10 then q3Z (q0I f x.p y.p)
 else x
def q4h (f:Sch→Sch→Sch):Option Sch→Option Sch→List Sch
 | some x,some y=>[q2W f x y]
 | some x,none=>[x]
 | none,some y=>[y]
 | none,none=>[]
def q1C:Nat→Sch→Sch→Sch
 | 0,a,_=>a
 | n+1,a,b=>if a.s.op=2 then b else if b.s.op=2 then a else q1c ((List.range 8).flatMap fun (k:Nat)=>q4h (q1C n) (kfM a (k:Int)) (kfM b (k:Int)))
inductive MemF:Sch→Prop where
 | kind (m:Int):MemF (q1W m)
 | num (p:Prt):q0a p.lo.num=true→q0a p.hi.num=true→MemF (q4j p)
 | text (a b:Int):MemF (q24 a b)
 | list0 (a b:Int):MemF (q1I a b noneX)
 | list (a b:Int) (l:List Sch):(∀ y,y∈l→MemF y)→MemF (q1I a b (q1c l))
 | map (p:List (PK × List Sch)):(∀ y,y∈p→∀ z,z∈y.2→MemF z)→MemF (q3Z (p.map fun y=>(y.1,q1c y.2)))
def FamF (x:Sch):Prop:=∃ l,x=q1c l∧∀ y,y∈l→MemF y
def FamN (x:Sch):Prop:=x=noneX∨FamF x
end Ago
set_option maxRecDepth 100000
set_option maxHeartbeats 4000000
namespace Ago
open Go (IntKind)
section
variable {R:Nat→List AV→Heap→AV→Heap→Prop} {PR:Nat→List AV→AV→Prop}
def qwr (R:Nat→List AV→Heap→AV→Heap→Prop) (PR:Nat→List AV→AV→Prop) (s s':St) (ls:List (List AOper)):Prop:=∀ l,l∈ls→q0X R PR l (fun t=>t=s') s
theorem q3z {s s':St}:qwr R PR s s' []:=fun _ h=>by cases h
theorem q2O {s s':St} {l:List AOper} {ls:List (List AOper)} (h : @q0N s ⟨q0X R PR l fun t=>t=s'⟩) (h2:qwr R PR s s' ls):qwr R PR s s' (l::ls):=fun x hx=>by
 unfold q0N at h
 rcases Ks.1 hx with rfl | hx
 ·exact h
 ·exact h2 x hx
theorem q3t {k:Nat} {l:List AOper} {ls:List (List AOper)} {Q:Ex→St→Prop} {s:St} (s':St) (h:qwr R PR (s.keep k) s' (l::ls)) (h3 : @q0N { s' with rb:=0 } ⟨Q .normal⟩):aw R PR (.draw k (l::ls)) Q s:=by
 unfold q0N at h3
 exact ⟨s',by simp,h,h3⟩
end
def qfo (d:Dec):Prt:=⟨⟨true,d,false⟩,⟨true,d,false⟩,if 0≤d.exp then 1 else 0⟩
end Ago
set_option maxRecDepth 100000
set_option maxHeartbeats 4000000
namespace Ago
open Go (IntKind)
theorem q3M (m:Int):q0p (q1W m)≠2∧q0p (q1W m)≠4∧q0p (q1W m)≠6∧q0p (q1W m)≠7:=by
 unfold q0p q1W Sch.s
 simp only[if_true]
 repeat' split
 all_goals omega
theorem qg8 {l:List Sch} (h : ∀ y,y∈l→MemF y):FamF (q1c l):=⟨l,rfl,h⟩
theorem qbx {p:List (PK × Sch)} (h : ∀ y,y∈p→FamF y.2):MemF (q3Z p):=by
 obtain ⟨q,rfl,hq⟩ : ∃ q:List (PK × List Sch),p=q.map (fun y=>(y.1,q1c y.2))∧∀ y,y∈q→∀ z,z∈y.2→MemF z:=by
  induction p with
  | nil=>exact ⟨[],rfl,fun y hy=>by cases hy⟩
  | cons x p ih=>
   obtain ⟨l,h1,h2⟩:=h x (Kj ..)
   obtain ⟨q,h3,h4⟩:=ih fun y hy=>h y (Kl _ hy)
   refine ⟨(x.1,l)::q,?_,fun y hy=>?_⟩
   ·rw[Km,←h3,←h1]
   ·rcases Ks.1 hy with rfl | hy
    ·exact h2
    ·exact h4 y hy
 exact .map q hq
theorem qfQ {p:List (PK × Sch)} (h:MemF (q3Z p)) : ∀ y,y∈p→FamF y.2:=by
 generalize hx:q3Z p=x at h
 cases h with
 | map q hq=>
  have hp:p=q.map fun y=>(y.1,q1c y.2):=congrArg Sch.p hx
  rw[hp]
  intro y hy
  obtain ⟨z,hz,rfl⟩:=KQ.1 hy
  exact ⟨z.2,rfl,hq z hz⟩
 | _=>cases congrArg (fun x=>x.s.op) hx
def qkI (f:Sch→Sch→Sch):Prop:=∀ a b,FamN a→FamN b→FamN (f a b)∧(FamF a→FamF b→FamF (f a b))
theorem q3C {f:Sch→Sch→Sch} (hf:qkI f) : ∀ (n:Nat) (p q:List (PK × Sch)),p.length+q.length≤n→(∀ y,y∈p→FamF y.2)→(∀ y,y∈q→FamF y.2)→∀ y,y∈q0I f p q→FamF y.2
 | n,[],[],_,_,_=>fun y hy=>by
  rw[q0I] at hy
  cases hy
 | 0,x::p,q,hn,_,_=>by simp at hn
 | 0,[],x::q,hn,_,_=>by simp at hn
 | n+1,x::p,[],hn,hp,hq=>fun y hy=>by
  rw[q0I] at hy
  rcases Ks.1 hy with rfl | hy
  ·exact hp x (Kj ..)
  ·exact q3C hf n p [] (by simp at hn ⊢; omega) (fun y h=>hp y (Kl _ h)) hq y hy
 | n+1,[],x::q,hn,hp,hq=>fun y hy=>by
  rw[q0I] at hy
  rcases Ks.1 hy with rfl | hy
  ·exact hq x (Kj ..)
  ·exact q3C hf n [] q (by simp at hn ⊢; omega) hp (fun y h=>hq y (Kl _ h)) y hy
 | n+1,x::p,z::q,hn,hp,hq=>fun y hy=>by
  rw[q0I] at hy
  simp only[Kb] at hn
  split at hy
  ·rcases Ks.1 hy with rfl | hy
   ·exact hp x (Kj ..)
   ·exact q3C hf n p (z::q) (by simp; omega) (fun y h=>hp y (Kl _ h)) hq y hy
  ·split at hy
   ·rcases Ks.1 hy with rfl | hy
    ·exact hq z (Kj ..)
    ·exact q3C hf n (x::p) q (by simp; omega) hp (fun y h=>hq y (Kl _ h)) y hy
   ·rcases Ks.1 hy with rfl | hy
    ·have h1:=hp x (Kj ..)
     have h2:=hq z (Kj ..)
     exact (hf _ _ (.inr h1) (.inr h2)).2 h1 h2
    ·exact q3C hf n p q (by omega) (fun y h=>hp y (Kl _ h)) (fun y h=>hq y (Kl _ h)) y hy
theorem q8X {a b:Int} {e:Sch} (h:FamN e):MemF (q1I a b e):=by
 rcases h with rfl | ⟨l,rfl,h⟩
 ·exact .list0 a b
 ·exact .list a b l h
inductive Two:Sch→Sch→Prop where
 | kind (m:Int) (y:Sch):Two (q1W m) y
 | num (p q:Prt):q0a p.lo.num=true→q0a p.hi.num=true→q0a q.lo.num=true→q0a q.hi.num=true→Two (q4j p) (q4j q)
 | text (a b c d:Int):Two (q24 a b) (q24 c d)
 | list (a b c d:Int) (x y:Sch):FamN x→FamN y→Two (q1I a b x) (q1I c d y)
 | map (p q:List (PK × Sch)):(∀ y,y∈p→FamF y.2)→(∀ y,y∈q→FamF y.2)→Two (q3Z p) (q3Z q)
theorem qfN {x y:Sch} (hx:MemF x) (hy:MemF y) (hk:q0p x=q0p y):Two x y:=by
 cases hx with
 | kind m=>exact .kind m y
 | num p h1 h2=>
  cases hy with
  | num q h3 h4=>exact .num p q h1 h2 h3 h4
  | kind m=>exact absurd hk.symm (q3M m).1
  | _=>cases hk
 | text a b=>
  cases hy with
  | text c d=>exact .text a b c d
  | kind m=>exact absurd hk.symm (q3M m).2.1
  | _=>cases hk
 | list0 a b=>
  cases hy with
  | list0 c d=>exact .list a b c d _ _ (.inl rfl) (.inl rfl)
  | list c d l hl=>exact .list a b c d _ _ (.inl rfl) (.inr ⟨l,rfl,hl⟩)
  | kind m=>exact absurd hk.symm (q3M m).2.2.1
  | _=>cases hk
 | list a b l hl=>
  cases hy with
  | list0 c d=>exact .list a b c d _ _ (.inr ⟨l,rfl,hl⟩) (.inl rfl)
  | list c d l' hl'=>exact .list a b c d _ _ (.inr ⟨l,rfl,hl⟩) (.inr ⟨l',rfl,hl'⟩)
  | kind m=>exact absurd hk.symm (q3M m).2.2.1
  | _=>cases hk
 | map p hp=>
  cases hy with
  | map q hq=>exact .map _ _ (qfQ (.map p hp)) (qfQ (.map q hq))
  | kind m=>exact absurd hk.symm (q3M m).2.2.2
  | _=>cases hk
theorem qdN {p q:Prt} (h1:q0a p.lo.num=true) (h2:q0a p.hi.num=true) (h3:q0a q.lo.num=true) (h4:q0a q.hi.num=true):q0a (q2f p q).lo.num=true∧q0a (q2f p q).hi.num=true:=by
 unfold q2f
 refine ⟨?_,?_⟩
 ·show q0a (if q2V q.lo.num p.lo.num<0 then q.lo else p.lo).num=true
  split<;>assumption
 ·show q0a (if 0<q2V q.hi.num p.hi.num then q.hi else p.hi).num=true
  split<;>assumption
theorem q8x (f:Sch→Sch→Sch) (p q:Prt):q2W f (q4j p) (q4j q)=q4j (q2f p q):=(rfl)
theorem qaI (f:Sch→Sch→Sch) (a b c d:Int):q2W f (q24 a b) (q24 c d)=q24 (min a c) (max b d):=(rfl)
theorem q7q (f:Sch→Sch→Sch) (a b c d:Int) (x y:Sch):q2W f (q1I a b x) (q1I c d y)=q1I (min a c) (max b d) (f x y):=(rfl)
theorem q9u (f:Sch→Sch→Sch) (p q:List (PK × Sch)):q2W f (q3Z p) (q3Z q)=q3Z (q0I f p q):=(rfl)
theorem qaV (f:Sch→Sch→Sch) (m:Int) (y:Sch):q2W f (q1W m) y=q1W m:=(rfl)
theorem qkP {f:Sch→Sch→Sch} (hf:qkI f) {x y:Sch} (h:Two x y):MemF (q2W f x y):=by
 cases h with
 | kind m y=>exact .kind m
 | num p q h1 h2 h3 h4=>
  rw[q8x]
  exact .num _ (qdN h1 h2 h3 h4).1 (qdN h1 h2 h3 h4).2
 | text a b c d=>exact .text _ _
 | list a b c d x y hx hy=>
  rw[q7q]
  exact q8X (hf x y hx hy).1
 | map p q hp hq=>
  rw[q9u]
  exact qbx (q3C hf _ p q (Ko _) hp hq)
theorem q1S {x y:Sch} {k:Int} (h:kfM x k=some y):y∈x.a∧q0p y=k:=by
 unfold kfM at h
 exact ⟨Vp h,by simpa using List.find?_some h⟩
theorem qjW {f:Sch→Sch→Sch} (hf:qkI f) {a b:Sch} (ha : ∀ y,y∈a.a→MemF y) (hb : ∀ y,y∈b.a→MemF y) (k:Int) : ∀ y,y∈q4h f (kfM a k) (kfM b k)→MemF y:=by
 intro y hy
 cases h1:kfM a k with
 | none=>
  cases h2:kfM b k with
  | none=>rw[h1,h2] at hy; cases hy
  | some v=>
   rw[h1,h2] at hy
   obtain rfl:y=v:=by simpa [q4h] using hy
   exact hb _ (q1S h2).1
 | some u=>
  cases h2:kfM b k with
  | none=>
   rw[h1,h2] at hy
   obtain rfl:y=u:=by simpa [q4h] using hy
   exact ha _ (q1S h1).1
  | some v=>
   rw[h1,h2] at hy
   obtain rfl:y=q2W f u v:=by simpa [q4h] using hy
   exact qkP hf (qfN (ha _ (q1S h1).1) (hb _ (q1S h2).1) ((q1S h1).2.trans (q1S h2).2.symm))
theorem q7k (n:Nat) (b:Sch):q1C (n+1) noneX b=b:=(rfl)
theorem q4g (n:Nat) (l:List Sch):q1C (n+1) (q1c l) noneX=q1c l:=(rfl)
theorem q9b (n:Nat) (l m:List Sch):q1C (n+1) (q1c l) (q1c m)=q1c ((List.range 8).flatMap fun (k:Nat)=>q4h (q1C n) (kfM (q1c l) (k:Int)) (kfM (q1c m) (k:Int))):=(rfl)
theorem qc9 : ¬ FamF noneX:=by
 rintro ⟨l,h,_⟩
 cases congrArg (fun x=>x.s.op) h
theorem q8M : ∀ n,qkI (q1C n)
 | 0=>fun a b ha hb=>⟨ha,fun h _=>h⟩
 | n+1=>fun a b ha hb=>by
  rcases ha with rfl | ⟨l,rfl,hl⟩
  ·rw[q7k]
   exact ⟨hb,fun h _=>absurd h qc9⟩
  ·rcases hb with rfl | ⟨m,rfl,hm⟩
   ·rw[q4g]
    exact ⟨.inr ⟨l,rfl,hl⟩,fun h _=>h⟩
   ·rw[q9b]
    have:FamF (q1c ((List.range 8).flatMap fun (k:Nat)=>q4h (q1C n) (kfM (q1c l) (k:Int)) (kfM (q1c m) (k:Int)))):=qg8 fun y hy=>by
     obtain ⟨k,_,h⟩:=KO.1 hy
     exact qjW (q8M n) (a:=q1c l) (b:=q1c m) hl hm k y h
    exact ⟨.inr this,fun _ _=>this⟩
end Ago
set_option maxRecDepth 100000
set_option maxHeartbeats 4000000
namespace Ago
open Go (IntKind)
def sb (l:List Sch):Nat:=AV.bulks (l.map q03)
def pb (l:List (PK × Sch)):Nat:=AV.bulks (l.map q0i)
theorem q4d (x:Sch) (l:List Sch):sb (x::l)=x.bulk+sb l:=(rfl)
theorem q6X (l m:List Sch):sb (l++m)=sb l+sb m:=by
 unfold sb
 rw[VX,q3l]
theorem qaU (x:PK × Sch):(q0i x).bulk=x.2.bulk+x.1.key.length+2:=by
 unfold Sch.bulk q0i
 rw[q02]
 simp [AV.bulk,AV.bulks,AV.cells]
 omega
theorem q3d (x:PK × Sch) (l:List (PK × Sch)):pb (x::l)=x.2.bulk+x.1.key.length+2+pb l:=by
 show (q0i x).bulk+pb l=_
 rw[qaU]
theorem q5d (l:List Sch):(q1c l).bulk=sb l+16:=by
 rw[Sch.bulk_eq]
 simp [q1c,Sch.s,Sch.p,Sch.a,qe2,Pat.a,Pat.s,AV.bulks,sb]
theorem q4p:noneX.bulk=16:=by
 rw[Sch.bulk_eq]
 simp [noneX,Sch.s,Sch.p,Sch.a,Pat.a,Pat.s,AV.bulks]
theorem q6y (p:Prt):(q4j p).bulk=p.lo.num.digits.length+p.hi.num.digits.length+28:=by
 rw[Sch.bulk_eq]
 simp [q4j,Sch.s,Sch.p,Sch.a,qe2,Pat.a,Pat.s,AV.bulks,q9r]
theorem q4z (a b:Int):(q24 a b).bulk=16:=by
 rw[Sch.bulk_eq]
 simp [q24,Sch.s,Sch.p,Sch.a,qe2,Pat.a,Pat.s,AV.bulks]
theorem qaH (a:Int):(q1W a).bulk=16:=by
 rw[Sch.bulk_eq]
 simp [q1W,Sch.s,Sch.p,Sch.a,qe2,Pat.a,Pat.s,AV.bulks]
theorem q26 (a b:Int) (e:Sch):(q1I a b e).bulk=e.bulk+16:=by
 have:(q03 e).bulk=e.bulk:=rfl
 rw[Sch.bulk_eq]
 simp [q1I,Sch.s,Sch.p,Sch.a,qe2,Pat.a,Pat.s,AV.bulks,this]
theorem q2L (p:List (PK × Sch)):(q3Z p).bulk=pb p+32:=by
 have:(q03 noneX).bulk=16:=q4p
 rw[Sch.bulk_eq]
 simp [q3Z,Sch.s,Sch.p,Sch.a,qe2,Pat.a,Pat.s,AV.bulks,this,pb]
theorem qew (p q:Prt):(q4j (q2f p q)).bulk≤(q4j p).bulk+(q4j q).bulk:=by
 rw[q6y,q6y,q6y]
 have h1:(q2f p q).lo.num.digits.length≤p.lo.num.digits.length+q.lo.num.digits.length:=by
  show (if q2V q.lo.num p.lo.num<0 then q.lo else p.lo).num.digits.length≤_
  split<;>omega
 have h2:(q2f p q).hi.num.digits.length≤p.hi.num.digits.length+q.hi.num.digits.length:=by
  show (if 0<q2V q.hi.num p.hi.num then q.hi else p.hi).num.digits.length≤_
  split<;>omega
 omega
def qdS (f:Sch→Sch→Sch):Prop:=∀ a b,FamN a→FamN b→(f a b).bulk≤a.bulk+b.bulk
theorem q3b {f:Sch→Sch→Sch} (hf:qdS f) : ∀ (n:Nat) (p q:List (PK × Sch)),p.length+q.length≤n→(∀ y,y∈p→FamF y.2)→(∀ y,y∈q→FamF y.2)→pb (q0I f p q)≤pb p+pb q
 | n,[],[],_,_,_=>by
  rw[q0I]
  show 0≤_
  omega
 | 0,x::p,q,hn,_,_=>by simp at hn
 | 0,[],x::q,hn,_,_=>by simp at hn
 | n+1,x::p,[],hn,hp,hq=>by
  have ih:=q3b hf n p [] (by simp at hn ⊢; omega) (fun y h=>hp y (Kl _ h)) hq
  rw[q0I]
  rw[q3d,q3d]
  show x.2.bulk+x.1.key.length+2+_≤_
  omega
 | n+1,[],x::q,hn,hp,hq=>by
  have ih:=q3b hf n [] q (by simp at hn ⊢; omega) hp (fun y h=>hq y (Kl _ h))
  rw[q0I]
  rw[q3d,q3d]
  show x.2.bulk+x.1.key.length+2+_≤_
  omega
 | n+1,x::p,z::q,hn,hp,hq=>by
  simp only[Kb] at hn
  rw[q0I]
  split
  ·have ih:=q3b hf n p (z::q) (by simp; omega) (fun y h=>hp y (Kl _ h)) hq
   rw[q3d,q3d x p]
   show x.2.bulk+x.1.key.length+2+_≤_
   omega
  ·split
   ·have ih:=q3b hf n (x::p) q (by simp; omega) hp (fun y h=>hq y (Kl _ h))
    rw[q3d,q3d z q]
    show z.2.bulk+z.1.key.length+2+_≤_
    omega
   ·have ih:=q3b hf n p q (by omega) (fun y h=>hp y (Kl _ h)) (fun y h=>hq y (Kl _ h))
    have h3:=hf x.2 z.2 (.inr (hp x (Kj ..))) (.inr (hq z (Kj ..)))
    rw[q3d,q3d,q3d]
    show (f x.2 z.2).bulk+x.1.key.length+2+_≤_
    omega
theorem qgH {f:Sch→Sch→Sch} (hf:qdS f) {x y:Sch} (h:Two x y):(q2W f x y).bulk≤x.bulk+y.bulk:=by
 cases h with
 | kind m y=>
  rw[qaV]
  omega
 | num p q h1 h2 h3 h4=>
  rw[q8x]
  exact qew p q
 | text a b c d=>
  rw[qaI,q4z,q4z,q4z]
  omega
 | list a b c d x y hx hy=>
  rw[q7q,q26,q26,q26]
  have:=hf x y hx hy
  omega
 | map p q hp hq=>
  rw[q9u,q2L,q2L,q2L]
  have:=q3b hf _ p q (Ko _) hp hq
  omega
def ob:Option Sch→Nat
 | none=>0
 | some x=>x.bulk
theorem qjX (c:Int) (B:Nat) : ∀ ks:List Nat,ks.Nodup→(ks.map fun (k:Nat)=>if c=(k:Int) then B else 0).sum≤B
 | [],_=>by simp
 | k::ks,h=>by
  rw[List.nodup_cons] at h
  rw[Km,List.sum_cons]
  by_cases hc:c=(k:Int)
  ·have:(ks.map fun (j:Nat)=>if c=(j:Int) then B else 0).sum=0:=by
    have : ∀ l:List Nat,k∉l→(l.map fun (j:Nat)=>if c=(j:Int) then B else 0).sum=0:=by
     intro l
     induction l with
     | nil=>simp
     | cons j l ih=>
      intro hj
      rw[Km,List.sum_cons,ih (fun h=>hj (Kl _ h)),if_neg]
      intro e
      exact hj (by rw[show k=j by omega]; exact Kj ..)
    exact this ks h.1
   rw[this,if_pos hc]
   omega
  ·rw[if_neg hc]
   have:=qjX c B ks h.2
   omega
theorem qbg (ks:List Nat) (hk:ks.Nodup) : ∀ l:List Sch,(ks.map fun (k:Nat)=>ob (kfM (q1c l) (k:Int))).sum≤sb l
 | []=>by
  have : ∀ k:Nat,ob (kfM (q1c []) (k:Int))=0:=fun k=>rfl
  simp only[this]
  have : ∀ ks:List Nat,(ks.map fun _=>0).sum=0:=by
   intro ks
   induction ks with
   | nil=>rfl
   | cons k ks ih=>simpa using ih
  rw[this]
  omega
 | y::l=>by
  have ih:=qbg ks hk l
  have hy:=qjX (q0p y) y.bulk ks hk
  have h1 : ∀ k:Nat,ob (kfM (q1c (y::l)) (k:Int))≤(if q0p y=(k:Int) then y.bulk else 0)+ob (kfM (q1c l) (k:Int)):=fun k=>by
   show ob ((y::l).find? fun y=>decide (q0p y=(k:Int)))≤_
   rw[List.find?_cons]
   by_cases h:q0p y=(k:Int)
   ·rw[if_pos h,decide_eq_true h]
    show y.bulk≤_
    omega
   ·rw[if_neg h,decide_eq_false h]
    show ob (l.find? fun y=>decide (q0p y=(k:Int)))≤0+ob (l.find? fun y=>decide (q0p y=(k:Int)))
    omega
  have h2 : ∀ js:List Nat,(js.map fun (k:Nat)=>ob (kfM (q1c (y::l)) (k:Int))).sum≤(js.map fun (k:Nat)=>if q0p y=(k:Int) then y.bulk else 0).sum+(js.map fun (k:Nat)=>ob (kfM (q1c l) (k:Int))).sum:=by
   intro js
   induction js with
   | nil=>simp
   | cons k js ih2=>
    simp only[Km,List.sum_cons]
    have:=h1 k
    omega
  have:=h2 ks
  rw[q4d]
  omega
theorem qhZ {f:Sch→Sch→Sch} (hf:qdS f) {a b:Sch} (ha : ∀ y,y∈a.a→MemF y) (hb : ∀ y,y∈b.a→MemF y) (k:Int):sb (q4h f (kfM a k) (kfM b k))≤ob (kfM a k)+ob (kfM b k):=by
 cases h1:kfM a k with
 | none=>
  cases h2:kfM b k with
  | none=>
   show 0≤_
   omega
  | some v=>
   show v.bulk+0≤0+v.bulk
   omega
 | some u=>
  cases h2:kfM b k with
  | none=>
   show u.bulk+0≤u.bulk+0
   omega
  | some v=>
   have:=qgH hf (qfN (ha _ (q1S h1).1) (hb _ (q1S h2).1) ((q1S h1).2.trans (q1S h2).2.symm))
   show (q2W f u v).bulk+0≤u.bulk+v.bulk
   omega
theorem qax : ∀ n,qdS (q1C n)
 | 0=>fun a b ha hb=>by
  show a.bulk≤_
  omega
 | n+1=>fun a b ha hb=>by
  rcases ha with rfl | ⟨l,rfl,hl⟩
  ·rw[q7k]
   omega
  ·rcases hb with rfl | ⟨m,rfl,hm⟩
   ·rw[q4g]
    omega
   ·rw[q9b,q5d,q5d,q5d]
    have h1 : ∀ ks:List Nat,sb (ks.flatMap fun (k:Nat)=>q4h (q1C n) (kfM (q1c l) (k:Int)) (kfM (q1c m) (k:Int)))≤(ks.map fun (k:Nat)=>ob (kfM (q1c l) (k:Int))).sum+(ks.map fun (k:Nat)=>ob (kfM (q1c m) (k:Int))).sum:=by
     intro ks
     induction ks with
     | nil=>
      show 0≤_
      omega
     | cons k ks ih=>
      rw[List.flatMap_cons,q6X]
      simp only[Km,List.sum_cons]
      have:=qhZ (qax n) (a:=q1c l) (b:=q1c m) hl hm k
      omega
    have h2:=h1 (List.range 8)
    have h3:=qbg (List.range 8) List.nodup_range l
    have h4:=qbg (List.range 8) List.nodup_range m
    omega
def jn:Nat:=2^24
theorem qmq:jn=2^24:=(rfl)
def jM (a b:Sch):Sch:=q1C jn a b
theorem qfn:qkI jM:=q8M jn
theorem qpd:qdS jM:=qax jn
attribute [irreducible] jn
def ofM:Nat→V→Sch
 | 0,_=>noneX
 | n+1,v=>q1c [if v.s.kind=2 then q4j (qfo v.s.num) else if v.s.kind=4 then q24 (qpj v.s.text:Nat) (qpj v.s.text:Nat) else if v.s.kind=6 then q1I v.l.length v.l.length ((v.l.map (ofM n)).foldl jM noneX)
   else if v.s.kind=7 then q3Z ((qgr v.f).map fun y=>(⟨y.1,true⟩,ofM n y.2)) else q1W (IntKind.i64.wrap (1 * 2^min v.s.kind.toNat 64))]
theorem q8N {l:List Sch} : ∀ {e:Sch},FamN e→(∀ y,y∈l→FamF y)→FamN (l.foldl jM e):=by
 induction l with
 | nil=>intro e h _; exact h
 | cons x l ih=>
  intro e h hl
  exact ih (qfn e x h (.inr (hl x (Kj ..)))).1 fun y hy=>hl y (Kl _ hy)
theorem q4t {l:List Sch} : ∀ {e:Sch},FamN e→(∀ y,y∈l→FamF y)→(l.foldl jM e).bulk≤e.bulk+sb l:=by
 induction l with
 | nil=>intro e h _; show e.bulk≤e.bulk+0; omega
 | cons x l ih=>
  intro e h hl
  have h1:=ih (qfn e x h (.inr (hl x (Kj ..)))).1 fun y hy=>hl y (Kl _ hy)
  have h2:=qpd e x h (.inr (hl x (Kj ..)))
  rw[q4d]
  show (l.foldl jM (jM e x)).bulk≤_
  omega
inductive Fit:Nat→V→Prop where
 | mk {n:Nat} {v:V} (h1:0≤v.s.kind∧v.s.kind≤7) (h2:q0a v.s.num=true) (h3:utf v.s.text=true) (hk : ∀ x,x∈v.kids→Fit n x):Fit (n+1) v
theorem Fit.kids {n:Nat} {v:V} (h:Fit (n+1) v) : ∀ x,x∈v.kids→Fit n x:=by
 cases h with
 | mk _ _ _ hk=>exact hk
theorem Fit.num {n:Nat} {v:V} (h:Fit n v):q0a v.s.num=true:=by
 cases h with
 | mk _ h _ _=>exact h
theorem Fit.kind {n:Nat} {v:V} (h:Fit n v):0≤v.s.kind∧v.s.kind≤7:=by
 cases h with
 | mk h _ _ _=>exact h
theorem Fit.text {n:Nat} {v:V} (h:Fit n v):utf v.s.text=true:=by
 cases h with
 | mk _ _ h _=>exact h
theorem qbO {v:V} (h:ownM v=true):0≤v.s.kind∧v.s.kind≤7:=by
 unfold ownM at h
 simp only[Kd,decide_eq_true_eq] at h
 omega
theorem Gd.fit : ∀ {n:Nat} {v:V},Gd n v→Fit n v
 | 0,v,h=>by cases h
 | n+1,v,h=>by
  have hk:=h.kids
  cases h with
  | mk h _=>
   obtain ⟨a,b,_,c,_⟩:=q85 h
   exact .mk (qbO a) b c fun x hx=>(hk x hx).fit
theorem Fit.sort : ∀ (m:Nat) {n:Nat} {v:V},Fit n v→Fit n (qkT m v)
 | 0,_,_,h=>h
 | m+1,0,v,h=>by cases h
 | m+1,n+1,v,h=>by
  refine .mk h.kind h.num h.text fun x hx=>?_
  have hx:x∈(if v.s.kind=7 then ((qgr v.f).map fun y=>(y.1,qkT m y.2)).map (·.2) else v.l.map (qkT m)):=hx
  by_cases h7:v.s.kind=7
  ·rw[if_pos h7,Vv] at hx
   obtain ⟨y,hy,rfl⟩:=KQ.1 hx
   exact Fit.sort m (h.kids y.2 (by unfold V.kids; rw[if_pos h7]; exact KQ.2 ⟨y,(q3h v.f).mem_iff.1 hy,rfl⟩))
  ·rw[if_neg h7] at hx
   obtain ⟨y,hy,rfl⟩:=KQ.1 hx
   exact Fit.sort m (h.kids y (by unfold V.kids; rw[if_neg h7]; exact hy))
theorem q6F : ∀ (n k:Nat) (v:V),Fit k v→k≤n→FamF (ofM n v)
 | 0,k,v,h,hk=>by
  cases h
  omega
 | n+1,0,v,h,hk=>by cases h
 | n+1,k+1,v,h,hk=>by
  have hkids:=h.kids
  have hone:=h.num
  refine qg8 fun y hy=>?_
  rw[KR.1 hy]
  split
  ·exact .num _ hone hone
  ·split
   ·exact .text _ _
   ·split
    ·refine q8X (q8N (.inl rfl) fun y hy=>?_)
     obtain ⟨x,hx,rfl⟩:=KQ.1 hy
     exact q6F n k x (hkids x (by unfold V.kids; rw[if_neg (by omega)]; exact hx)) (by omega)
    ·split
     ·refine qbx fun y hy=>?_
      obtain ⟨x,hx,rfl⟩:=KQ.1 hy
      exact q6F n k x.2 (hkids x.2 (by unfold V.kids; rw[if_pos (by assumption)]; exact KQ.2 ⟨x,(q3h v.f).mem_iff.1 hx,rfl⟩)) (by omega)
     ·exact .kind _
theorem q79 : ∀ (n k:Nat) (v:V),Fit k v→k≤n→(ofM n v).bulk≤4 * v.bulk
 | 0,k,v,h,hk=>by
  cases h
  omega
 | n+1,0,v,h,hk=>by cases h
 | n+1,k+1,v,h,hk=>by
  have hkids:=h.kids
  have hb:=v.bulk_eq
  unfold ofM
  rw[q5d,q4d]
  show _+0+16≤_
  split
  ·rw[q6y]
   show v.s.num.digits.length+v.s.num.digits.length+28+0+16≤_
   omega
  ·split
   ·rw[q4z]
    omega
   ·split
    ·rw[q26]
     have h1:=q4t (l:=v.l.map (ofM n)) (e:=noneX) (.inl rfl) fun y hy=>by
      obtain ⟨x,hx,rfl⟩:=KQ.1 hy
      exact q6F n k x (hkids x (by unfold V.kids; rw[if_neg (by omega)]; exact hx)) (by omega)
     have h2 : ∀ l:List V,(∀ x,x∈l→(ofM n x).bulk≤4 * x.bulk)→sb (l.map (ofM n))≤4 * AV.bulks (l.map q0u):=by
      intro l
      induction l with
      | nil=>intro _; show 0≤_; omega
      | cons x l ih=>
       intro hl
       have a1:=ih fun y hy=>hl y (Kl _ hy)
       have a2:=hl x (Kj ..)
       rw[Km,q4d]
       simp only[Km,AV.bulks]
       have a3:(q0u x).bulk=x.bulk:=rfl
       omega
     have h3:=h2 v.l fun x hx=>q79 n k x (hkids x (by unfold V.kids; rw[if_neg (by omega)]; exact hx)) (by omega)
     rw[q4p] at h1
     omega
    ·split
     ·rw[q2L]
      have h2 : ∀ l:List (List UInt8 × V),(∀ x,x∈l→(ofM n x.2).bulk≤4 * x.2.bulk)→pb (l.map fun y=>(⟨y.1,true⟩,ofM n y.2))≤4 * AV.bulks (l.map q10):=by
       intro l
       induction l with
       | nil=>intro _; show 0≤_; omega
       | cons x l ih=>
        intro hl
        have a1:=ih fun y hy=>hl y (Kl _ hy)
        have a2:=hl x (Kj ..)
        rw[Km,q3d]
        simp only[Km,AV.bulks,qgK]
        omega
      have h3:=h2 (qgr v.f) fun x hx=>q79 n k x.2 (hkids x.2 (by unfold V.kids; rw[if_pos (by assumption)]; exact KQ.2 ⟨x,(q3h v.f).mem_iff.1 hx,rfl⟩)) (by omega)
      have h4:AV.bulks ((qgr v.f).map q10)=AV.bulks (v.f.map q10):=q7y ((q3h v.f).map _)
      omega
     ·rw[qaH]
      omega
end Ago
set_option maxRecDepth 100000
set_option maxHeartbeats 4000000
namespace Ago
open Go (IntKind)
theorem q4N (p:Prt):q03 (q4j p) = .agg [.int .i64 4,.int .i64 0,.int .i64 0,.int .i64 0,.str [],.tsl 11 [q0m p],.int .i64 0,.int .i64 0,.int .i64 0,.int .i64 0,.int .i64 0,.tsl 6 [],.tsl 13 [],.tsl 17 [],.tsl 15 []]:=by
 rw[q02]
 rfl
theorem q4W (a b:Int):q03 (q24 a b) = .agg [.int .i64 5,.int .i64 0,.int .i64 a,.int .i64 b,.str [],.tsl 11 [],.int .i64 0,.int .i64 0,.int .i64 0,.int .i64 0,.int .i64 0,.tsl 6 [],.tsl 13 [],.tsl 17 [],.tsl 15 []]:=by
 rw[q02]
 rfl
theorem q4Q (a b:Int) (e:Sch):q03 (q1I a b e) = .agg [.int .i64 9,.int .i64 0,.int .i64 a,.int .i64 b,.str [],.tsl 11 [],.int .i64 0,.int .i64 0,.int .i64 0,.int .i64 0,.int .i64 0,.tsl 6 [],.tsl 13 [],.tsl 17 [],.tsl 15 [q03 e]]:=by
 rw[q02]
 rfl
theorem q1f (p:List (PK × Sch)):q03 (q3Z p) = .agg [.int .i64 10,.int .i64 0,.int .i64 0,.int .i64 0,.str [],.tsl 11 [],.int .i64 0,.int .i64 0,.int .i64 0,.int .i64 0,.int .i64 0,.tsl 6 [],.tsl 13 [],.tsl 17 (p.map q0i),.tsl 15 [q03 noneX]]:=by
 rw[q02]
 rfl
theorem q8j (m:Int):q03 (q1W m) = .agg [.int .i64 3,.int .i64 m,.int .i64 0,.int .i64 0,.str [],.tsl 11 [],.int .i64 0,.int .i64 0,.int .i64 0,.int .i64 0,.int .i64 0,.tsl 6 [],.tsl 13 [],.tsl 17 [],.tsl 15 []]:=by
 rw[q02]
 rfl
theorem q4f (l:List Sch):q03 (q1c l) = .agg [.int .i64 12,.int .i64 0,.int .i64 0,.int .i64 0,.str [],.tsl 11 [],.int .i64 0,.int .i64 0,.int .i64 0,.int .i64 0,.int .i64 0,.tsl 6 [],.tsl 13 [],.tsl 17 [],.tsl 15 (l.map q03)]:=by
 rw[q02]
 rfl
theorem qss (a c:Int):(if c<a then c else a)=min a c:=by split<;>omega
theorem qrT (b d:Int):(if d>b then d else b)=max b d:=by split<;>omega
end Ago
set_option maxRecDepth 100000
set_option maxHeartbeats 4000000
namespace Ago
open Go (IntKind)
theorem q12 (x:Sch) (hx:x.bulk≤2^24) (H:Heap) (h:x.s.op≠4∨H.length≠3):q1u CI 985 [q03 x] H (q03 x) H:=by
 have h1:=qeH _ x (Ko _) hx
 rw[q02] at h1 ⊢
 exact qkY h h1 (by simp only[go_sem]) (by simp only[go_sem])
def qpp (r:Nat):AV:=.agg [.int .i64 4,.int .i64 0,.int .i64 0,.int .i64 0,.str [],.sref 11 r 0 1,.int .i64 0,.int .i64 0,.int .i64 0,.int .i64 0,.int .i64 0,.tsl 6 [],.tsl 13 [],.snil 17,.snil 15]
theorem qgY (p:Prt) (a b c:AV):q1u CI 985 [q03 (q4j p)] [.row 15 [a] false true 0,.row 15 [b] false true 1,.row 15 [c] false true 2] (qpp 3) [.row 15 [a] false true 0,.row 15 [b] false true 1,.row 15 [c] false true 2,.row 11 [q0m p] false true 3]:=by
 have c1:=fun (H:Heap) (z:AV) (zs:List AV) (h:zs.length<2^24)=>qrj rfl (q8Y (f:=216) (n:=11) (b:=104) rfl (by decide) H z zs h)
 have h:q1u CC 985 [q03 (q4j p)] [.row 15 [a] false true 0,.row 15 [b] false true 1,.row 15 [c] false true 2] (qpp 3) [.row 15 [a] false true 0,.row 15 [b] false true 1,.row 15 [c] false true 2,.row 11 [q0m p] false true 3]:=by
  rw[q4N]
  refine qpK qgE rfl ?_
  (repeat' first|simp (disch:=omega) only[go_sem,qgE,enter]|(refine q0f _ _ (c1 _ _ _ (by simp)) ?_)|(apply spl<;>intro h<;>try simp (disch:=omega) only[go_sem,h]))
  refine q07 (α:=Unit) (fun _=>{ tmps:=q0q 54 [(1,.ptr 15 3 0 0),(2,.ptr 15 4 0 0),(3,.ptr 15 5 0 0),(18,.tsl 17 []),(19,.int .i64 0),(20,.int .i64 0)],heap:=[.row 15 [a] false true 0,.row 15 [b] false true 1,.row 15 [c] false true 2,.row 15 [.agg [.int .i64 4,.int .i64 0,.int .i64 0,.int .i64 0,.str [],.tsl 11 [q0m p],.int .i64 0,.int .i64 0,.int .i64 0,.int .i64 0,.int .i64 0,.tsl 6 [],.tsl 13 [],.tsl 17 [],.tsl 15 []]] false true 3,.row 15 [q1Z] false true 4,.row 15 [qpp 6] false false 5,.row 11 [q0m p] false true 6],base:=3 }) (fun _=>True) (fun _=>0) () rfl trivial ?_
  intro _ _
  unfold qpp
  (repeat' first|simp (disch:=omega) only[go_sem]|(apply spl<;>intro h<;>try simp (disch:=omega) only[go_sem,h]))
  refine q07 (α:=Unit) (fun _=>{ tmps:=q0q 54 [(2,.ptr 15 3 0 0),(3,.ptr 15 4 0 0),(39,.tsl 15 []),(40,.int .i64 0),(41,.int .i64 0)],heap:=[.row 15 [a] false true 0,.row 15 [b] false true 1,.row 15 [c] false true 2,.row 15 [q1Z] false true 3,.row 15 [qpp 5] false false 4,.row 11 [q0m p] false true 5],base:=3 }) (fun _=>True) (fun _=>0) () rfl trivial ?_
  intro _ _
  unfold qpp q1Z
  (repeat' first|simp (disch:=omega) only[go_sem,qta]|(apply spl<;>intro h<;>try simp (disch:=omega) only[go_sem,h]))
  refine ⟨_,rfl,?_,?_⟩
  ·rfl
  ·rfl
 rw[q4N] at h ⊢
 exact qlO rfl h
end Ago
set_option maxRecDepth 100000
set_option maxHeartbeats 4000000
namespace Ago
open Go (IntKind)
theorem qiJ (f:Sch→Sch→Sch) (m:Int) (y:Sch):q0k CI 987 [q03 (q1W m),q03 y] (q03 (q2W f (q1W m) y)):=by
 have cp:=fun H=>q12 (q1W m) (by rw[qaH]; decide) H (.inl (show (3:Int)≠4 by decide))
 rw[qaV,q8j] at *
 rw[q02 y]
 refine q04 q7Z rfl ?_
 (repeat' first|simp (disch:=omega) only[go_sem,q7Z,enter]|(refine q0f _ _ (cp _) ?_))
 all_goals rfl
theorem qio (f:Sch→Sch→Sch) (a b c d:Int):q0k CI 987 [q03 (q24 a b),q03 (q24 c d)] (q03 (q2W f (q24 a b) (q24 c d))):=by
 have cp:=fun H=>q12 (q24 a b) (by rw[q4z]; decide) H (.inl (show (5:Int)≠4 by decide))
 rw[qaI,q4W,q4W,q4W] at *
 refine q04 q7Z rfl ?_
 (repeat' first|simp (disch:=omega) only[go_sem,q7Z,enter]|(refine q0f _ _ (cp _) ?_)|(apply spl<;>intro h<;>try simp (disch:=omega) only[go_sem,h]))
 refine q3t ?s1 ?g1 ?g2
 rotate_left
 case g1=>
  repeat' first | exact q3z | refine q2O ?_ ?_
  all_goals
   (repeat' first|simp (disch:=omega) only[go_sem,q3W]|(apply spl<;>intro h<;>try simp (disch:=omega) only[go_sem,h]))
   all_goals rfl
 (repeat' first|simp (disch:=omega) only[go_sem]|(apply spl<;>intro h<;>try simp (disch:=omega) only[go_sem,h]))
 all_goals rw[qss,qrT]
 all_goals rfl
theorem qnX (f:Sch→Sch→Sch) (p q:List (PK × Sch)) (hp:(q3Z p).bulk≤2^24) (h:q0k CI 999 [.tsl 17 (p.map q0i),.tsl 17 (q.map q0i)] (.tsl 17 ((q0I f p q).map q0i))):q0k CI 987 [q03 (q3Z p),q03 (q3Z q)] (q03 (q2W f (q3Z p) (q3Z q))):=by
 have cp:=fun H=>q12 (q3Z p) hp H (.inl (show (10:Int)≠4 by decide))
 rw[q9u,q1f,q1f,q1f] at *
 refine q04 q7Z rfl ?_
 (repeat' first|simp (disch:=omega) only[go_sem,q7Z,enter]|refine q00 _ (h) ?_|(refine q0f _ _ (cp _) ?_))
 all_goals rfl
theorem qkS (f:Sch→Sch→Sch) (a b c d:Int) (x y:Sch) (hp:(q1I a b x).bulk≤2^24) (h:q0k CI 974 [q03 x,q03 y] (q03 (f x y))):q0k CI 987 [q03 (q1I a b x),q03 (q1I c d y)] (q03 (q2W f (q1I a b x) (q1I c d y))):=by
 have cp:=fun H=>q12 (q1I a b x) hp H (.inl (show (9:Int)≠4 by decide))
 rw[q7q,q4Q,q4Q,q4Q] at *
 rw[q02 x,q02 y,q02 (f x y)] at *
 refine q04 q7Z rfl ?_
 (repeat' first|simp (disch:=omega) only[go_sem,q7Z,enter]|(refine q0f _ _ (cp _) ?_)|(apply spl<;>intro h<;>try simp (disch:=omega) only[go_sem,h]))
 refine q3t ?s1 ?g1 ?g2
 rotate_left
 case g1=>
  repeat' first | exact q3z | refine q2O ?_ ?_
  all_goals
   (repeat' first|simp (disch:=omega) only[go_sem,q3W]|(apply spl<;>intro h<;>try simp (disch:=omega) only[go_sem,h]))
   all_goals rfl
 (repeat' first|simp (disch:=omega) only[go_sem]|refine q00 _ (h) ?_|(apply spl<;>intro h<;>try simp (disch:=omega) only[go_sem,h]))
 all_goals rw[qss,qrT]
 all_goals rfl
theorem qng (f:Sch→Sch→Sch) (p q:Prt) (h1:q0a p.lo.num=true) (h2:q0a p.hi.num=true) (h3:q0a q.lo.num=true) (h4:q0a q.hi.num=true):q0k CI 987 [q03 (q4j p),q03 (q4j q)] (q03 (q2W f (q4j p) (q4j q))):=by
 have cp:=qgY p (q03 (q4j p)) (q03 (q4j q)) q1Z
 have c1:=qll (q4J q.lo.num p.lo.num h3 h1)
 have c2:=qll (q4J q.hi.num p.hi.num h4 h2)
 rw[q8x]
 unfold q2f
 unfold q0h at c1 c2
 generalize q2V q.lo.num p.lo.num=k1 at *
 generalize q2V q.hi.num p.hi.num=k2 at *
 rw[q4N,q4N,q4N] at *
 unfold qpp q1Z q0m at *
 refine q04 q7Z rfl ?_
 (repeat' first|simp (disch:=omega) only[go_sem,q7Z,enter]|(refine q0f _ _ cp ?_)|(apply spl<;>intro h<;>try simp (disch:=omega) only[go_sem,h]))
 by_cases e1:k1<0<;>by_cases e2:0<k2<;>by_cases e3:q.sort=0
 all_goals
  try simp only[e1,e2,e3,if_true,if_false]
  (repeat' first|simp (disch:=omega) only[go_sem,e1,e2,e3,gt_iff_lt]|refine q00 _ (c1) ?_|refine q00 _ (c2) ?_)
  all_goals first | rfl | trace_state
end Ago
