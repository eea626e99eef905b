/- Same of a schema and itself; what is clean is cloned as it is. -/
import Derived.Test.YtkibapblgbdhmaaGreatDoorRunK
import Derived.Test.YtkibapblgbdhmaaGreatDoorRunF
import Derived.Test.YtkibapblgbdhmaaGreatDoorRunA
import Derived.Test.YtkibapblgbdhmaaGreatDoorRunG
import Derived.Test.YtkibapblgbdhmaaGreatDoorRunC
set_option linter.unusedSimpArgs false
set_option linter.unusedVariables false
set_option maxRecDepth 100000
set_option maxHeartbeats 16000000
namespace Ago
open Go (IntKind)
def qn3:Nat→Pat→Prop
 | 0,_=>False
 | d+1,p=>∀ a,a∈p.a→qn3 d a
theorem q9d : ∀ (d:Nat) (p:Pat),q1L d p=true→qn3 d p
 | 0,p,h=>by cases h
 | d+1,p,h=>fun a ha=>by
  rw[q4a,Bool.and_eq_true,List.all_eq_true] at h
  exact q9d d a (h.2 a ha)
theorem qjD {p:Pat} (h:q1E p=true):qn3 48 p:=fun a ha=>by
 unfold q1E at h
 have h:=of_decide_eq_true h
 have:p.a=[]:=List.length_eq_zero_iff.1 h.2.2.2.2.2
 rw[this] at ha
 cases ha
theorem qb0 : ∀ (d:Nat) (D:Int),D=d→d<2^30→∀ x:Pat,x.bulk≤2^24→qn3 d x→q0f CS 567 [q0v x,q0v x,.int .i64 D] (.bool true):=by
 intro d
 induction d with
 | zero=>intro D hD hd x hx h; exact h.elim
 | succ d ih=>
  intro D hD hd x hx h
  have L:=Pat.lens hx
  have hal:=L.args
  refine q04 qg1 rfl ?_
  rw[q0e]
  (repeat' first|simp (disch:=omega) only[go_sem,qg1,enter,List.length_map,bne_self_eq_false]|(apply spl<;>intro h<;>try simp (disch:=omega) only[go_sem,h]))
  all_goals first | omega | skip
  refine q08 (α:=Nat) (fun k=>{ tmps:=q0i 75 [(2,.int .i64 D),(3,.ptr 6 0 0 0),(4,.ptr 6 1 0 0),(7,.int .i64 k)],heap:=[.row 6 [q0v x] false true 0,.row 6 [q0v x] false true 1],base:=0 }) (fun k=>k≤x.a.length) (fun k=>x.a.length-k) 0 (by rw[q0e x]; rfl) (Nat.zero_le _) ?_
  intro k hk
  rw[q0e x]
  by_cases hlt:k<x.a.length
  ·obtain ⟨y,hy⟩:=q06 hlt
   have hym:=List.mem_of_getElem? hy
   have hy2:=q09 (g:=q0v) hy
   have hr:=ih (D-1) (by omega) (by omega) y (by have:=L.kids y hym; omega) (h y hym)
   rw[q0e y] at hy2 hr
   (repeat' first|simp (disch:=omega) only[go_sem,hy2,List.length_map]|refine q00 _ (hr) ?_|(apply spl<;>intro h<;>try simp (disch:=omega) only[go_sem,h]))
   all_goals first | omega | skip
   exact ⟨k+1,rfl,hlt,by omega⟩
  ·(repeat' first|simp (disch:=omega) only[go_sem,List.length_map]|(apply spl<;>intro h<;>try simp (disch:=omega) only[go_sem,h]))
   all_goals omega
theorem q7K (x:Pat) (hx:x.bulk≤2^24) (h:qn3 48 x):q0f CS 523 [q0v x,q0v x] (.bool true):=by
 have h:=qb0 48 48 rfl (by decide) x hx h
 refine q04 qg4 rfl ?_
 rw[q0e] at h ⊢
 (repeat' first|simp (disch:=omega) only[go_sem,qg4,enter]|refine q00 _ (h) ?_|(apply spl<;>intro h<;>try simp (disch:=omega) only[go_sem,h]))
theorem qaN (l:List Prt) (hl:l.length<2^31):q0f CS 522 [.agg [.tsl 11 (l.map q0p)],.agg [.tsl 11 (l.map q0p)]] (.bool true):=by
 refine q04 qgZ rfl ?_
 (repeat' first|simp (disch:=omega) only[go_sem,qgZ,enter,List.length_map,bne_self_eq_false]|(apply spl<;>intro h<;>try simp (disch:=omega) only[go_sem,h]))
 refine q08 (α:=Nat) (fun k=>{ tmps:=q0i 31 [(2,.ptr 1 0 0 0),(3,.ptr 1 1 0 0),(5,.int .i64 k)],heap:=[.row 1 [.agg [.tsl 11 (l.map q0p)]] false true 0,.row 1 [.agg [.tsl 11 (l.map q0p)]] false true 1],base:=0 }) (fun k=>k≤l.length) (fun k=>l.length-k) 0 rfl (Nat.zero_le _) ?_
 rintro k hk
 by_cases hlt:k<l.length
 ·obtain ⟨p,hp⟩:=q06 hlt
  have hp2:=q09 (g:=q0p) hp
  simp only[q0p] at hp2
  (repeat' first|simp (disch:=omega) only[go_sem,hp2,List.length_map]|(apply spl<;>intro h<;>try simp (disch:=omega) only[go_sem,h]))
  all_goals try omega
  exact ⟨k+1,rfl,hlt,by omega⟩
 ·(repeat' first|simp (disch:=omega) only[go_sem,List.length_map]|(apply spl<;>intro h<;>try simp (disch:=omega) only[go_sem,h]))
  all_goals omega
theorem qhv (l:List V):q0f CS 529 [.tsl 13 (l.map q0j)] (q0j (.mk ⟨6,false,⟨false,[],0⟩,⟨0,0,0,0⟩,[],[]⟩ l [])):=by
 refine q04 qfb rfl ?_
 rw[q07]
 (repeat' first|simp (disch:=omega) only[go_sem,qfb,enter]|(apply spl<;>intro h<;>try simp (disch:=omega) only[go_sem,h]))
 all_goals rfl
theorem qcd (l:List V) (hl:AV.bulks (l.map q0j)≤2^23):q0f CS 524 [.tsl 13 (l.map q0j),.tsl 13 (l.map q0j)] (.bool true):=by
 have h1:=qhv l
 have h2:=upS (qbP (2^24) (.mk ⟨6,false,⟨false,[],0⟩,⟨0,0,0,0⟩,[],[]⟩ l []) (by
  rw[V.bulk_eq]
  simp [V.s,V.l,V.f,q7D,AV.bulks]
  omega) (Nat.le_refl _))
 refine q04 qjK rfl ?_
 rw[q07] at h1 h2
 (repeat' first|simp (disch:=omega) only[go_sem,qjK,enter]|refine q00 _ (h1) ?_|refine q00 _ (h2) ?_|(apply spl<;>intro h<;>try simp (disch:=omega) only[go_sem,h]))
end Ago
set_option maxRecDepth 100000
set_option maxHeartbeats 16000000
namespace Ago
open Go (IntKind)
def q8V:Nat→Sch→Prop
 | 0,_=>False
 | d+1,x=>(∀ v,v∈x.s.vals→qaG 65536 v=v)∧qn3 48 x.s.pat∧∀ y,y∈x.kids→q8V d y
theorem qjG {v:V} (h:q6d v=true):qaG 65536 v=v:=by
 unfold q6d at h
 rw[Bool.and_eq_true] at h
 obtain ⟨h1,h2⟩:=h
 have h1:=of_decide_eq_true h1
 have h2:=of_decide_eq_true h2
 have ho:ownM v=true:=by
  cases hb:ownM v with
  | true=>rfl
  | false=>
   exfalso
   have h3:q9x v=6:=by unfold q9x; rw[if_pos hb]
   have h4:q1x 49 v 1 0=(0,6):=by
    show (if (48:Int)<1 then _ else if (65536:Int)≤0 then _ else if q9x v≠0 then ((0:Int),q9x v) else _)=_
    rw[if_neg (by decide),if_neg (by decide),if_pos (by rw[h3]; decide),h3]
   unfold q3q at h2
   rw[h4] at h2
   cases h2
 unfold ownM at ho
 simp only[Bool.and_eq_true,Bool.or_eq_true,beq_iff_eq,decide_eq_true_eq] at ho
 have hl:v.l=[]:=by
  rcases ho.1.2 with h | h
  ·omega
  ·exact List.length_eq_zero_iff.1 (by omega)
 have hf:v.f=[]:=by
  rcases ho.2 with h | h
  ·omega
  ·exact List.length_eq_zero_iff.1 (by omega)
 obtain ⟨s,l,f⟩:=v
 have hl:l=[]:=hl
 have hf:f=[]:=hf
 subst hl hf
 rfl
theorem qeY {s:Schs} {x:Sch} (h:q63 s x=0):(∀ v,v∈x.s.vals→qaG 65536 v=v)∧qn3 48 x.s.pat:=by
 have hf:q1p x=true:=by
  cases hb:q1p x with
  | true=>rfl
  | false=>
   unfold q63 at h
   rw[if_pos hb] at h
   cases h
 unfold q1p at hf
 rw[Bool.and_eq_true,Bool.and_eq_true] at hf
 obtain ⟨⟨_,hb⟩,hr⟩:=hf
 unfold q1J at hb
 rw[Bool.and_eq_true,Bool.and_eq_true] at hb
 obtain ⟨⟨hb1,_⟩,hb2⟩:=hb
 rw[Bool.or_eq_true] at hb2
 have hb1:=of_decide_eq_true hb1
 refine ⟨fun v hv=>?_,?_⟩
 ·have h8:x.s.op=8:=by
   rcases hb1.2.2.2.1 with h8 | h8
   ·exact h8
   ·rw[List.length_eq_zero_iff.1 h8] at hv
    cases hv
  rw[if_neg (by omega),if_neg (by omega),if_neg (by omega),if_neg (by omega),if_pos h8,Bool.and_eq_true,List.all_eq_true] at hr
  exact qjG (hr.1 v hv)
 ·rcases hb2 with h6 | hn
  ·have h6:=of_decide_eq_true h6
   rw[if_neg (by omega),if_neg (by omega),if_neg (by omega),if_pos h6] at hr
   unfold qcM at hr
   rw[Bool.and_eq_true] at hr
   exact q9d _ _ hr.1
  ·exact qjD hn
theorem q9b {α:Type} {f:α→Int} : ∀ {l:List α},q59 (l.map f)=0→∀ x,x∈l→f x=0
 | [],_,x,hx=>by cases hx
 | y::l,h,x,hx=>by
  simp only[List.map_cons,q59] at h
  by_cases hy:f y=0
  ·rw[if_pos hy] at h
   rcases List.mem_cons.1 hx with rfl | hx
   ·exact hy
   ·exact q9b h x hx
  ·rw[if_neg hy] at h
   exact (hy h).elim
theorem qen (s:Schs) : ∀ (d:Nat) (x:Sch),q0I s d x=0→q1U d x=false→q8V d x
 | 0,x,_,h2=>by rw[q6i] at h2; cases h2
 | d+1,x,h1,h2=>by
  rw[q5o] at h1
  rw[q6v] at h2
  have hn:q63 s x=0:=by
   by_cases hn:q63 s x=0
   ·exact hn
   ·rw[if_neg hn] at h1
    exact h1
  rw[if_pos hn] at h1
  obtain ⟨k1,k2⟩:=qeY hn
  refine ⟨k1,k2,fun y hy=>qen s d y (q9b h1 y hy) ?_⟩
  have:=List.any_eq_false.1 h2 y hy
  simpa using this
theorem qbJ : ∀ (d:Nat) (D:Int),D=d→d<2^30→∀ x:Sch,x.bulk≤2^22→q8V d x→q0f CS 494 [q03 x,q03 x,.int .i64 D] (.bool true):=by
 intro d
 induction d with
 | zero=>intro D hD hd x hx h; exact h.elim
 | succ d ih=>
  intro D hD hd x hx h
  obtain ⟨_,hpd,hkd⟩:=h
  have L:=Sch.lens (N:=2^24) (v:=x) (by omega)
  have q1:=qaN x.s.parts (by have:=L.parts; omega)
  have q2:=q7K x.s.pat (by have:=L.pat; omega) hpd
  have q3:=qcd x.s.vals (by have:=x.bulk_eq; omega)
  have q4:=q3G x (by omega)
  have hkl:=q4S x
  have hpp:=L.props
  rw[q0e] at q2
  rw[q01] at q4
  refine q04 qjz rfl ?_
  rw[q01]
  (repeat' first|simp (disch:=omega) only[go_sem,qjz,enter,List.length_map,bne_self_eq_false]|refine q00 _ (q1) ?_|refine q00 _ (q2) ?_|refine q00 _ (q3) ?_|refine q00 _ (q4) ?_|(apply spl<;>intro h<;>try simp (disch:=omega) only[go_sem,h]))
  all_goals first | omega | skip
  refine q08 (α:=Nat) (fun k=>{ tmps:=q0i 145 [(2,.int .i64 D),(3,.ptr 15 0 0 0),(4,.ptr 15 1 0 0),(7,.int .i64 k)],heap:=[.row 15 [q03 x] false true 0,.row 15 [q03 x] false true 1],base:=0 }) (fun k=>k≤x.p.length) (fun k=>x.p.length-k) 0 (by rw[q01 x]; rfl) (Nat.zero_le _) ?_
  intro k hk
  rw[q01 x]
  by_cases hlt:k<x.p.length
  ·obtain ⟨y,hy⟩:=q06 hlt
   have hy2:=q09 (g:=q0h) hy
   rw[q0m y] at hy2
   (repeat' first|simp (disch:=omega) only[go_sem,hy2,List.length_map,bne_self_eq_false]|(apply spl<;>intro h<;>try simp (disch:=omega) only[go_sem,h]))
   all_goals first | omega | skip
   exact ⟨k+1,rfl,hlt,by omega⟩
  ·have hk2:k=x.p.length:=by omega
   subst hk2
   (repeat' first|simp (disch:=omega) only[go_sem,List.length_map]|refine q00 _ (q4) ?_|(apply spl<;>intro h<;>try simp (disch:=omega) only[go_sem,h]))
   all_goals first | omega | skip
   refine q08 (α:=Nat) (fun k=>{ tmps:=q0i 145 [(2,.int .i64 D),(8,.tsl 15 (x.kids.map q03)),(9,.tsl 15 (x.kids.map q03)),(10,.int .i64 k)],heap:=[],base:=0 }) (fun k=>k≤x.kids.length) (fun k=>x.kids.length-k) 0 (by rfl) (Nat.zero_le _) ?_
   intro k hk
   by_cases hlt:k<x.kids.length
   ·obtain ⟨y,hy⟩:=q06 hlt
    have hym:=List.mem_of_getElem? hy
    have hy2:=q09 (g:=q03) hy
    have hyb:=Sch.kids_bulk hym
    have hr:=ih (D-1) (by omega) (by omega) y (by omega) (hkd y hym)
    rw[q01] at hy2 hr
    (repeat' first|simp (disch:=omega) only[go_sem,hy2,List.length_map]|refine q00 _ (hr) ?_|(apply spl<;>intro h<;>try simp (disch:=omega) only[go_sem,h]))
    all_goals first | omega | skip
    exact ⟨k+1,rfl,hlt,by omega⟩
   ·(repeat' first|simp (disch:=omega) only[go_sem,List.length_map]|(apply spl<;>intro h<;>try simp (disch:=omega) only[go_sem,h]))
    all_goals first | omega | skip
end Ago
set_option maxRecDepth 100000
set_option maxHeartbeats 4000000
namespace Ago
open Go (IntKind)
theorem qqT {α:Type} {p:α→Bool} {l:List α} {k:Nat} (h : ∀ y,y∈l.take k→p y=true) (h2 : ∀ z,l[k]?=some z→p z=false):l.takeWhile p=l.take k∧l.dropWhile p=l.drop k:=by
 induction l generalizing k with
 | nil=>simp
 | cons x l ih=>
  cases k with
  | zero=>
   have:=h2 x rfl
   simp [this]
  | succ k=>
   have h3:=h x (by simp)
   obtain ⟨a,b⟩:=ih (k:=k) (fun y hy=>h y (by simp [hy])) (fun z hz=>h2 z (by simpa using hz))
   simp [h3,a,b]
theorem q7l {α:Type} (l:List (List UInt8 × α)):(q30 l).length=l.length:=(q2q l).length_eq
def qiR (f:List (List UInt8 × V)) (i:Nat) (E:List AV) (t:List (Nat × AV)):St:={ tmps:=q0i 51 ([(0,.tsl 14 (f.map q0r)),(3,q2k 14 0 E),(4,.int .i64 i)]++t),heap:=q2j 14 0 E,base:=0 }
theorem qjB (f:List (List UInt8 × V)) (hf:f.length<2^24):q0f CS 636 [.tsl 14 (f.map q0r)] (.tsl 14 ((q30 f).map q0r)):=by
 refine q04 qkr rfl ?_
 (repeat' first|simp (disch:=omega) only[go_sem,qkr,enter]|(apply spl<;>intro h<;>try simp (disch:=omega) only[go_sem,h]))
 refine q08 (α:=Nat × List AV) (fun a=>qiR f a.1 a.2 []) (fun a=>a.1≤f.length∧a.2=(q30 (f.take a.1)).map q0r) (fun a=>f.length-a.1) (0,[]) rfl ⟨Nat.zero_le _,rfl⟩ ?_
 rintro ⟨i,E⟩ ⟨hi,hE⟩
 simp only at hi hE
 have hFl:(q30 (f.take i)).length=i:=by
  rw[q7l,List.length_take]
  omega
 by_cases hlt:i<f.length
 ·obtain ⟨x,hx⟩:=q06 hlt
  have hx2:=q09 (g:=q0r) hx
  have hsn:q30 (f.take (i+1))=q9s x (q30 (f.take i)):=by
   rw[List.take_add_one,hx]
   exact qhm _ _
  rw[q0D] at hx2
  generalize hF:q30 (f.take i)=F at hE hFl hsn
  rcases F with _ | ⟨z,zs⟩
  ·have hnew:(q30 (f.take (i+1))).map q0r=[q0r x]:=by rw[hsn]; rfl
   subst hE
   simp only[qiR,q2k,q2j,List.map_nil,List.isEmpty_nil,if_true,List.append_nil]
   (repeat' first|simp (disch:=omega) only[go_sem,hx2,List.length_map]|(apply spl<;>intro h<;>try simp (disch:=omega) only[go_sem,h]))
   refine q08 (α:=Unit) (fun _=>qiR f i [] [(5,.int .i64 0)]) (fun _=>True) (fun _=>0) () rfl trivial ?_
   intro _ _
   simp only[qiR,q2k,q2j,List.isEmpty_nil,if_true]
   (repeat' first|simp (disch:=omega) only[go_sem,hx2,List.length_map]|(apply spl<;>intro h<;>try simp (disch:=omega) only[go_sem,h]))
   refine ⟨(i+1,[q0r x]),?_,⟨hlt,hnew.symm⟩,by simp only; omega⟩
   rw[q0D]
   rfl
  ·have hEl:E.length=i:=by rw[hE,List.length_map,hFl]
   obtain ⟨e0,es,he⟩ : ∃ e0 es,E=e0::es:=⟨_,_,hE⟩
   have hel:es.length+1=i:=by rw[←hEl,he]; rfl
   have hnew : ∀ k,(∀ y,y∈(z::zs).take k→leB y.1 x.1=true)→(∀ y,(z::zs)[k]?=some y→leB y.1 x.1=false)→E.take k++q0r x::E.drop k=(q30 (f.take (i+1))).map q0r:=fun k h1 h2=>by
    obtain ⟨t1,t2⟩:=qqT (p:=fun (y:List UInt8 × V)=>leB y.1 x.1) h1 h2
    rw[hsn,hE]
    unfold q9s
    rw[t1,t2]
    simp only[List.map_append,List.map_cons,List.map_take,List.map_drop]
   have hget : ∀ k y,(z::zs)[k]?=some y→(e0::es)[k]?=some (q0r y):=fun k y h=>by rw[←he,hE]; exact q09 h
   subst he
   simp only[qiR,q2k,q2j,List.isEmpty_cons,Bool.false_eq_true,if_false,List.length_cons,List.append_nil]
   (repeat' first|simp (disch:=omega) only[go_sem,hx2,List.length_map]|(apply spl<;>intro h<;>try simp (disch:=omega) only[go_sem,h]))
   refine q08 (α:=Nat) (fun k=>qiR f i (e0::es) [(5,.int .i64 k)]) (fun k=>k≤i∧∀ y,y∈(z::zs).take k→leB y.1 x.1=true) (fun k=>i-k) 0 rfl ⟨Nat.zero_le _,by simp⟩ ?_
   rintro k ⟨hk,hle⟩
   simp only[qiR,q2k,q2j,List.isEmpty_cons,Bool.false_eq_true,if_false,List.length_cons]
   by_cases hki:k<i
   ·obtain ⟨y,hy⟩ : ∃ y,(z::zs)[k]?=some y:=q06 (by omega)
    have hy2:=hget k y hy
    rw[q0D] at hy2
    cases hle2:leB y.1 x.1 with
    | true=>
     (repeat' first|simp (disch:=omega) only[go_sem,hx2,hy2,List.length_map,qcH,hle2]|(apply spl<;>intro h<;>try simp (disch:=omega) only[go_sem,h]))
     refine ⟨k+1,rfl,⟨hki,fun w hw=>?_⟩,by omega⟩
     rw[List.take_add_one,hy] at hw
     rcases List.mem_append.1 hw with hw | hw
     ·exact hle w hw
     ·obtain rfl:w=y:=by simpa using hw
      exact hle2
    | false=>
     have hn:=hnew k hle fun w hw=>by rw[hy] at hw; cases hw; exact hle2
     rcases k with _ | k
     ·(repeat' first|simp (disch:=omega) only[go_sem,hx2,hy2,List.length_map,qcH,hle2,Nat.sub_zero,qqL,qrk,List.length_cons,List.take_length]|(apply spl<;>intro h<;>try simp (disch:=omega) only[go_sem,h]))
      have e1:1+(es.length+1)=es.length+1+1:=by omega
      rw[e1]
      refine ⟨(i+1,q0r x::e0::es),?_,⟨hlt,hn⟩,by simp only; omega⟩
      rw[q0D]
      rfl
     ·have htl:(es.take k).length=k:=by rw[List.length_take]; omega
      have hdt:(es.drop k).take (es.length+1-(k+1))=es.drop k:=List.take_of_length_le (by rw[List.length_drop]; omega)
      have hln:k+1+1+(es.length-k)=es.length+1+1:=by omega
      (repeat' first|simp (disch:=omega) only[go_sem,hx2,hy2,List.length_map,qcH,hle2,Nat.sub_zero,htl,hdt,hln,qqL,qrp,qrk,List.length_cons,List.length_append,List.length_nil,List.length_drop]|(apply spl<;>intro h<;>try simp (disch:=omega) only[go_sem,h]))
      refine ⟨(_+1,e0::(es.take k++[q0r x]++es.drop k)),?_,⟨hlt,by simp only; rw[←hn]; simp⟩,by simp only; omega⟩
      rw[q0D]
      simp only[qiR,q2k,q2j,List.isEmpty_cons,Bool.false_eq_true,if_false,List.length_cons,List.length_append,List.length_nil,List.length_drop,htl]
      rw[show k+(0+1)+(es.length-k)+1=es.length+1+1 by omega]
      rfl
   ·obtain rfl:k=i:=by omega
    have hn:=hnew k hle fun w hw=>by rw[List.getElem?_eq_none (by rw[hFl]; omega)] at hw; cases hw
    rcases k with _ | k
    ·omega
    ·have htl:(es.take k).length=k:=by rw[List.length_take]; omega
     have hdt:(es.drop k).take (es.length+1-(k+1))=es.drop k:=List.take_of_length_le (by rw[List.length_drop]; omega)
     have hln:k+1+1+(es.length-k)=es.length+1+1:=by omega
     (repeat' first|simp (disch:=omega) only[go_sem,hx2,List.length_map,Nat.sub_zero,htl,hdt,hln,qqL,qrp,qrk,List.length_cons,List.length_append,List.length_nil,List.length_drop]|(apply spl<;>intro h<;>try simp (disch:=omega) only[go_sem,h]))
     refine ⟨(_+1,e0::(es.take k++[q0r x]++es.drop k)),?_,⟨hlt,by simp only; rw[←hn]; simp⟩,by simp only; omega⟩
     rw[q0D]
     simp only[qiR,q2k,q2j,List.isEmpty_cons,Bool.false_eq_true,if_false,List.length_cons,List.length_append,List.length_nil,List.length_drop,htl]
     rw[show k+(0+1)+(es.length-k)+1=es.length+1+1 by omega]
     rfl
 ·have hil:i=f.length:=by omega
  rw[hil,List.take_length] at hE
  rw[←hE]
  rcases E with _ | ⟨e0,es⟩
  all_goals
   simp only[qiR,q2k,q2j,List.isEmpty_nil,List.isEmpty_cons,if_true,Bool.false_eq_true,if_false,List.length_cons,List.append_nil]
   (repeat' first|simp (disch:=omega) only[go_sem,List.length_map,List.take_length,List.length_cons]|(apply spl<;>intro h<;>try simp (disch:=omega) only[go_sem,h]))
   all_goals rfl
def qhl:AV:=.agg [.int .i64 0,.bool false,.bool false,.str [],.int .i64 0,.int .i64 0,.int .i64 0,.int .i64 0,.int .i64 0,.str [],.snil 1,.snil 13,.snil 14]
def q3H (v:V) (l f:AV):List AV:=[.int .i64 v.s.kind,.bool v.s.bool,.bool v.s.num.neg,.str v.s.num.digits,.int .i64 v.s.num.exp,.int .i64 v.s.time.kind,.int .i64 v.s.time.day,.int .i64 v.s.time.nano,.int .i64 v.s.time.off,.str v.s.text,.tsl 1 (q7D v.s.bytes),l,f]
def qlE (n0:Nat) (ahead:Heap) (t:List (Nat × AV)) (pre:List (Nat × Bool × List AV)) (cells:List AV→List AV):St:=
 { tmps:=q0i 55 ([(2,.ptr 13 n0 0 0),(3,.ptr 13 (n0+1) 0 0)]++t),heap:=ahead++[.row 13 [qhl] false true n0,.row 13 [.agg (cells (qa7 (n0+2) pre).1)] false (pre.all fun p=>p.2.1) (n0+1)]++(qa7 (n0+2) pre).2,base:=0 }
theorem qfD : ∀ (n:Nat) (v:V),v.bulk≤n→n≤2^24→q0f CS 620 [q0j v] (q0j (q13 n v)):=by
 intro n
 induction n with
 | zero=>
  intro x h1 h2
  have:1≤x.bulk:=q1b _
  omega
 | succ n ih=>
  intro v h1 h2
  have L:=V.lens (v:=v) (N:=2^24) (by omega)
  have l1:=L.list
  have l2:=L.fields
  have hfr:=qjB v.f l2
  have hflen:(q30 v.f).length=v.f.length:=q7l _
  have hres:q0j (q13 (n+1) v) = .agg (q3H v (.tsl 13 ((v.l.map (q13 n)).map q0j)) (.tsl 14 (((q30 v.f).map fun y=>(y.1,q13 n y.2)).map q0r))):=by
   rw[q07]
   rfl
  rw[hres]
  refine q04 qkl rfl ?_
  rw[q07]
  (repeat' first|simp (disch:=omega) only[go_sem,qkl,enter,List.length_map]|(apply spl<;>intro h<;>try simp (disch:=omega) only[go_sem,h]))
  refine q08 (α:=Nat × List AV) (fun a=>qlE 1 [.row 13 [q0j v] false true 0] [(1,.ptr 13 0 0 0),(4,.int .i64 a.1)] [(13,a.2.isEmpty,a.2)] fun c=>q3H v (c.getD 0 .dead) (.snil 14))
   (fun a=>a.1≤v.l.length∧a.2=((v.l.take a.1).map (q13 n)).map q0j) (fun a=>v.l.length-a.1) (0,[]) (by
    simp only[qlE,List.isEmpty_nil,q1c,q2v]
    rw[q07]
    rfl) ⟨Nat.zero_le _,by simp⟩ ?_
  rintro ⟨k,E⟩ ⟨hk,hE⟩
  simp only at hk hE
  rcases hEe:E with _ | ⟨e0,es⟩
  all_goals
   simp only[qlE,q3H,hEe,List.isEmpty_nil,List.isEmpty_cons,q1c,q2v,q2P,List.length_cons,List.length_nil,List.getD_cons_zero,List.getD_cons_succ,List.all_cons,List.all_nil,Bool.and_true,Bool.and_false,Bool.true_and,List.cons_append,List.nil_append]
   rw[q07]
   by_cases hlt:k<v.l.length
   ·obtain ⟨y,hy⟩:=q06 hlt
    have hym:=List.mem_of_getElem? hy
    have hy2:=q09 (g:=q0j) hy
    have hr:=ih y (by have:=L.kids y hym; omega) (by omega)
    have hnew:E++[q0j (q13 n y)]=((v.l.take (k+1)).map (q13 n)).map q0j:=by rw[hE,List.take_add_one,hy]; simp
    have hEl:E.length=k:=by rw[hE]; simp; omega
    rw[hEe] at hnew hEl
    simp only[List.length_cons,List.length_nil] at hEl
    rw[q07] at hy2 hr
    rw[q07 (q13 n y)] at hr
    (repeat' first|simp (disch:=omega) only[go_sem,hy2,List.length_map,qhl,List.length_cons,List.length_nil]|refine q00 _ (hr) ?_|(apply spl<;>intro h<;>try simp (disch:=omega) only[go_sem,h]))
    refine ⟨(k+1,_++[q0j (q13 n y)]),?_,⟨hlt,hnew⟩,by simp only; omega⟩
    simp only[qlE,q3H,List.isEmpty_nil,List.isEmpty_cons,q1c,q2v,q2P,List.length_cons,List.length_nil,List.length_append,List.getD_cons_zero,List.getD_cons_succ,List.all_cons,List.all_nil,Bool.and_true,Bool.and_false,Bool.true_and,List.cons_append,List.nil_append]
    rw[q07 (q13 n y)]
    rfl
   ·have hkl:k=v.l.length:=by omega
    have hE2:E=(v.l.map (q13 n)).map q0j:=by rw[hE,hkl,List.take_length]
    have hEl:E.length=v.l.length:=by rw[hE2]; simp
    rw[hEe] at hEl hE2
    simp only[List.length_cons,List.length_nil] at hEl
    (repeat' first|simp (disch:=omega) only[go_sem,qhl,List.length_map]|refine q00 _ (hfr) ?_|(apply spl<;>intro h<;>try simp (disch:=omega) only[go_sem,h]))
    refine q08 (α:=Nat × List AV) (fun a=>qlE 0 [] [(5,.tsl 14 ((q30 v.f).map q0r)),(6,.int .i64 a.1)] [(13,((v.l.map (q13 n)).map q0j).isEmpty,(v.l.map (q13 n)).map q0j),(14,a.2.isEmpty,a.2)] fun c=>q3H v (c.getD 0 .dead) (c.getD 1 .dead))
     (fun a=>a.1≤v.f.length∧a.2=(((q30 v.f).take a.1).map fun y=>(y.1,q13 n y.2)).map q0r) (fun a=>v.f.length-a.1) (0,[]) (by
      simp only[qlE,q3H,←hE2,List.isEmpty_nil,List.isEmpty_cons,q1c,q2v,q2P,List.length_cons,List.length_nil]
      rfl) ⟨Nat.zero_le _,by simp⟩ ?_
    rintro ⟨j,F⟩ ⟨hj,hF⟩
    simp only at hj hF
    rcases hFe:F with _ | ⟨f0,fs⟩
    all_goals
     simp only[qlE,q3H,←hE2,hFe,List.isEmpty_nil,List.isEmpty_cons,q1c,q2v,q2P,List.length_cons,List.length_nil,List.getD_cons_zero,List.getD_cons_succ,List.all_cons,List.all_nil,Bool.and_true,Bool.and_false,Bool.true_and,List.cons_append,List.nil_append]
     by_cases hlt2:j<v.f.length
     ·obtain ⟨y,hy⟩ : ∃ y,(q30 v.f)[j]?=some y:=q06 (by omega)
      have hym:=(q2q v.f).mem_iff.1 (List.mem_of_getElem? hy)
      have hy2:=q09 (g:=q0r) hy
      have hr:=ih y.2 (by have:=(L.fkids y hym).1; omega) (by omega)
      have hnew:F++[q0r (y.1,q13 n y.2)]=(((q30 v.f).take (j+1)).map fun y=>(y.1,q13 n y.2)).map q0r:=by rw[hF,List.take_add_one,hy]; simp
      have hFl:F.length=j:=by rw[hF]; simp; omega
      rw[hFe] at hnew hFl
      simp only[List.length_cons,List.length_nil] at hFl
      rw[q0D] at hy2
      rw[q07 y.2,q07 (q13 n y.2)] at hr
      (repeat' first|simp (disch:=omega) only[go_sem,hy2,List.length_map,hflen,qhl,List.length_cons,List.length_nil]|refine q00 _ (hr) ?_|(apply spl<;>intro h<;>try simp (disch:=omega) only[go_sem,h]))
      refine ⟨(j+1,_++[q0r (y.1,q13 n y.2)]),?_,⟨hlt2,hnew⟩,by simp only; omega⟩
      simp only[qlE,q3H,←hE2,List.isEmpty_nil,List.isEmpty_cons,q1c,q2v,q2P,List.length_cons,List.length_nil,List.length_append,List.getD_cons_zero,List.getD_cons_succ,List.all_cons,List.all_nil,Bool.and_true,Bool.and_false,Bool.true_and,List.cons_append,List.nil_append]
      rw[q0D (y.1,q13 n y.2)]
      rfl
     ·have hjl:j=v.f.length:=by omega
      have hF2:F=((q30 v.f).map fun y=>(y.1,q13 n y.2)).map q0r:=by rw[hF,hjl,←hflen,List.take_length]
      have hFl:F.length=v.f.length:=by rw[hF2]; simp [hflen]
      rw[hFe] at hFl hF2
      simp only[List.length_cons,List.length_nil] at hFl
      rw[←hF2]
      (repeat' first|simp (disch:=omega) only[go_sem,qhl,List.take_length,List.length_map,hflen,List.length_cons]|(apply spl<;>intro h<;>try simp (disch:=omega) only[go_sem,h]))
      all_goals first | rfl | (simp; done)
end Ago
