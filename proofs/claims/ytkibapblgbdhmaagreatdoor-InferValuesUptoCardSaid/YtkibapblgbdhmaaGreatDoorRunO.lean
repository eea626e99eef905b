/- Infer: the schema of a value,of the reference. -/
import Derived.Test.YtkibapblgbdhmaaGreatDoorRunN
import Derived.Test.YtkibapblgbdhmaaGreatDoorRunK
import Derived.Test.YtkibapblgbdhmaaGreatDoorRunF
import Derived.Test.YtkibapblgbdhmaaGreatDoorRunH
import Derived.Test.YtkibapblgbdhmaaGreatDoorRunA
import Derived.KernelRfl
set_option linter.unusedSimpArgs false
set_option linter.unusedVariables false
set_option maxRecDepth 100000
set_option maxHeartbeats 4000000
namespace Ago
open Go (IntKind)
theorem qfm (s:List UInt8) (hs:s.length<2^24) (hu:utf s=true):q0f CI 586 [.str s] (.tup [.int .i64 (qcq s:Nat),.int .i64 0]):=by
 obtain ⟨l,h1,h2,h3⟩:=q8I s (by omega)
 have h1:=qiT (upS h1)
 have h3:=h3 hu
 rw[hu] at h1
 refine q04 qjU rfl ?_
 have hh:((qcq s+1:Nat):Int)-1=(qcq s:Nat):=by omega
 (repeat' first|simp (disch:=omega) only[go_sem,qjU,enter,h3,hh]|refine q00 _ (h1) ?_|(apply spl<;>intro h<;>try simp (disch:=omega) only[go_sem,h]))
def qpE (v:V) (k:Nat) (e:AV):St:={ tmps:=q0i 94 [(1,.ptr 13 0 0 0),(2,.ptr 15 1 0 0),(3,.ptr 15 2 0 0),(6,.ptr 15 3 0 0),(7,.int .i64 k)],heap:=[.row 13 [q0j v] false true 0,.row 15 [q0O] false true 1,.row 15 [.agg [.int .i64 3,.int .i64 64,.int .i64 0,.int .i64 0,.str [],.snil 11,.int .i64 0,.int .i64 0,.int .i64 0,.int .i64 0,.int .i64 0,.snil 6,.snil 13,.snil 17,.snil 15]] false true 2,.row 15 [e] false true 3],base:=0 }
def qpa (G:List (List UInt8 × V)) (k:Nat) (E:List AV):St:={ tmps:=q0i 94 [(2,.ptr 15 0 0 0),(3,.ptr 15 1 0 0),(8,.tsl 14 (G.map q0r)),(9,.int .i64 k)],heap:=[.row 15 [q0O] false true 0,.row 15 [xZ 10 0 0 (q2k 17 2 E) (.sref 15 (if E.isEmpty then 2 else 3) 0 1)] false false 1]++q2j 17 2 E++[.row 15 [q03 noneX] false true (if E.isEmpty then 2 else 3)],base:=0 }
theorem qrM:IntKind.i64.wrap (1 * 2^min 6 64)=64:=by decide
theorem qrF:IntKind.i64.wrap (1 * 2^min 7 64)=128:=by decide
theorem qc5 : ∀ (n k:Nat) (v:V),Fit k v→k≤n→v.bulk≤2^22→q0f CI 979 [q0j v] (q03 (ofM n v))
 | 0,k,v,h,hk,_=>by
  cases h
  omega
 | n+1,0,v,h,hk,_=>by cases h
 | n+1,k+1,v,h,hk,hb=>by
  have ih:=fun x hx hy=>qc5 n k x hx (by omega) hy
  have hkid:=h.kids
  have hfam:=fun x hx=>q4l n k x (h.kids x hx) (by omega)
  have hbl:=fun x hx=>q5h n k x (h.kids x hx) (by omega)
  obtain ⟨hk0,hk7⟩:=h.kind
  have L:=V.lens (v:=v) (N:=2^24) (by omega)
  have l1:=L.list
  have l2:=L.fields
  have l3:=L.text
  have hnr:=qa0
  refine q04 qbV rfl ?_
  rw[qez]
  by_cases h2:v.s.kind=2
  ·have hpt:=qit v.s.num
   rw[if_pos h2,q1A,List.map_cons,List.map_nil,q3i,q07]
   unfold q5N at hpt
   simp only[List.map_cons,List.map_nil] at hpt
   unfold q11 at hpt
   generalize q0p (q8r v.s.num)=P at *
   (repeat' first|simp (disch:=omega) only[go_sem,qbV,enter,h2]|refine q00 _ (hpt) ?_|(apply spl<;>intro h<;>try simp (disch:=omega) only[go_sem,h]))
   all_goals rfl
  rw[if_neg h2]
  by_cases h4:v.s.kind=4
  ·have hln:=qfm _ l3 h.text
   rw[if_pos h4,q1A,List.map_cons,List.map_nil,q34,q07]
   (repeat' first|simp (disch:=omega) only[go_sem,qbV,enter,h4]|refine q00 _ (hln) ?_|(apply spl<;>intro h<;>try simp (disch:=omega) only[go_sem,h]))
   all_goals rfl
  rw[if_neg h4]
  by_cases h6:v.s.kind=6
  ·rw[if_pos h6,q1A,List.map_cons,List.map_nil,q2Z]
   have hkl : ∀ x,x∈v.l→x∈v.kids:=fun x hx=>by
    unfold V.kids
    rw[if_neg (by omega)]
    exact hx
   have hsum:16+sb (v.l.map (ofM n))≤2^24:=by
    have h3:=qeH fun x hx=>hbl x (hkl x hx)
    have h4:=v.bulk_eq
    omega
   generalize hR:q03 ((v.l.map (ofM n)).foldl jM noneX)=R
   rw[q07]
   rw[q0H] at hnr
   (repeat' first|simp (disch:=omega) only[go_sem,qbV,enter,h6,qrM,List.length_map]|refine q00 _ (hnr) ?_|(apply spl<;>intro h<;>try simp (disch:=omega) only[go_sem,h]))
   refine q08 (α:=Nat × Sch) (fun a=>qpE v a.1 (q03 a.2)) (fun a=>a.1≤v.l.length∧a.2=((v.l.take a.1).map (ofM n)).foldl jM noneX) (fun a=>v.l.length-a.1) (0,noneX) (by unfold qpE; rw[q07 v,h6,q0H]; rfl) ⟨Nat.zero_le _,rfl⟩ ?_
   rintro ⟨i,F⟩ ⟨hi,hF⟩
   simp only at hi hF
   by_cases hlt:i<v.l.length
   ·obtain ⟨y,hy⟩:=q06 hlt
    have hym:=List.mem_of_getElem? hy
    have hy2:=q09 (g:=q0j) hy
    have hyb:=(V.lens (v:=v) (N:=2^24) (by omega)).kids y hym
    have hrec:=ih y (hkid y (hkl y hym)) (by omega)
    have hnew:jM F (ofM n y)=((v.l.take (i+1)).map (ofM n)).foldl jM noneX:=by
     rw[List.take_add_one,hy,hF]
     simp
    have hmem : ∀ z,z∈(v.l.take i).map (ofM n)→FamF z:=fun z hz=>by
     obtain ⟨x,hx,rfl⟩:=List.mem_map.1 hz
     exact hfam x (hkl x (List.mem_of_mem_take hx))
    have hFF:q8u F:=by rw[hF]; exact q4B (.inl rfl) hmem
    have hFb:=q2b (e:=noneX) (.inl rfl) hmem
    rw[q2e,←hF] at hFb
    have htk:=qaD (i+1) (v.l.map (ofM n))
    rw[←List.map_take,List.take_add_one,hy] at htk
    simp only[Option.toList_some,List.map_append,List.map_cons,List.map_nil,q3V,q3u] at htk
    have hjn:=(qex hFF (.inr (hfam y (hkl y hym))) (by omega)).2
    simp only[qpE]
    rw[q07 y] at hy2 hrec
    rw[q01 F,q01 (ofM n y),q01 (jM F (ofM n y))] at hjn
    rw[q01 (ofM n y)] at hrec
    rw[q07 v,q01 F]
    (repeat' first|simp (disch:=omega) only[go_sem,hy2,List.length_map,q0O]|refine q00 _ (hrec) ?_|refine q00 _ (hjn) ?_|(apply spl<;>intro h<;>try simp (disch:=omega) only[go_sem,h]))
    refine ⟨(i+1,jM F (ofM n y)),?_,⟨by simp only; omega,hnew⟩,by simp only; omega⟩
    simp only
    rw[q01 (jM F (ofM n y))]
    rfl
   ·obtain rfl:i=v.l.length:=by omega
    rw[List.take_length] at hF
    rw[←hR,←hF]
    simp only[qpE]
    rw[q07 v,q01 F]
    (repeat' first|simp (disch:=omega) only[go_sem,List.length_map,q0O]|(apply spl<;>intro h<;>try simp (disch:=omega) only[go_sem,h]))
    all_goals first | rfl | (simp; done) | trace_state
  rw[if_neg h6]
  by_cases h7:v.s.kind=7
  ·rw[if_pos h7,q1A,List.map_cons,List.map_nil,q4h]
   obtain ⟨b,hbe⟩ : ∃ b,v.bulk=b+1:=⟨v.bulk-1,by have:1≤v.bulk:=q1b _; omega⟩
   have hso:=qiT (qfD (b+1) v (by omega) (by omega))
   have hres:q0j (q13 (b+1) v) = .agg (q3H v (.tsl 13 ((v.l.map (q13 b)).map q0j)) (.tsl 14 (((q30 v.f).map fun y=>(y.1,q13 b y.2)).map q0r))):=by
    rw[q07]
    rfl
   have hfin:((q30 v.f).map fun y=>(y.1,q13 b y.2)).map (prF n)=(q30 v.f).map fun y=>((⟨y.1,true⟩,ofM n y.2):PK × Sch):=by
    rw[List.map_map]
    refine List.map_congr_left fun y _=>?_
    show ((⟨y.1,true⟩,ofM n (q13 b y.2)):PK × Sch)=_
    rw[qdm]
   rw[hres] at hso
   have hG : ∀ y,y∈((q30 v.f).map fun y=>(y.1,q13 b y.2))→Fit k y.2∧y.2.bulk≤2^22:=fun y hy=>by
    obtain ⟨x,hx,rfl⟩:=List.mem_map.1 hy
    have hxm:=(q2q v.f).mem_iff.1 hx
    have hxb:=((V.lens (v:=v) (N:=2^24) (by omega)).fkids x hxm).1
    refine ⟨Fit.sort b (hkid x.2 (by unfold V.kids; rw[if_pos h7]; exact List.mem_map.2 ⟨x,hxm,rfl⟩)),?_⟩
    show (q13 b x.2).bulk≤_
    rw[q6t]
    omega
   have hGl:((q30 v.f).map fun y=>(y.1,q13 b y.2)).length=v.f.length:=by rw[List.length_map,q7l]
   generalize ((q30 v.f).map fun y=>(y.1,q13 b y.2))=G at hso hfin hG hGl
   rw[←hfin]
   generalize hR:(G.map (prF n)).map q0h=R
   unfold q3H at hso
   rw[q07,h7] at hso
   rw[q07]
   rw[q0H] at *
   (repeat' first|simp (disch:=omega) only[go_sem,qbV,enter,h7,qrF,List.length_map]|refine q00 _ (hnr) ?_|refine q00 _ (hso) ?_|(apply spl<;>intro h<;>try simp (disch:=omega) only[go_sem,h]))

   refine q08 (α:=Nat × List AV) (fun a=>qpa G a.1 a.2) (fun a=>a.1≤G.length∧a.2=((G.take a.1).map (prF n)).map q0h) (fun a=>G.length-a.1) (0,[]) (by unfold qpa; rw[q0H]; rfl) ⟨Nat.zero_le _,rfl⟩ ?_
   rintro ⟨i,E⟩ ⟨hi,hE⟩
   simp only at hi hE
   by_cases hlt:i<G.length
   ·obtain ⟨y,hy⟩:=q06 hlt
    have hym:=List.mem_of_getElem? hy
    have hy2:=q09 (g:=q0r) hy
    obtain ⟨hg1,hg2⟩:=hG y hym
    have hrec:=ih y.2 hg1 hg2
    have hnew:E++[q0h (prF n y)]=((G.take (i+1)).map (prF n)).map q0h:=by rw[hE,List.take_add_one,hy]; simp
    have hEl:E.length=i:=by rw[hE]; simp; omega
    rw[q0D] at hy2
    rw[q07 y.2,q01 (ofM n y.2)] at hrec
    rcases E with _ | ⟨e0,es⟩
    all_goals
     simp only[List.length_cons,List.length_nil] at hEl
     simp only[qpa,q2k,q2j,xZ,q0H,List.isEmpty_nil,List.isEmpty_cons,if_true,Bool.false_eq_true,if_false,List.cons_append,List.nil_append,List.length_cons]
     (repeat' first|simp (disch:=omega) only[go_sem,hy2,List.length_map,q0O,List.length_cons]|refine q00 _ (hrec) ?_|(apply spl<;>intro h<;>try simp (disch:=omega) only[go_sem,h]))
     refine ⟨(i+1,_++[q0h (prF n y)]),?_,⟨hlt,hnew⟩,by simp only; omega⟩
     simp only[qpa,q2k,q2j,xZ,q0H,List.isEmpty_nil,List.isEmpty_cons,if_true,Bool.false_eq_true,if_false,List.cons_append,List.nil_append,List.length_append,List.length_cons,List.length_nil]
     rw[q0m (prF n y)]
     rfl
   ·obtain rfl:i=G.length:=by omega
    rw[List.take_length,hR] at hE
    rw[←hE]
    rcases E with _ | ⟨e0,es⟩
    all_goals
     simp only[qpa,q2k,q2j,xZ,q0H,List.isEmpty_nil,List.isEmpty_cons,if_true,Bool.false_eq_true,if_false,List.cons_append,List.nil_append,List.length_cons]
     (repeat' first|simp (disch:=omega) only[go_sem,List.length_map,q0O,List.length_cons,List.take_length]|(apply spl<;>intro h<;>try simp (disch:=omega) only[go_sem,h]))
     all_goals first | rfl | (simp; done) | trace_state
  have hneg:(v.s.kind<0)=False:=by simp; omega
  rw[if_neg h7,q1A,List.map_cons,List.map_nil,q62,q07]
  (repeat' first|simp (disch:=omega) only[go_sem,qbV,enter,h2,h4,h6,h7,hneg]|(apply spl<;>intro h<;>try simp (disch:=omega) only[go_sem,h]))
  all_goals rfl
end Ago
set_option maxRecDepth 100000
set_option maxHeartbeats 4000000
namespace Ago
open Go (IntKind)
def qaF (x:Sch):Schs:=⟨[],x⟩
theorem q5n (x:Sch):q0Z (qaF x) = .agg [.tsl 16 [],.int .i64 x.s.op,.int .i64 x.s.mask,.int .i64 x.s.min,.int .i64 x.s.max,.str x.s.name,.tsl 11 (x.s.parts.map q0p),.int .i64 x.s.pat.s.op,.int .i64 x.s.pat.s.lo,.int .i64 x.s.pat.s.hi,.int .i64 x.s.pat.s.min,.int .i64 x.s.pat.s.max,.tsl 6 (x.s.pat.a.map q0v),.tsl 13 (x.s.vals.map q0j),.tsl 17 (x.p.map q0h),.tsl 15 (x.a.map q03)]:=by
 rw[q0n]
 rfl
theorem qbE (x:Sch):(qaF x).bulk=x.bulk+1:=by
 rw[Schs.bulk_eq]
 show 0+x.bulk+1=_
 omega
theorem qfF (x:Sch):q0f CS 459 [q0Z (qaF x)] (.tup [.str [],.bool true]):=by
 rw[q5n]
 refine q04 qjC rfl ?_
 (repeat' first|simp (disch:=omega) only[go_sem,qjC,enter]|(apply spl<;>intro h<;>try simp (disch:=omega) only[go_sem,h]))
 refine q08 (α:=Unit) (fun _=>{ tmps:=q0i 79 [(1,.ptr 16 0 0 0),(4,.mref 1),(16,.tsl 16 []),(17,.int .i64 0),(18,.int .i64 0)],heap:=[.row 16 [q0Z (qaF x)] false true 0,.map []],base:=0 }) (fun _=>True) (fun _=>0) () (by rw[q5n]; rfl) trivial ?_
 intro _ _
 rw[q5n]
 (repeat' first|simp (disch:=omega) only[go_sem]|(apply spl<;>intro h<;>try simp (disch:=omega) only[go_sem,h]))
 refine q08 (α:=Unit) (fun _=>{ tmps:=q0i 79 [(4,.mref 0),(39,.tsl 16 []),(40,.int .i64 0),(41,.int .i64 0)],heap:=[.map []],base:=0 }) (fun _=>True) (fun _=>0) () rfl trivial ?_
 intro _ _
 (repeat' first|simp (disch:=omega) only[go_sem]|(apply spl<;>intro h<;>try simp (disch:=omega) only[go_sem,h]))
 all_goals rfl
theorem q9U (x:Sch):q0f CS 460 [q0Z (qaF x)] (.tup [.str [],.bool true]):=by
 rw[q5n]
 refine q04 qkB rfl ?_
 (repeat' first|simp (disch:=omega) only[go_sem,qkB,enter]|(apply spl<;>intro h<;>try simp (disch:=omega) only[go_sem,h]))
 refine q08 (α:=Unit) (fun _=>{ tmps:=q0i 41 [(1,.ptr 16 0 0 0),(4,.int .i64 0)],heap:=[.row 16 [q0Z (qaF x)] false true 0],base:=0 }) (fun _=>True) (fun _=>0) () (by rw[q5n]; rfl) trivial ?_
 intro _ _
 rw[q5n]
 (repeat' first|simp (disch:=omega) only[go_sem]|(apply spl<;>intro h<;>try simp (disch:=omega) only[go_sem,h]))
 all_goals rfl
def qcS (x:Sch):Int:=q2L (qaF x) true
def qiQ (x:Sch):Sch × Int:=(if qcS x=0 then x else zeroX,qcS x)
theorem q83 (x:Sch) (hx:x.bulk<2^24):q0f CI 976 [q03 x] (.tup [q03 (qiQ x).1,.int .i64 (qiQ x).2])∧q0f CI 980 [q03 x] (.tup [q03 (qiQ x).1,.int .i64 (qiQ x).2]):=by
 have h1:=qiT (qin (qaF x) (by rw[qbE]; omega) [] true (qfF x))
 have h2:=qiT (qaR (qaF x) (by rw[qbE]; omega) [] true (q9U x))
 unfold qiQ qcS
 rw[q5n] at h1 h2
 generalize q2L (qaF x) true=e at *
 by_cases he:e=0
 ·subst he
  rw[if_pos rfl,q01 x]
  refine ⟨q04 qgd rfl ?_,q04 qf3 rfl ?_⟩
  ·(repeat' first|simp (disch:=omega) only[go_sem,qgd,enter,bne_self_eq_false]|refine q00 _ (h1) ?_|(apply spl<;>intro h<;>try simp (disch:=omega) only[go_sem,h]))
   all_goals rfl
  ·(repeat' first|simp (disch:=omega) only[go_sem,qf3,enter,bne_self_eq_false]|refine q00 _ (h2) ?_|(apply spl<;>intro h<;>try simp (disch:=omega) only[go_sem,h]))
   all_goals rfl
 ·rw[if_neg he,q1k,q01 x]
  refine ⟨q04 qgd rfl ?_,q04 qf3 rfl ?_⟩
  ·(repeat' first|simp (disch:=omega) only[go_sem,qgd,enter,he]|refine q00 _ (h1) ?_|(apply spl<;>intro h<;>try simp (disch:=omega) only[go_sem,h]))
   all_goals rfl
  ·(repeat' first|simp (disch:=omega) only[go_sem,qf3,enter,he]|refine q00 _ (h2) ?_|(apply spl<;>intro h<;>try simp (disch:=omega) only[go_sem,h]))
   all_goals rfl
def ckM:List V→Int
 | []=>0
 | v::l=>if q3q v=0 then ckM l else q3q v
def qeO (l:List V):Sch:=(l.map (ofM 48)).foldl jM noneX
def q1q (l:List V):Sch × Int:=if l=[] then (zeroX,1) else if ckM l=0 then qiQ (qeO l) else (zeroX,ckM l)
theorem qeG : ∀ {l:List V},ckM l=0→∀ v,v∈l→Gd 48 v
 | [],_,v,h=>by cases h
 | x::l,h,v,hv=>by
  unfold ckM at h
  by_cases hx:q3q x=0
  ·rw[if_pos hx] at h
   rcases List.mem_cons.1 hv with rfl | hv
   ·exact qjp hx
   ·exact qeG h v hv
  ·rw[if_neg hx] at h
   exact (hx h).elim
theorem qdG {l:List V} {k:Nat} {v:V} (h:l[k]?=some v):ckM (l.drop k)=if q3q v=0 then ckM (l.drop (k+1)) else q3q v:=by
 rw[q70 h]
 rfl
end Ago
set_option maxRecDepth 100000
set_option maxHeartbeats 4000000
namespace Ago
open Go (IntKind)

theorem q7Y (l:List V) (hl:AV.bulks (l.map q0j)≤2^20):q0f CI 964 [.tsl 13 (l.map q0j)] (.tup [q03 (q1q l).1,.int .i64 (q1q l).2]):=by
 have hlen:l.length≤2^20:=by
  have:=q1g (l.map q0j)
  rw[List.length_map] at this
  omega
 have hvb : ∀ v,v∈l→v.bulk≤2^20:=fun v hv=>by
  have:(q0j v).bulk≤_:=q1r (List.mem_map_of_mem (f:=q0j) hv)
  have e:(q0j v).bulk=v.bulk:=rfl
  omega
 unfold q1q
 refine q04 qh1 rfl ?_
 by_cases h0:l=[]
 ·rw[if_pos h0,h0,q1k]
  (repeat' first|simp (disch:=omega) only[go_sem,qh1,enter]|(apply spl<;>intro h<;>try simp (disch:=omega) only[go_sem,h]))
  all_goals rfl
 have hpos:0<l.length:=List.length_pos_iff.2 h0
 rw[if_neg h0]
 (repeat' first|simp (disch:=omega) only[go_sem,qh1,enter,List.length_map]|(apply spl<;>intro h<;>try simp (disch:=omega) only[go_sem,h]))
 refine q08 (α:=Nat) (fun k=>{ tmps:=q0i 43 [(0,.tsl 13 (l.map q0j)),(2,.ptr 15 0 0 0),(14,.tsl 13 (l.map q0j)),(15,.int .i64 l.length),(16,.int .i64 k)],heap:=[.row 15 [q0O] false true 0],base:=0 }) (fun k=>k≤l.length∧ckM l=ckM (l.drop k)) (fun k=>l.length-k) 0 rfl ⟨Nat.zero_le _,rfl⟩ ?_
 rintro k ⟨hk,hc⟩
 by_cases hlt:k<l.length
 ·obtain ⟨v,hv⟩:=q06 hlt
  have hv2:=q09 (g:=q0j) hv
  have hvm:=List.mem_of_getElem? hv
  have hch:=qiT (upS (q8Z v (by have:=hvb v hvm; omega)))
  rw[qdG hv] at hc
  rw[q07 v] at hv2 hch
  by_cases he:q3q v=0
  ·rw[if_pos he] at hc
   rw[he] at hch
   (repeat' first|simp (disch:=omega) only[go_sem,hv2,List.length_map,bne_self_eq_false]|refine q00 _ (hch) ?_|(apply spl<;>intro h<;>try simp (disch:=omega) only[go_sem,h]))
   exact ⟨k+1,rfl,⟨hlt,hc⟩,by omega⟩
  ·rw[if_neg he] at hc
   rw[if_neg (by rw[hc]; exact he),hc,q1k]
   (repeat' first|simp (disch:=omega) only[go_sem,hv2,List.length_map,he,q0O]|refine q00 _ (hch) ?_|(apply spl<;>intro h<;>try simp (disch:=omega) only[go_sem,h]))
   all_goals rfl
 ·have hz:ckM l=0:=by
   rw[hc,List.drop_eq_nil_of_le (by omega)]
   rfl
  have hgd:=qeG hz
  have hfam : ∀ y,y∈l.map (ofM 48)→FamF y:=fun y hy=>by
   obtain ⟨x,hx,rfl⟩:=List.mem_map.1 hy
   exact q4l 48 48 x (hgd x hx).fit (Nat.le_refl _)
  have hsum:16+sb (l.map (ofM 48))<2^24:=by
   have:=qeH (n:=48) (l:=l) fun x hx=>q5h 48 48 x (hgd x hx).fit (Nat.le_refl _)
   omega
  have hS:(qeO l).bulk<2^24:=by
   have:=q2b (e:=noneX) (.inl rfl) hfam
   rw[q2e] at this
   show ((l.map (ofM 48)).foldl jM noneX).bulk<_
   omega
  have hck:=(q83 (qeO l) hS).1
  rw[if_pos hz]
  generalize hR:qiQ (qeO l)=R at *
  (repeat' first|simp (disch:=omega) only[go_sem,List.length_map]|(apply spl<;>intro h<;>try simp (disch:=omega) only[go_sem,h]))
  refine q08 (α:=Nat × AV) (fun a=>{ tmps:=q0i 43 [(2,.ptr 15 0 0 0),(7,.ptr 15 1 0 0),(28,.tsl 13 (l.map q0j)),(29,.int .i64 l.length),(30,.int .i64 a.1)],heap:=[.row 15 [q0O] false true 0,.row 15 [a.2] false true 1],base:=0 }) (fun a=>a.1≤l.length∧((a.1=0∧a.2=q2D)∨(0<a.1∧a.2=q03 (((l.take a.1).map (ofM 48)).foldl jM noneX)))) (fun a=>l.length-a.1) (0,q2D) rfl ⟨Nat.zero_le _,.inl ⟨rfl,rfl⟩⟩ ?_
  rintro ⟨i,e⟩ ⟨hi,he⟩
  simp only at hi he
  by_cases hlt2:i<l.length
  ·obtain ⟨y,hy⟩:=q06 hlt2
   have hym:=List.mem_of_getElem? hy
   have hy2:=q09 (g:=q0j) hy
   have hyb:=hvb y hym
   have hrec:=of_run 48 48 y (hgd y hym) (Nat.le_refl _) (by omega)
   have hnew:((l.take (i+1)).map (ofM 48)).foldl jM noneX=jM (((l.take i).map (ofM 48)).foldl jM noneX) (ofM 48 y):=by
    rw[List.take_add_one,hy]
    simp
   have hmem : ∀ z,z∈(l.take i).map (ofM 48)→FamF z:=fun z hz=>by
    obtain ⟨x,hx,rfl⟩:=List.mem_map.1 hz
    exact q4l 48 48 x (hgd x (List.mem_of_mem_take hx)).fit (Nat.le_refl _)
   have hF:q8u (((l.take i).map (ofM 48)).foldl jM noneX):=q4B (.inl rfl) hmem
   have hFb:=q2b (e:=noneX) (.inl rfl) hmem
   rw[q2e] at hFb
   have htk:=qaD (i+1) (l.map (ofM 48))
   rw[←List.map_take,List.take_add_one,hy] at htk
   simp only[Option.toList_some,List.map_append,List.map_cons,List.map_nil,q3V,q3u] at htk
   have hjn:=(qex hF (.inr (q4l 48 48 y (hgd y hym).fit (Nat.le_refl _))) (by omega)).1
   rw[←hnew] at hjn
   generalize hX:((l.take (i+1)).map (ofM 48)).foldl jM noneX=X at hjn
   rw[q07 y] at hy2 hrec
   rw[q01 X] at hjn
   rcases he with ⟨rfl,rfl⟩ | ⟨hpos,rfl⟩
   ·rw[show ((l.take 0).map (ofM 48)).foldl jM noneX=noneX from rfl,q0H] at hjn
    rw[q01 (ofM 48 y)] at hrec hjn
    simp only[q2D,xZ,q0H]
    (repeat' first|simp (disch:=omega) only[go_sem,hy2,List.length_map,q0O]|refine q00 _ (hrec) ?_|refine q00 _ (hjn) ?_|(apply spl<;>intro h<;>try simp (disch:=omega) only[go_sem,h]))
    refine ⟨(0+1,q03 X),?_,⟨by simp only; omega,.inr ⟨by simp only; omega,by simp only; rw[←hX]⟩⟩,by simp only; omega⟩
    rw[q01 X]
    rfl
   ·generalize ((l.take i).map (ofM 48)).foldl jM noneX=F at *
    rw[q01 F] at hjn
    rw[q01 (ofM 48 y)] at hrec hjn
    rw[q01 F]
    (repeat' first|simp (disch:=omega) only[go_sem,hy2,List.length_map,q0O]|refine q00 _ (hrec) ?_|refine q00 _ (hjn) ?_|(apply spl<;>intro h<;>try simp (disch:=omega) only[go_sem,h]))
    refine ⟨(i+1,q03 X),?_,⟨by simp only; omega,.inr ⟨by simp only; omega,by simp only; rw[←hX]⟩⟩,by simp only; omega⟩
    rw[q01 X]
    rfl
  ·obtain rfl:i=l.length:=by omega
   rcases he with ⟨h1,rfl⟩ | ⟨_,rfl⟩
   ·omega
   rw[List.take_length]
   show aw _ _ _ _ ⟨_,[_,.row 15 [q03 (qeO l)] false true 1],_,_⟩
   rw[q01 (qeO l)] at hck ⊢
   rw[q01 R.1] at hck ⊢
   (repeat' first|simp (disch:=omega) only[go_sem,List.length_map,q0O]|refine q00 _ (hck) ?_|(apply spl<;>intro h<;>try simp (disch:=omega) only[go_sem,h]))
   all_goals rfl

theorem q6C (l:List V) (hl:AV.bulks (l.map q0j)≤2^20):q0f CI 965 [.tsl 13 (l.map q0j)] (.tup [q03 (q1q l).1,.int .i64 (q1q l).2]):=by
 have hlen:l.length≤2^20:=by
  have:=q1g (l.map q0j)
  rw[List.length_map] at this
  omega
 have hvb : ∀ v,v∈l→v.bulk≤2^20:=fun v hv=>by
  have:(q0j v).bulk≤_:=q1r (List.mem_map_of_mem (f:=q0j) hv)
  have e:(q0j v).bulk=v.bulk:=rfl
  omega
 unfold q1q
 refine q04 qhp rfl ?_
 by_cases h0:l=[]
 ·rw[if_pos h0,h0,q1k]
  (repeat' first|simp (disch:=omega) only[go_sem,qhp,enter]|(apply spl<;>intro h<;>try simp (disch:=omega) only[go_sem,h]))
  all_goals rfl
 have hpos:0<l.length:=List.length_pos_iff.2 h0
 rw[if_neg h0]
 have hnr:=qa0
 rw[q0H] at hnr
 (repeat' first|simp (disch:=omega) only[go_sem,qhp,enter,List.length_map]|(apply spl<;>intro h<;>try simp (disch:=omega) only[go_sem,h]))
 refine q08 (α:=Nat) (fun k=>{ tmps:=q0i 45 [(0,.tsl 13 (l.map q0j)),(2,.ptr 15 0 0 0),(4,.int .i64 k)],heap:=[.row 15 [q0O] false true 0],base:=0 }) (fun k=>k≤l.length∧ckM l=ckM (l.drop k)) (fun k=>l.length-k) 0 rfl ⟨Nat.zero_le _,rfl⟩ ?_
 rintro k ⟨hk,hc⟩
 by_cases hlt:k<l.length
 ·obtain ⟨v,hv⟩:=q06 hlt
  have hv2:=q09 (g:=q0j) hv
  have hvm:=List.mem_of_getElem? hv
  have hch:=qiT (upS (qbL v (by have:=hvb v hvm; omega)))
  rw[qdG hv] at hc
  rw[q07 v] at hv2 hch
  by_cases he:q3q v=0
  ·rw[if_pos he] at hc
   rw[he] at hch
   (repeat' first|simp (disch:=omega) only[go_sem,hv2,List.length_map,bne_self_eq_false]|refine q00 _ (hch) ?_|(apply spl<;>intro h<;>try simp (disch:=omega) only[go_sem,h]))
   exact ⟨k+1,rfl,⟨hlt,hc⟩,by omega⟩
  ·rw[if_neg he] at hc
   rw[if_neg (by rw[hc]; exact he),hc,q1k]
   (repeat' first|simp (disch:=omega) only[go_sem,hv2,List.length_map,he,q0O]|refine q00 _ (hch) ?_|(apply spl<;>intro h<;>try simp (disch:=omega) only[go_sem,h]))
   all_goals rfl
 ·have hz:ckM l=0:=by
   rw[hc,List.drop_eq_nil_of_le (by omega)]
   rfl
  have hgd:=qeG hz
  have hfam : ∀ y,y∈l.map (ofM 48)→FamF y:=fun y hy=>by
   obtain ⟨x,hx,rfl⟩:=List.mem_map.1 hy
   exact q4l 48 48 x (hgd x hx).fit (Nat.le_refl _)
  have hsum:16+sb (l.map (ofM 48))<2^24:=by
   have:=qeH (n:=48) (l:=l) fun x hx=>q5h 48 48 x (hgd x hx).fit (Nat.le_refl _)
   omega
  have hS:(qeO l).bulk<2^24:=by
   have:=q2b (e:=noneX) (.inl rfl) hfam
   rw[q2e] at this
   show ((l.map (ofM 48)).foldl jM noneX).bulk<_
   omega
  have hck:=(q83 (qeO l) hS).2
  rw[if_pos hz]
  generalize hR:qiQ (qeO l)=R at *
  (repeat' first|simp (disch:=omega) only[go_sem,List.length_map]|refine q00 _ (hnr) ?_|(apply spl<;>intro h<;>try simp (disch:=omega) only[go_sem,h]))
  refine q08 (α:=Nat × AV) (fun a=>{ tmps:=q0i 45 [(0,.tsl 13 (l.map q0j)),(2,.ptr 15 0 0 0),(6,.ptr 15 1 0 0),(7,.int .i64 a.1)],heap:=[.row 15 [q0O] false true 0,.row 15 [a.2] false true 1],base:=0 }) (fun a=>a.1≤l.length∧((a.1=0∧a.2=q03 noneX)∨(0<a.1∧a.2=q03 (((l.take a.1).map (ofM 48)).foldl jM noneX)))) (fun a=>l.length-a.1) (0,q03 noneX) (by rw[q0H]; rfl) ⟨Nat.zero_le _,.inl ⟨rfl,rfl⟩⟩ ?_
  rintro ⟨i,e⟩ ⟨hi,he⟩
  simp only at hi he
  by_cases hlt2:i<l.length
  ·obtain ⟨y,hy⟩:=q06 hlt2
   have hym:=List.mem_of_getElem? hy
   have hy2:=q09 (g:=q0j) hy
   have hyb:=hvb y hym
   have hrec:=qc5 48 48 y (hgd y hym).fit (Nat.le_refl _) (by omega)
   have hnew:((l.take (i+1)).map (ofM 48)).foldl jM noneX=jM (((l.take i).map (ofM 48)).foldl jM noneX) (ofM 48 y):=by
    rw[List.take_add_one,hy]
    simp
   have hmem : ∀ z,z∈(l.take i).map (ofM 48)→FamF z:=fun z hz=>by
    obtain ⟨x,hx,rfl⟩:=List.mem_map.1 hz
    exact q4l 48 48 x (hgd x (List.mem_of_mem_take hx)).fit (Nat.le_refl _)
   have hF:q8u (((l.take i).map (ofM 48)).foldl jM noneX):=q4B (.inl rfl) hmem
   have hFb:=q2b (e:=noneX) (.inl rfl) hmem
   rw[q2e] at hFb
   have htk:=qaD (i+1) (l.map (ofM 48))
   rw[←List.map_take,List.take_add_one,hy] at htk
   simp only[Option.toList_some,List.map_append,List.map_cons,List.map_nil,q3V,q3u] at htk
   have hjn:=(qex hF (.inr (q4l 48 48 y (hgd y hym).fit (Nat.le_refl _))) (by omega)).2
   rw[←hnew] at hjn
   generalize hX:((l.take (i+1)).map (ofM 48)).foldl jM noneX=X at hjn
   rw[q07 y] at hy2 hrec
   rw[q01 X] at hjn
   rcases he with ⟨rfl,rfl⟩ | ⟨hpos,rfl⟩
   ·rw[show ((l.take 0).map (ofM 48)).foldl jM noneX=noneX from rfl,q0H] at hjn
    rw[q01 (ofM 48 y)] at hrec hjn
    simp only[q2D,xZ,q0H]
    (repeat' first|simp (disch:=omega) only[go_sem,hy2,List.length_map,q0O]|refine q00 _ (hrec) ?_|refine q00 _ (hjn) ?_|(apply spl<;>intro h<;>try simp (disch:=omega) only[go_sem,h]))
    refine ⟨(0+1,q03 X),?_,⟨by simp only; omega,.inr ⟨by simp only; omega,by simp only; rw[←hX]⟩⟩,by simp only; omega⟩
    rw[q01 X]
    rfl
   ·generalize ((l.take i).map (ofM 48)).foldl jM noneX=F at *
    rw[q01 F] at hjn
    rw[q01 (ofM 48 y)] at hrec hjn
    rw[q01 F]
    (repeat' first|simp (disch:=omega) only[go_sem,hy2,List.length_map,q0O]|refine q00 _ (hrec) ?_|refine q00 _ (hjn) ?_|(apply spl<;>intro h<;>try simp (disch:=omega) only[go_sem,h]))
    refine ⟨(i+1,q03 X),?_,⟨by simp only; omega,.inr ⟨by simp only; omega,by simp only; rw[←hX]⟩⟩,by simp only; omega⟩
    rw[q01 X]
    rfl
  ·obtain rfl:i=l.length:=by omega
   rcases he with ⟨h1,rfl⟩ | ⟨_,rfl⟩
   ·omega
   rw[List.take_length]
   show aw _ _ _ _ ⟨_,[_,.row 15 [q03 (qeO l)] false true 1],_,_⟩
   rw[q01 (qeO l)] at hck ⊢
   rw[q01 R.1] at hck ⊢
   (repeat' first|simp (disch:=omega) only[go_sem,List.length_map,q0O]|refine q00 _ (hck) ?_|(apply spl<;>intro h<;>try simp (disch:=omega) only[go_sem,h]))
   all_goals rfl
end Ago
set_option maxRecDepth 100000
set_option maxHeartbeats 4000000
namespace Ago
open Go (IntKind)
theorem qjf : ∀ (n:Nat) (v:V),v.bulk≤n→n≤2^24→∃ b,q0f CS 547 [q0j v] (.bool b):=by
 intro n
 induction n with
 | zero=>
  intro x h1 h2
  have:1≤x.bulk:=q1b _
  omega
 | succ n ih=>
  intro v h1 h2
  have L:=V.lens (v:=v) (N:=2^24) (by omega)
  have l1:=L.list
  have l2:=L.fields
  have l3:=L.text
  have h:=q3A (C:=CS) (f:=547) (ts:=[q0j v]) (k:=fun w=>∃ b,w = .bool b) qk6 rfl (by
   rw[q07]
   (repeat' first|simp (disch:=omega) only[go_sem,qk6,enter,List.length_map]|(apply spl<;>intro h<;>try simp (disch:=omega) only[go_sem,h]))
   refine q08 (α:=Nat) (fun k=>{ tmps:=q0i 38 [(1,.ptr 13 0 0 0),(3,.int .i64 k)],heap:=[.row 13 [q0j v] false true 0],base:=0 }) (fun k=>k≤v.l.length) (fun k=>v.l.length-k) 0 (by rw[q07]; rfl) (Nat.zero_le _) ?_
   intro k hk
   rw[q07]
   by_cases hlt:k<v.l.length
   ·obtain ⟨y,hy⟩:=q06 hlt
    have hym:=List.mem_of_getElem? hy
    have hy2:=q09 (g:=q0j) hy
    obtain ⟨c,hc⟩:=ih y (by have:=L.kids y hym; omega) (by omega)
    rw[q07] at hy2 hc
    cases c with
    | true=>
     (repeat' first|simp (disch:=omega) only[go_sem,hy2,List.length_map]|refine q00 _ (hc) ?_|(apply spl<;>intro h<;>try simp (disch:=omega) only[go_sem,h]))
     exact ⟨k+1,by first | rfl | (rw[q07 v]; rfl),hlt,by omega⟩
    | false=>
     (repeat' first|simp (disch:=omega) only[go_sem,hy2,List.length_map]|refine q00 _ (hc) ?_|(apply spl<;>intro h<;>try simp (disch:=omega) only[go_sem,h]))
     exact ⟨_,rfl⟩
   ·(repeat' first|simp (disch:=omega) only[go_sem,List.length_map]|(apply spl<;>intro h<;>try simp (disch:=omega) only[go_sem,h]))
    refine q08 (α:=Nat) (fun k=>{ tmps:=q0i 38 [(1,.ptr 13 0 0 0),(4,.int .i64 k)],heap:=[.row 13 [q0j v] false true 0],base:=0 }) (fun k=>k≤v.f.length) (fun k=>v.f.length-k) 0 (by rw[q07]; rfl) (Nat.zero_le _) ?_
    intro j hj
    rw[q07]
    by_cases hlt2:j<v.f.length
    ·obtain ⟨y,hy⟩:=q06 hlt2
     have hym:=List.mem_of_getElem? hy
     have hy2:=q09 (g:=q0r) hy
     obtain ⟨c,hc⟩:=ih y.2 (by have:=(L.fkids y hym).1; omega) (by omega)
     rw[q0D] at hy2
     rw[q07] at hc
     cases c with
     | true=>
      (repeat' first|simp (disch:=omega) only[go_sem,hy2,List.length_map]|refine q00 _ (hc) ?_|(apply spl<;>intro h<;>try simp (disch:=omega) only[go_sem,h]))
      exact ⟨j+1,by first | rfl | (rw[q07 v]; rfl),hlt2,by omega⟩
     | false=>
      (repeat' first|simp (disch:=omega) only[go_sem,hy2,List.length_map]|refine q00 _ (hc) ?_|(apply spl<;>intro h<;>try simp (disch:=omega) only[go_sem,h]))
      exact ⟨_,rfl⟩
    ·(repeat' first|simp (disch:=omega) only[go_sem,List.length_map]|(apply spl<;>intro h<;>try simp (disch:=omega) only[go_sem,h]))
     exact ⟨_,rfl⟩)
  obtain ⟨w,k1,c,rfl⟩:=h
  exact ⟨c,k1⟩
theorem qjh (v:V) (hv:v.bulk≤2^24) : ∃ b,q0f CS 468 [q0j v] (.bool b):=by
 obtain ⟨b,hb⟩:=ql9 v hv 40 8 (by omega) (by omega) (by omega) (by omega)
 obtain ⟨c,hc⟩:=qjf _ v (Nat.le_refl _) hv
 have hb:=upS hb
 have h1 : ∃ d,q0f CS 501 [q0j v] (.bool d):=by
  rw[q07] at hb hc ⊢
  cases b with
  | false=>
   refine ⟨false,q04 qfl rfl ?_⟩
   (repeat' first|simp (disch:=omega) only[go_sem,qfl,enter]|refine q00 _ (hb) ?_|(apply spl<;>intro h<;>try simp (disch:=omega) only[go_sem,h]))
  | true=>
   refine ⟨c,q04 qfl rfl ?_⟩
   (repeat' first|simp (disch:=omega) only[go_sem,qfl,enter]|refine q00 _ (hb) ?_|refine q00 _ (hc) ?_|(apply spl<;>intro h<;>try simp (disch:=omega) only[go_sem,h]))
 obtain ⟨d,hd⟩:=h1
 refine ⟨d,q04 qjS rfl ?_⟩
 rw[q07] at hd ⊢
 (repeat' first|simp (disch:=omega) only[go_sem,qjS,enter]|refine q00 _ (hd) ?_|(apply spl<;>intro h<;>try simp (disch:=omega) only[go_sem,h]))
theorem qmg (l:List V) (hl:l.length<2^24) (hb : ∀ v,v∈l→v.bulk≤2^24) : ∃ b,q0f CI 962 [.tsl 13 (l.map q0j)] (.bool b):=by
 have h:=q3A (C:=CI) (f:=962) (ts:=[.tsl 13 (l.map q0j)]) (k:=fun w=>∃ b,w = .bool b) qkM rfl (by
  (repeat' first|simp (disch:=omega) only[go_sem,qkM,enter,List.length_map]|(apply spl<;>intro h<;>try simp (disch:=omega) only[go_sem,h]))
  refine q08 (α:=Nat) (fun k=>{ tmps:=q0i 23 [(0,.tsl 13 (l.map q0j)),(3,.int .i64 k)],heap:=[],base:=0 }) (fun k=>k≤l.length) (fun k=>l.length-k) 0 rfl (Nat.zero_le _) ?_
  intro k hk
  by_cases hlt:k<l.length∧k<7
  ·obtain ⟨hlt,h7⟩:=hlt
   obtain ⟨y,hy⟩:=q06 hlt
   have hy2:=q09 (g:=q0j) hy
   obtain ⟨c,hc⟩:=qjh y (hb y (List.mem_of_getElem? hy))
   have hc:=qiT hc
   rw[q07] at hy2 hc
   cases c with
   | true=>
    (repeat' first|simp (disch:=omega) only[go_sem,hy2,List.length_map]|refine q00 _ (hc) ?_|(apply spl<;>intro h<;>try simp (disch:=omega) only[go_sem,h]))
    exact ⟨k+1,rfl,hlt,by omega⟩
   | false=>
    (repeat' first|simp (disch:=omega) only[go_sem,hy2,List.length_map]|refine q00 _ (hc) ?_|(apply spl<;>intro h<;>try simp (disch:=omega) only[go_sem,h]))
    exact ⟨_,rfl⟩
  ·by_cases hlt2:k<l.length
   ·(repeat' first|simp (disch:=omega) only[go_sem,List.length_map]|(apply spl<;>intro h<;>try simp (disch:=omega) only[go_sem,h]))
    all_goals first | exact ⟨_,rfl⟩ | omega
   ·(repeat' first|simp (disch:=omega) only[go_sem,List.length_map]|(apply spl<;>intro h<;>try simp (disch:=omega) only[go_sem,h]))
    all_goals first | exact ⟨_,rfl⟩ | omega)
 obtain ⟨w,k1,c,rfl⟩:=h
 exact ⟨c,k1⟩
theorem q6l:q8V 48 zeroX:=by
 show q8V (47+1) zeroX
 unfold q8V
 refine ⟨fun v hv=>absurd (show v∈([]:List V) from hv) (by simp),?_,fun y hy=>absurd (show y∈([]:List Sch) from hy) (by simp)⟩
 show qn3 (47+1) zeroX.s.pat
 unfold qn3
 exact fun y hy=>absurd (show y∈([]:List Pat) from hy) (by simp)
theorem q4R {x:Sch} (hx:x.bulk≤2^22) (h:q8V 48 x):q0f CS 461 [q03 x,q03 x] (.bool true):=by
 have h1:=qbJ 48 48 rfl (by decide) _ hx h
 refine q04 qkI rfl ?_
 rw[q01] at h1 ⊢
 (repeat' first|simp (disch:=omega) only[go_sem,qkI,enter]|refine q00 _ (h1) ?_|(apply spl<;>intro h<;>try simp (disch:=omega) only[go_sem,h]))
theorem qdj {x:Sch} (h:qcS x=0):q8V 48 x:=by
 unfold qcS q2L at h
 have h0:q7u (qaF x) [] (qaF x).defs=0:=rfl
 rw[if_pos h0] at h
 by_cases h1:q0I (qaF x) 48 (qaF x).root=0
 ·rw[if_pos h1] at h
  refine qen (qaF x) 48 x h1 ?_
  cases hd:q1U 48 x with
  | false=>rfl
  | true=>
   have:(q3Z (qaF x).defs || q1U 48 (qaF x).root)=true:=by
    show (q3Z (qaF x).defs || q1U 48 x)=true
    rw[hd,Bool.or_true]
   rw[if_pos this] at h
   cases h
 ·rw[if_neg h1] at h
  exact (h1 h).elim
theorem q6q:zeroX.bulk≤2^22:=by decide
theorem qmT (b:Sch):jM noneX b=b:=by
 unfold jM
 obtain ⟨n,hn⟩ : ∃ n,jn=n+1:=⟨2^24-1,by rw[qmz]⟩
 rw[hn]
 rfl
theorem qju {l:List Sch} (h : ∀ y,y∈l→FamF y) (hne:l≠[]):(l.foldl jM noneX).bulk≤sb l:=by
 cases l with
 | nil=>exact (hne rfl).elim
 | cons x l=>
  show (l.foldl jM (jM noneX x)).bulk≤_
  rw[qmT,q3u]
  exact q2b (.inr (h x (List.mem_cons_self ..))) fun y hy=>h y (List.mem_cons_of_mem _ hy)
theorem q9g (l:List V) (hl:AV.bulks (l.map q0j)≤2^20):q0f CI 461 [q03 (q1q l).1,q03 (q1q l).1] (.bool true):=by
 refine qiT ?_
 unfold q1q
 by_cases h0:l=[]
 ·rw[if_pos h0]
  exact q4R q6q q6l
 rw[if_neg h0]
 by_cases hc:ckM l=0
 ·rw[if_pos hc]
  unfold qiQ
  by_cases hs:qcS (qeO l)=0
  ·rw[if_pos hs]
   have hgd:=qeG hc
   have h1:=qeH (n:=48) (l:=l) fun x hx=>q5h 48 48 x (hgd x hx).fit (Nat.le_refl _)
   have h2:=qju (l:=l.map (ofM 48)) (fun y hy=>by
    obtain ⟨x,hx,rfl⟩:=List.mem_map.1 hy
    exact q4l 48 48 x (hgd x hx).fit (Nat.le_refl _)) (by simpa using h0)
   refine q4R ?_ (qdj hs)
   show ((l.map (ofM 48)).foldl jM noneX).bulk≤_
   omega
  ·rw[if_neg hs]
   exact q4R q6q q6l
 ·rw[if_neg hc]
  exact q4R q6q q6l
theorem qba (v:V) (hv:v.bulk<2^20):q0f CI 966 [q0j v] (.tup [q03 (q1q [v]).1,.int .i64 (q1q [v]).2])∧q0f CI 967 [q0j v] (.tup [q03 (q1q [v]).1,.int .i64 (q1q [v]).2]):=by
 have hb:AV.bulks ([v].map q0j)≤2^20:=by
  show (q0j v).bulk+0≤_
  have e:(q0j v).bulk=v.bulk:=rfl
  omega
 have h1:=q7Y [v] hb
 have h2:=q6C [v] hb
 rw[List.map_cons,List.map_nil] at h1 h2
 rw[q07,q01 (q1q [v]).1] at h1 h2 ⊢
 refine ⟨q04 qiW rfl ?_,q04 qjy rfl ?_⟩
 ·(repeat' first|simp (disch:=omega) only[go_sem,qiW,enter,q3D,Blk.mark,List.contains_cons,List.contains_nil,Bool.or_false]|refine q00 _ (h1) ?_|(apply spl<;>intro h<;>try simp (disch:=omega) only[go_sem,h]))
  all_goals rfl
 ·(repeat' first|simp (disch:=omega) only[go_sem,qjy,enter,q3D,Blk.mark,List.contains_cons,List.contains_nil,Bool.or_false]|refine q00 _ (h2) ?_|(apply spl<;>intro h<;>try simp (disch:=omega) only[go_sem,h]))
  all_goals rfl
def qq6 (l:List V) (k:Nat) (x:AV):St:={ tmps:=q0i 63 [(0,.tsl 13 (l.map q0j)),(3,.ptr 15 0 0 0),(5,.ptr 15 1 0 0),(7,.int .i64 k)],heap:=[.row 15 [x] false true 0,.row 15 [x] false true 1],base:=0 }
theorem qo7 (haw:q0f CI 963 [] (.bool true)) (l:List V) (hl:AV.bulks (l.map q0j)<2^20):q0f CI 957 [.tsl 13 (l.map q0j)] (.bool true):=by
 have hlen:l.length<2^20:=by
  have:=q1g (l.map q0j)
  rw[List.length_map] at this
  omega
 have hvb : ∀ v,v∈l→v.bulk<2^20:=fun v hv=>by
  have:(q0j v).bulk≤_:=q1r (List.mem_map_of_mem (f:=q0j) hv)
  have e:(q0j v).bulk=v.bulk:=rfl
  omega
 obtain ⟨b,hb⟩:=qmg l (by omega) fun v hv=>by have:=hvb v hv; omega
 refine q04 qgQ rfl ?_
 cases b with
 | false=>
  (repeat' first|simp (disch:=omega) only[go_sem,qgQ,enter]|refine q00 _ (hb) ?_|refine q00 _ (haw) ?_|(apply spl<;>intro h<;>try simp (disch:=omega) only[go_sem,h]))
 | true=>
  have h1:=(q7Y l (by omega))
  have h2:=(q6C l (by omega))
  have h3:=(q9g l (by omega))
  rw[q01 (q1q l).1] at h1 h2 h3
  (repeat' first|simp (disch:=omega) only[go_sem,qgQ,enter,bne_self_eq_false,List.length_map]|refine q00 _ (hb) ?_|refine q00 _ (h1) ?_|refine q00 _ (h2) ?_|refine q00 _ (h3) ?_|(apply spl<;>intro h<;>try simp (disch:=omega) only[go_sem,h]))
  refine q08 (α:=Nat × Sch) (fun a=>qq6 l a.1 (q03 a.2)) (fun a=>a.1≤l.length) (fun a=>l.length-a.1) (0,(q1q l).1) (by unfold qq6; rw[q01 (q1q l).1]; rfl) (Nat.zero_le _) ?_
  rintro ⟨k,x⟩ hk
  simp only at hk
  by_cases hlt:k<l.length
  ·obtain ⟨y,hy⟩:=q06 hlt
   have hym:=List.mem_of_getElem? hy
   have hy2:=q09 (g:=q0j) hy
   have h4:=qba y (hvb y hym)
   have h5:=h4.1
   have h6:=h4.2
   have h7:=(q9g [y] (by
    show (q0j y).bulk+0≤_
    have e:(q0j y).bulk=y.bulk:=rfl
    have:=hvb y hym
    omega))
   rw[q07] at hy2 h5 h6
   rw[q01 (q1q [y]).1] at h5 h6 h7
   simp only[qq6]
   rw[q01 x]
   (repeat' first|simp (disch:=omega) only[go_sem,hy2,bne_self_eq_false,List.length_map]|refine q00 _ (h5) ?_|refine q00 _ (h6) ?_|refine q00 _ (h7) ?_|(apply spl<;>intro h<;>try simp (disch:=omega) only[go_sem,h]))
   refine ⟨(k+1,(q1q [y]).1),?_,hlt,by simp only; omega⟩
   simp only
   rw[q01 (q1q [y]).1]
   rfl
  ·simp only[qq6]
   rw[q01 x]
   (repeat' first|simp (disch:=omega) only[go_sem,List.length_map]|refine q00 _ (haw) ?_|(apply spl<;>intro h<;>try simp (disch:=omega) only[go_sem,h]))
end Ago
set_option maxRecDepth 100000
set_option maxHeartbeats 4000000
namespace Ago
open Go (IntKind)
def vX (k:Int) (d s:List UInt8) (l:List V) (f:List (List UInt8 × V)):V:=.mk ⟨k,false,⟨false,d,0⟩,⟨0,0,0,0⟩,s,[]⟩ l f
def l1:List V:=[vX 2 [49] [] [] [],vX 2 [53] [] [] [],vX 4 [] [97,98] [] []]
def l2:List V:=[vX 7 [] [] [] [([97],vX 2 [49] [] [] [])],vX 7 [] [] [] [([97],vX 2 [50] [] [] []),([98],vX 0 [] [] [] [])]]
def l3:List V:=[vX 6 [] [] [] []]
def bX (d:List UInt8):Bnd:=⟨true,⟨false,d,0⟩,false⟩
def nX (a b:List UInt8):Sch:=q68 ⟨bX a,bX b,1⟩
def x1:Sch:=q1n [nX [49] [53],q3l 2 2]
def x2:Sch:=q1n [q6e [(⟨[97],true⟩,q1n [nX [49] [50]]),(⟨[98],false⟩,q1n [q35 1])]]
def x3:Sch:=q1n [q2V 0 0 noneX]
theorem q9R {l:List V} {x:Sch} (h0:l≠[]) (h1:ckM l=0) (h2:qeO l=x) (h3:qcS x=0):q1q l=(x,0):=by
 unfold q1q
 rw[if_neg h0,if_pos h1,h2]
 unfold qiQ
 rw[h3,if_pos rfl]
theorem ex1:q1q l1=(x1,0):=q9R (by simp [l1]) (by kernel_rfl) (by kernel_rfl) (by kernel_rfl)
theorem ex3:q1q l3=(x3,0):=q9R (by simp [l3]) (by kernel_rfl) (by kernel_rfl) (by kernel_rfl)
theorem qrU:qeO l2=q1n [q6e (q0K (q1Y 16777215) [(⟨[97],true⟩,q1n [nX [49] [49]])] [(⟨[97],true⟩,q1n [nX [50] [50]]),(⟨[98],true⟩,q1n [q35 1])])]:=by kernel_rfl
theorem qr2:q1Y 16777215 (q1n [nX [49] [49]]) (q1n [nX [50] [50]])=q1n [nX [49] [50]]:=by kernel_rfl
theorem ex2:q1q l2=(x2,0):=q9R (by simp [l2]) (by kernel_rfl) (by
 rw[qrU]
 have:q0K (q1Y 16777215) [(⟨[97],true⟩,q1n [nX [49] [49]])] [(⟨[97],true⟩,q1n [nX [50] [50]]),(⟨[98],true⟩,q1n [q35 1])]=[(⟨[97],true⟩,q1n [nX [49] [50]]),(⟨[98],false⟩,q1n [q35 1])]:=by
  rw[q0K,if_neg (by decide),if_neg (by decide),q0K,q0K,qr2]
  rfl
 rw[this]
 rfl) (by kernel_rfl)
theorem qcw {l:List V} {x:Sch} {e:Int} (h:q1q l=(x,e)) (hl:AV.bulks (l.map q0j)≤2^20):q0f CI 964 [.tsl 13 (l.map q0j)] (.tup [q03 x,.int .i64 e]):=by
 have:=q7Y l hl
 rw[h] at this
 exact this
theorem qhU (k:Int) (d s:List UInt8) (l:List V) (f:List (List UInt8 × V)):q0j (vX k d s l f) = .agg [.int .i64 k,.bool false,.bool false,.str d,.int .i64 0,.int .i64 0,.int .i64 0,.int .i64 0,.int .i64 0,.str s,.tsl 1 [],.tsl 13 (l.map q0j),.tsl 14 (f.map q0r)]:=by
 rw[q07]
 rfl
theorem qrl:((49:UInt8).toNat:Int)=49:=rfl
theorem qqV:((50:UInt8).toNat:Int)=50:=rfl
theorem qqH:((53:UInt8).toNat:Int)=53:=rfl
theorem md1:Int.tmod 1 10=1:=rfl
theorem md2:Int.tmod 2 10=2:=rfl
theorem md5:Int.tmod 5 10=5:=rfl
theorem dv1:Int.tdiv 1 10=0:=rfl
theorem dv2:Int.tdiv 2 10=0:=rfl
theorem dv5:Int.tdiv 5 10=0:=rfl
theorem qgX (n:Int) (c:UInt8) (h:(n=1∧c=49)∨(n=2∧c=50)∨(n=5∧c=53)):q0f CI 503 [.int .i64 n] (q0j (vX 2 [c] [] [] [])):=by
 have h1:q0f CI 579 [.int .i64 n] (.str [c]):=by
  refine q04 qjv rfl ?_
  (repeat' first|simp (disch:=omega) only[go_sem,qjv,enter]|(apply spl<;>intro h<;>try simp (disch:=omega) only[go_sem,h]))
  refine q08 (α:=Bool) (fun b=>{ tmps:=q0i 17 [(0,.int .i64 (if b then 0 else n)),(3,.str (if b then [c] else []))],heap:=[],base:=0 }) (fun _=>True) (fun b=>if b then 0 else 1) false rfl trivial ?_
  rintro (_ | _) _
  ·simp only[Bool.false_eq_true,if_false]
   rcases h with ⟨rfl,rfl⟩ | ⟨rfl,rfl⟩ | ⟨rfl,rfl⟩
   all_goals
    (repeat' first|simp (disch:=omega) only[go_sem,gt_iff_lt,q1V,md1,md2,md5,dv1,dv2,dv5]|(apply spl<;>intro h<;>try simp (disch:=omega) only[go_sem,h]))
    exact ⟨true,rfl,by decide⟩
  ·simp only[if_true]
   (repeat' first|simp (disch:=omega) only[go_sem,gt_iff_lt]|(apply spl<;>intro h<;>try simp (disch:=omega) only[go_sem,h]))
   all_goals rfl
 have h2:q0f CI 612 [.str [c]] (.str [c]):=by
  refine q04 qjk rfl ?_
  rcases h with ⟨rfl,rfl⟩ | ⟨rfl,rfl⟩ | ⟨rfl,rfl⟩
  all_goals
   (repeat' first|simp (disch:=omega) only[go_sem,qjk,enter]|(apply spl<;>intro h<;>try simp (disch:=omega) only[go_sem,h]))
   refine q08 (α:=Unit) (fun _=>{ tmps:=q0i 19 [(0,.str [_]),(3,.int .i64 0)],heap:=[],base:=0 }) (fun _=>True) (fun _=>0) () rfl trivial ?_
   intro _ _
   (repeat' first|simp (disch:=omega) only[go_sem,qrl,qqV,qqH]|(apply spl<;>intro h<;>try simp (disch:=omega) only[go_sem,h]))
 have h3:q0f CI 90 [.str [c]] (.int .i64 0):=by
  have:=qiT (upS (qaT [c] (by simp)))
  rcases h with ⟨rfl,rfl⟩ | ⟨rfl,rfl⟩ | ⟨rfl,rfl⟩<;>exact this
 have h4:q0f CI 581 [.bool false,.str [c],.int .i64 0] (.tup [.agg [.bool false,.str [c],.int .i64 0],.int .i64 0]):=by
  refine q04 ql0 rfl ?_
  have e1:([c] == ([]:List UInt8))=false:=rfl
  (repeat' first|simp (disch:=omega) only[go_sem,ql0,enter,e1,gt_iff_lt]|refine q00 _ (h2) ?_|refine q00 _ (h3) ?_|(apply spl<;>intro h<;>try simp (disch:=omega) only[go_sem,h]))
  all_goals rfl
 have hn:(n<0)=False:=by
  simp
  omega
 have h5:q0f CI 549 [.int .i64 n] (.agg [.bool false,.str [c],.int .i64 0]):=by
  refine q04 qk5 rfl ?_
  (repeat' first|simp (disch:=omega) only[go_sem,qk5,enter,hn]|refine q00 _ (h1) ?_|refine q00 _ (h4) ?_|(apply spl<;>intro h<;>try simp (disch:=omega) only[go_sem,h]))
  all_goals rfl
 have h6:q0f CI 548 [.agg [.bool false,.str [c],.int .i64 0]] (q0j (vX 2 [c] [] [] [])):=by
  refine q04 qkD rfl ?_
  rw[qhU]
  (repeat' first|simp (disch:=omega) only[go_sem,qkD,enter]|(apply spl<;>intro h<;>try simp (disch:=omega) only[go_sem,h]))
  all_goals rfl
 refine q04 qkA rfl ?_
 rw[qhU] at h6 ⊢
 (repeat' first|simp (disch:=omega) only[go_sem,qkA,enter]|refine q00 _ (h5) ?_|refine q00 _ (h6) ?_|(apply spl<;>intro h<;>try simp (disch:=omega) only[go_sem,h]))
 all_goals rfl
theorem qmG:q0f CI 195 [.str [97,98]] (q0j (vX 4 [] [97,98] [] [])):=by
 refine q04 qla rfl ?_
 rw[qhU]
 (repeat' first|simp (disch:=omega) only[go_sem,qla,enter]|(apply spl<;>intro h<;>try simp (disch:=omega) only[go_sem,h]))
 all_goals rfl
theorem qlY:q0f CI 529 [.tsl 13 []] (q0j (vX 6 [] [] [] [])):=by
 refine q04 qfb rfl ?_
 rw[qhU]
 (repeat' first|simp (disch:=omega) only[go_sem,qfb,enter]|(apply spl<;>intro h<;>try simp (disch:=omega) only[go_sem,h]))
 all_goals rfl
theorem qm4:q0f CI 963 [] (.bool true):=by
 have i1:=qgX 1 49 (by simp)
 have i2:=qgX 2 50 (by simp)
 have i5:=qgX 5 53 (by simp)
 have ht:=qmG
 have hl:=qlY
 have o1:=qcw ex1 (by decide)
 have o2:=qcw ex2 (by decide)
 have o4:=qcw (l:=[]) rfl (by decide)
 have o3:=(qba (vX 6 [] [] [] []) (by decide)).1
 rw[show q1q [vX 6 [] [] [] []]=(x3,0) from ex3] at o3
 simp only[l1,l2,x1,x2,x3,nX,List.map_cons,List.map_nil,q1A,q3i,q34,q2Z,q4h,q62,q0H,q1k,qhU,q0r,q0h,q0p,bX,AV.cells,List.cons_append,List.nil_append] at i1 i2 i5 ht hl o1 o2 o3 o4
 refine q04 qk1 rfl ?_
 (repeat' first|simp (disch:=omega) only[go_sem,qk1,enter,q3D,Blk.mark,List.contains_cons,List.contains_nil,Bool.or_false,Bool.false_or,Bool.true_or,Bool.or_true]|refine q00 _ (i1) ?_|refine q00 _ (i2) ?_|refine q00 _ (i5) ?_|refine q00 _ (ht) ?_|refine q00 _ (hl) ?_|refine q00 _ (o1) ?_|refine q00 _ (o2) ?_|refine q00 _ (o3) ?_|refine q00 _ (o4) ?_|(apply spl<;>intro h<;>try simp (disch:=omega) only[go_sem,h]))
 all_goals trace_state
theorem qmt (l:List V) (hl:AV.bulks (l.map q0j)<2^20):q0f CI 957 [.tsl 13 (l.map q0j)] (.bool true):=qo7 qm4 l hl
end Ago
