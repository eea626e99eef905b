/- Written schemas: the value,on both sides. -/
import Derived.Test.YtahoajoopdphhaaGreatDoorRunQ
import Derived.Test.YtahoajoopdphhaaGreatDoorRunP
import Derived.Test.YtahoajoopdphhaaGreatDoorRunG
set_option linter.unusedSimpArgs false
set_option linter.unusedVariables false
set_option maxRecDepth 100000
set_option exponentiation.threshold 2000
set_option maxHeartbeats 4000000
namespace Ago
open Go (IntKind)
def q6V (g:Sch→V) (d:List UInt8 × Sch):List UInt8 × V:=(d.1,g d.2)
def q6O (g:Sch→V) (s:Schs):V:=qlN [([100,101,102,115],qlN (s.defs.map (q6V g))),([114,111,111,116],g s.root)]
def fo (E:List AV):AV:=match E with | []=>.snil 14 | z::l=>.sref 14 3 0 (l.length+1)
def fr (E:List AV):Heap:=match E with | []=>[] | z::l=>[.row 14 (z::l) false true 3]
def qn3 (X:AV) (E:List AV):Heap:=[.row 16 [X] false true 0,.row 13 [zV] false true 1,.row 13 [mpV (fo E)] false E.isEmpty 2]++fr E
theorem qx1 (g:Sch→V) (l:List (List UInt8 × Sch)):(l.map (q6V g)).map q0J=l.map fun d=>q0J (q6V g d):=by rw[Vn]; rfl
theorem qgd (g:Sch→V) (s:Schs):q0g (q6O g s) = .agg [.int .i64 7,.bool false,.bool false,.str [],.int .i64 0,.int .i64 0,.int .i64 0,.int .i64 0,.int .i64 0,.str [],.tsl 1 [],.tsl 13 [],.tsl 14 [.agg [.str [100,101,102,115],.int .i64 7,.bool false,.bool false,.str [],.int .i64 0,.int .i64 0,.int .i64 0,.int .i64 0,.int .i64 0,.str [],.tsl 1 [],.tsl 13 [],.tsl 14 (s.defs.map fun d=>q0J (q6V g d))],q0J ([114,111,111,116],g s.root)]]:=by
 unfold q6O
 rw[q7t,Kd,Kd,Kl,q17]
 rw[←qx1]
 rfl
theorem qga (g:Sch→V) (s:Schs) (hl:s.defs.length<2^24) (hd : ∀ d,d∈s.defs→q0m CT 525 [q06 d.2] (q0g (g d.2))) (hr:q0m CT 525 [q06 s.root] (q0g (g s.root))):q0m CT 495 [q0y s] (q0g (q6O g s)):=by
 rw[qgd,q17]
 generalize g s.root=W at *
 rw[q07 W,q02] at hr
 refine q05 qmS rfl ?_
 have hX:=q0h s
 rw[hX]
 (repeat' first|simp (disch:=omega) only[go_sem,qmS,enter,Ka]|(apply spl<;>intro h<;>try simp (disch:=omega) only[go_sem,h]))
 all_goals first | omega | skip
 refine q0a (α:=Nat) (fun k=>{ tmps:=q0i 34 [(1,.ptr 16 0 0 0),(2,.ptr 13 1 0 0),(3,.ptr 13 2 0 0),(8,.tsl 16 (s.defs.map q0H)),(9,.int .i64 s.defs.length),(10,.int .i64 k)],heap:=qn3 (q0y s) ((s.defs.take k).map fun d=>q0J (q6V g d)),base:=0 }) (fun k=>k≤s.defs.length) (fun k=>s.defs.length-k) 0 (by rw[hX]; rfl) (Kn _) ?_
 intro k hk
 rw[hX]
 by_cases hlt:k<s.defs.length
 ·obtain ⟨y,hy⟩:=q08 hlt
  have hym:=Kc hy
  have hy2:=q0d (g:=q0H) hy
  rw[q0K y] at hy2
  have r1:=hd y hym
  have hen:(s.defs.take (k+1)).map (fun d=>q0J (q6V g d))=(s.defs.take k).map (fun d=>q0J (q6V g d))++[q0J (q6V g y)]:=by rw[KD,hy]; simp
  have hle:((s.defs.take k).map (fun d=>q0J (q6V g d))).length=k:=by rw[Ka,KI]; omega
  have hf:q0J (q6V g y)=_:=q17 (q6V g y)
  unfold q6V at hf
  dsimp only at hf
  rw[show q0J (q6V g y)=_ from hf] at hen
  generalize g y.2=Y at *
  rw[q07 Y] at r1
  rw[q02 y.2] at r1
  generalize hE:(s.defs.take k).map (fun d=>q0J (q6V g d))=E at hen hle ⊢
  rcases E with _ | ⟨e0,es⟩
  all_goals
   simp only[List.length_cons,List.length_nil] at hle
   unfold qn3 fo fr mpV zV
   (repeat' first|simp (disch:=omega) only[go_sem,hy2,Ka,List.length_cons,List.length_nil,K9,KO,Kf,Kh,Kj]|refine q00 _ (r1) ?_|(apply spl<;>intro h<;>try simp (disch:=omega) only[go_sem,h]))
   all_goals try omega
   all_goals
    refine ⟨k+1,?_,hlt,by omega⟩
    rw[hen]
    simp only[qn3,fo,fr,mpV,zV,hX,Kf,Kh,Kb,List.length_cons,List.length_nil,KO,KS]
    first | rfl
 ·obtain rfl:k=s.defs.length:=by omega
  rw[Ky]
  generalize s.defs.map (fun d=>q0J (q6V g d))=E
  rcases E with _ | ⟨e0,es⟩
  all_goals
   unfold qn3 fo fr mpV zV
   (repeat' first|simp (disch:=omega) only[go_sem,Ka,List.length_cons,List.length_nil,K9,KO,Kf,Kh,Kj,K4,Ky,q0R,Blk.mark,K5,Vf,Vu,Vj,Bool.or_true,if_true]|refine q00 _ (hr) ?_)
   all_goals first | rfl | omega
end Ago
set_option maxRecDepth 100000
set_option exponentiation.threshold 2000
set_option maxHeartbeats 4000000
namespace Ago
open Go (IntKind)
theorem qgX (s:Schs) : ∀ (l pre:List (List UInt8 × Sch)),q7X s pre l=0→∀ d,d∈l→q0W s 48 d.2=0
 | [],_,_,d,hd=>by cases hd
 | e::l,pre,h,d,hd=>by
  have h:(if q4N e.1=false then (1:Int) else if (pre.any fun x=>x.1 == e.1)=true then 8 else if q0W s 48 e.2=0 then q7X s (pre++[e]) l else q0W s 48 e.2)=0:=h
  by_cases h1:q4N e.1=false
  ·rw[if_pos h1] at h
   cases h
  ·rw[if_neg h1] at h
   by_cases h2:(pre.any fun x=>x.1 == e.1)=true
   ·rw[if_pos h2] at h
    cases h
   ·rw[if_neg h2] at h
    by_cases h3:q0W s 48 e.2=0
    ·rw[if_pos h3] at h
     rcases KA.1 hd with rfl | hd
     ·exact h3
     ·exact qgX s l _ h d hd
    ·rw[if_neg h3] at h
     exact (h3 h).elim
theorem qcR {s:Schs} {g:Bool} (h:q2G s g=0):(∀ d,d∈s.defs→WrS 48 d.2)∧WrS 48 s.root:=by
 have h1:q7X s [] s.defs=0:=by
  by_cases h1:q7X s [] s.defs=0
  ·exact h1
  ·unfold q2G at h
   rw[if_neg h1] at h
   exact h
 unfold q2G at h
 rw[if_pos h1] at h
 have h2:q0W s 48 s.root=0:=by
  by_cases h2:q0W s 48 s.root=0
  ·exact h2
  ·rw[if_neg h2] at h
   exact h
 rw[if_pos h2] at h
 have h3:(q4S s.defs || q2I 48 s.root)=false:=by
  cases hb:(q4S s.defs || q2I 48 s.root) with
  | false=>rfl
  | true=>
   rw[if_pos hb] at h
   cases h
 rw[Bool.or_eq_false_iff] at h3
 refine ⟨fun d hm=>qql s 48 d.2 (qgX s _ _ h1 d hm) ?_,qql s 48 s.root h2 h3.2⟩
 have h3:=h3.1
 unfold q4S at h3
 have:=List.any_eq_false.1 h3 d hm
 simpa using this
theorem qaB {s:Schs} (hd : ∀ d,d∈s.defs→WrS 48 d.2) (hr:WrS 48 s.root):(q6O (wrM 48) s).bulk≤16 * s.bulk:=by
 have h1:=q9x 48 s.root hr
 have h2 : ∀ l:List (List UInt8 × Sch),(∀ d,d∈l→WrS 48 d.2)→AV.bulks ((l.map (q6V (wrM 48))).map q0J)≤16 * AV.bulks (l.map q0H):=by
  intro l
  induction l with
  | nil=>intro _; simp [AV.bulks]
  | cons d l ih=>
   intro h
   have h3:=ih fun e he=>h e (Kt _ he)
   have h4:=q9x 48 d.2 (h d (Ku ..))
   have h5:=q2Y d
   have h6:=q3O (q6V (wrM 48) d)
   have h7:(q0J (q6V (wrM 48) d)).bulk=d.1.length+(wrM 48 d.2).bulk+1:=h6
   simp only[Kd,AV.bulks]
   omega
 have h3:=h2 s.defs hd
 have h4:=s.bulk_eq
 unfold q6O
 have h5:=q3O ([100,101,102,115],qlN (s.defs.map (q6V (wrM 48))))
 have h6:=q3O ([114,111,111,116],wrM 48 s.root)
 have h7:=q7F (s.defs.map (q6V (wrM 48)))
 rw[q7F]
 simp only[Kd,Kl,AV.bulks]
 dsimp only[List.length_cons,List.length_nil] at h5 h6
 omega
def wM (s:Schs):V × Int:=
 if q2G s (q3m s).2=0 then (if q42 (q6O (wrM 48) s)=0 then (q6O (wrM 48) s,0) else (qb5,q42 (q6O (wrM 48) s))) else (qb5,q2G s (q3m s).2)
theorem qkU {s:Schs} {d:List UInt8 × Sch} (h:d∈s.defs):d.2.bulk≤s.bulk:=by
 have h1:=s.bulk_eq
 have h2 : ∀ l:List (List UInt8 × Sch),d∈l→d.2.bulk≤AV.bulks (l.map q0H):=by
  intro l
  induction l with
  | nil=>intro h; cases h
  | cons e l ih=>
   intro h
   have h5:=q2Y e
   simp only[Kd,AV.bulks]
   rcases KA.1 h with rfl | h
   ·omega
   ·have:=ih h
    omega
 have:=h2 s.defs h
 omega
theorem qoh (s:Schs):s.defs.length≤s.bulk:=by
 have h1:=s.bulk_eq
 have h2 : ∀ l:List (List UInt8 × Sch),l.length≤AV.bulks (l.map q0H):=by
  intro l
  induction l with
  | nil=>simp
  | cons e l ih=>
   have h5:=q2Y e
   simp only[Kd,AV.bulks,List.length_cons]
   omega
 have:=h2 s.defs
 omega
theorem qjW (s:Schs) (hs:s.bulk≤2^20) (h70:s.defs.length≤70):q0m CT 462 [q0y s] (.tup [q0g (wM s).1,.int .i64 (wM s).2]):=by
 have hc:=upT (qjN s (by omega) _ _ (qfK s (by omega) (by omega)))
 have hX:=q0h s
 unfold wM
 by_cases hz:q2G s (q3m s).2=0
 ·obtain ⟨hd,hr⟩:=qcR hz
  have hbu:=qaB hd hr
  have hse:=s.bulk_eq
  have hw:=qga (wrM 48) s (by omega) (fun d hm=>(qdV 48 d.2 (hd d hm) (by decide) (by have h9:=qkU hm; omega)).1) (qdV 48 s.root hr (by decide) (by omega)).1
  have hk:=upT (upS (qbq (q6O (wrM 48) s) (by omega)))
  rw[hz] at hc
  rw[if_pos hz]
  generalize q6O (wrM 48) s=W at *
  rw[q07 W] at hw hk
  by_cases he:q42 W=0
  ·rw[if_pos he]
   rw[he] at hk
   rw[q07 W]
   refine q05 qdC rfl ?_
   rw[hX] at hc hw ⊢
   (repeat' first|simp (disch:=omega) only[go_sem,qdC,enter]|refine q00 _ (hc) ?_|refine q00 _ (hw) ?_|refine q00 _ (hk) ?_)
   all_goals first | rfl | omega
  ·rw[if_neg he]
   generalize q42 W=c at *
   dsimp only
   rw[q4p]
   refine q05 qdC rfl ?_
   rw[hX] at hc hw ⊢
   (repeat' first|simp (disch:=omega) only[go_sem,qdC,enter,he]|refine q00 _ (hc) ?_|refine q00 _ (hw) ?_|refine q00 _ (hk) ?_)
   all_goals first | rfl | omega
 ·rw[if_neg hz]
  generalize q2G s (q3m s).2=c at *
  dsimp only
  rw[q4p]
  refine q05 qdC rfl ?_
  rw[hX] at hc ⊢
  (repeat' first|simp (disch:=omega) only[go_sem,qdC,enter,hz]|refine q00 _ (hc) ?_)
  all_goals first | rfl | omega
end Ago
set_option maxRecDepth 100000
set_option exponentiation.threshold 2000
set_option maxHeartbeats 4000000
namespace Ago
open Go (IntKind)
theorem qeD (s:Schs) (hs:s.bulk≤2^20):q0m CT 463 [q0y s] (.tup [q0g (wM s).1,.int .i64 (wM s).2]):=by
 have hc:=upT (qdG s (by omega) _ _ (qba s (by omega)))
 have hX:=q0h s
 unfold wM
 by_cases hz:q2G s (q3m s).2=0
 ·obtain ⟨hd,hr⟩:=qcR hz
  have hbu:=qaB hd hr
  have hse:=s.bulk_eq
  have hdl:=qoh s
  have hdr:=fun d hm=>(qdV 48 d.2 (hd d hm) (by decide) (by have h9:=qkU hm; omega)).2
  have hrr:=(qdV 48 s.root hr (by decide) (by omega)).2
  have hk:=upT (upS (qdu (q6O (wrM 48) s) (by omega)))
  rw[hz] at hc
  rw[if_pos hz]
  generalize hQ:(if q42 (q6O (wrM 48) s)=0 then (q6O (wrM 48) s,(0:Int)) else (qb5,q42 (q6O (wrM 48) s)))=Q
  have hwe:=qgd (wrM 48) s
  rw[q17] at hwe
  generalize q6O (wrM 48) s=U at *
  rw[hwe] at hk
  generalize wrM 48 s.root=W at *
  rw[q07 W,q02] at hrr
  dsimp only at hwe hk
  refine q05 qi5 rfl ?_
  rw[hX] at hc ⊢
  (repeat' first|simp (disch:=omega) only[go_sem,qi5,enter]|refine q00 _ (hc) ?_|(apply spl<;>intro h<;>try simp (disch:=omega) only[go_sem,h]))
  refine q0a (α:=Nat) (fun k=>{ tmps:=q0i 57 [(1,.ptr 16 0 0 0),(2,.ptr 13 1 0 0),(5,.ptr 13 2 0 0),(6,.int .i64 k)],heap:=qn3 (q0y s) ((s.defs.take k).map fun d=>q0J (q6V (wrM 48) d)),base:=0 }) (fun k=>k≤s.defs.length) (fun k=>s.defs.length-k) 0 (by rw[hX]; rfl) (Kn _) ?_
  intro k hk2
  rw[hX]
  by_cases hlt:k<s.defs.length
  ·obtain ⟨y,hy⟩:=q08 hlt
   have hym:=Kc hy
   have hy2:=q0d (g:=q0H) hy
   rw[q0K y] at hy2
   have r1:=hdr y hym
   have hen:(s.defs.take (k+1)).map (fun d=>q0J (q6V (wrM 48) d))=(s.defs.take k).map (fun d=>q0J (q6V (wrM 48) d))++[q0J (q6V (wrM 48) y)]:=by rw[KD,hy]; simp
   have hle:((s.defs.take k).map (fun d=>q0J (q6V (wrM 48) d))).length=k:=by rw[Ka,KI]; omega
   have hf:q0J (q6V (wrM 48) y)=_:=q17 (q6V (wrM 48) y)
   unfold q6V at hf
   dsimp only at hf
   rw[show q0J (q6V (wrM 48) y)=_ from hf] at hen
   generalize wrM 48 y.2=Y at *
   rw[q07 Y] at r1
   rw[q02 y.2] at r1
   generalize hE:(s.defs.take k).map (fun d=>q0J (q6V (wrM 48) d))=E at hen hle ⊢
   rcases E with _ | ⟨e0,es⟩
   all_goals
    simp only[List.length_cons,List.length_nil] at hle
    unfold qn3 fo fr mpV zV
    (repeat' first|simp (disch:=omega) only[go_sem,hy2,Ka,List.length_cons,List.length_nil,K9,KO,Kf,Kh,Kj]|refine q00 _ (r1) ?_|(apply spl<;>intro h<;>try simp (disch:=omega) only[go_sem,h]))
    all_goals try omega
    all_goals
     refine ⟨k+1,?_,hlt,by omega⟩
     rw[hen]
     simp only[qn3,fo,fr,mpV,zV,hX,Kf,Kh,Kb,List.length_cons,List.length_nil,KO,KS]
     first | rfl
  ·obtain rfl:k=s.defs.length:=by omega
   rw[Ky]
   generalize s.defs.map (fun d=>q0J (q6V (wrM 48) d))=E at hk hwe ⊢
   by_cases he:q42 U=0
   ·rw[if_pos he] at hQ
    subst hQ
    rw[he] at hk
    dsimp only
    rw[hwe]
    rcases E with _ | ⟨e0,es⟩
    all_goals
     unfold qn3 fo fr mpV zV
     (repeat' first|simp (disch:=omega) only[go_sem,Ka,List.length_cons,List.length_nil,K9,KO,Kf,Kh,Kj,K4,Ky,q0R,Blk.mark,K5,Vf,Vu,Vj,Bool.or_true,if_true]|refine q00 _ (hrr) ?_|refine q00 _ (hk) ?_)
     all_goals first | rfl | omega
   ·rw[if_neg he] at hQ
    subst hQ
    generalize q42 U=c at *
    dsimp only
    rw[q4p]
    rcases E with _ | ⟨e0,es⟩
    all_goals
     unfold qn3 fo fr mpV zV
     (repeat' first|simp (disch:=omega) only[go_sem,he,Ka,List.length_cons,List.length_nil,K9,KO,Kf,Kh,Kj,K4,Ky,q0R,Blk.mark,K5,Vf,Vu,Vj,Bool.or_true,if_true]|refine q00 _ (hrr) ?_|refine q00 _ (hk) ?_)
     all_goals first | rfl | omega
 ·rw[if_neg hz]
  generalize q2G s (q3m s).2=c at *
  dsimp only
  rw[q4p]
  refine q05 qi5 rfl ?_
  rw[hX] at hc ⊢
  (repeat' first|simp (disch:=omega) only[go_sem,qi5,enter,hz]|refine q00 _ (hc) ?_)
  all_goals first | rfl | omega
end Ago
set_option maxRecDepth 100000
set_option exponentiation.threshold 2000
set_option maxHeartbeats 4000000
namespace Ago
open Go (IntKind)
theorem qqp {s:Schs} (hs:s.bulk≤2^20):(wM s).1.bulk≤2^24:=by
 unfold wM
 have hn:=q9u
 by_cases hz:q2G s (q3m s).2=0
 ·obtain ⟨hd,hr⟩:=qcR hz
  have hbu:=qaB hd hr
  rw[if_pos hz]
  split
  ·dsimp only; omega
  ·dsimp only; omega
 ·rw[if_neg hz]
  dsimp only
  omega
theorem q92 (haw:q0m CT 456 [] (.bool true)) (s:Schs) (hs:s.bulk≤2^20):q0m CT 444 [q0y s] (.bool true):=by
 obtain ⟨b,hb,h70⟩:=qf2 s (by omega)
 have hb:=upT hb
 cases b with
 | false=>
  refine q05 qhB rfl ?_
  rw[q0h] at hb ⊢
  (repeat' first|simp (disch:=omega) only[go_sem,qhB,enter]|refine q00 _ (hb) ?_|refine q00 _ (haw) ?_)
  all_goals first | rfl
 | true=>
  have h70:=h70 rfl
  have h1:=qjW s hs h70
  have h2:=qeD s hs
  have h3:=upT (upS (qeG (2^24) (wM s).1 (qqp hs) (Kr _)))
  generalize (wM s).2=c at *
  generalize (wM s).1=W at *
  refine q05 qhB rfl ?_
  rw[q07 W] at h1 h2 h3
  rw[q0h] at hb h1 h2 ⊢
  (repeat' first|simp (disch:=omega) only[go_sem,qhB,enter,beq_self_eq_true]|refine q00 _ (hb) ?_|refine q00 _ (h1) ?_|refine q00 _ (h2) ?_|refine q00 _ (h3) ?_|refine q00 _ (haw) ?_)
  all_goals first | rfl
end Ago
