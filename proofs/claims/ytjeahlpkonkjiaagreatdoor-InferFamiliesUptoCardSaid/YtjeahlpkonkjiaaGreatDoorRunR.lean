/- Infer: within,as both sides tell it; the law InferFamilies. -/
import Derived.Test.YtjeahlpkonkjiaaGreatDoorRunQ
set_option linter.unusedSimpArgs false
set_option linter.unusedVariables false
set_option maxRecDepth 100000
set_option exponentiation.threshold 2000
set_option maxHeartbeats 4000000
namespace Ago
open Go (IntKind)
def kGo (k:List UInt8):Nat→List (PK × Sch)→Option (Nat × (PK × Sch))
 | _,[]=>none
 | i,p::l=>if p.1.key=k then some (i,p) else kGo k (i+1) l
theorem q9o {k:List UInt8} {l:List (PK × Sch)} {i:Nat} {p:PK × Sch} (h:l[i]?=some p):kGo k i (l.drop i)=if p.1.key=k then some (i,p) else kGo k (i+1) (l.drop (i+1)):=by
 rw[q6n h,kGo]
theorem qnb {k:List UInt8} {l:List (PK × Sch)} : ∀ (n j i:Nat) (q:PK × Sch),l.length-j≤n→kGo k j (l.drop j)=some (i,q)→l[i]?=some q
 | 0,j,i,q,hn,h=>by
  rw[K1 (by omega),kGo] at h
  cases h
 | n+1,j,i,q,hn,h=>by
  by_cases hlt:j<l.length
  ·obtain ⟨p,hp⟩:=q05 hlt
   rw[q9o hp] at h
   split at h
   ·cases h
    exact hp
   ·exact qnb n (j+1) i q (by omega) h
  ·rw[K1 (by omega),kGo] at h
   cases h
def isP (w:Sch→Sch→Bool) (l:List (PK × Sch)) (p:PK × Sch):Bool:=match kGo p.1.key 0 l with
 | none=>false
 | some (_,q)=>w p.2 q.2 && !(q.1.req && !p.1.req)
def isQ (l:List (PK × Sch)) (q:PK × Sch):Bool:=!(q.1.req && (kGo q.1.key 0 l).isNone)
def q7A (w:Sch→Sch→Bool) (x y:Sch):Bool:=
 if x.s.op=4 then decide (0≤q24 (qeW x).lo.num (qeW y).lo.num) && decide (q24 (qeW x).hi.num (qeW y).hi.num≤0) && (decide ((qeW y).sort=0) || decide ((qeW x).sort=1))
 else if x.s.op=5 then decide (y.s.min≤x.s.min) && decide (x.s.max≤y.s.max)
 else if x.s.op=9 then decide (y.s.min≤x.s.min) && decide (x.s.max≤y.s.max) && (decide (x.s.max=0) || w (qlg x) (qlg y))
 else if x.s.op=10 then x.p.all (isP w y.p) && y.p.all (isQ x.p)
 else true
def inA (w:Sch→Sch→Bool) (b x:Sch):Bool:=match kfM b (q1d x) with
 | none=>false
 | some y=>q7A w x y
def qmU:Nat→Sch→Sch→Bool
 | 0,_,_=>true
 | n+1,a,b=>a.a.all (inA (qmU n) b)
theorem qn1 (n:Nat) (a b:Sch):qmU (n+1) a b=a.a.all (inA (qmU n) b):=(rfl)
theorem q69 {α:Type} {f:α→Bool} {l:List α} {i:Nat} {a:α} (h:l[i]?=some a):(l.drop i).all f=(f a && (l.drop (i+1)).all f):=by
 rw[q6n h,Vc]
theorem qlZ (x y:Sch) (p:PK × Sch) (q:PK × Sch):q1K CI 1003 [q0g q,.ptr 17 2 0 0] [.row 15 [q03 x] false true 0,.row 15 [q03 y] false true 1,.row 17 [q0g p] false true 2] (.bool (q.1.key == p.1.key)) [.row 15 [q03 x] false true 0,.row 15 [q03 y] false true 1,.row 17 [q0g p] false true 2]:=by
 refine q1A qh1 rfl ?_
 rw[q0f q,q0f p]
 (repeat' first|simp (disch:=omega) only[go_sem,qh1,enter]|(apply spl<;>intro h<;>try simp (disch:=omega) only[go_sem,h]))
 all_goals exact q2l (.inr rfl) (.bool (q.1.key == p.1.key)) rfl rfl rfl
theorem qpJ (x y:Sch) (p:PK × Sch) (l:List (PK × Sch)) (hl:l.length<2^30):q1K CI 1002 [.tsl 17 (l.map q0g),.fn 1003 [.ptr 17 2 0 0]] [.row 15 [q03 x] false true 0,.row 15 [q03 y] false true 1,.row 17 [q0g p] false true 2] (.int .i64 (match kGo p.1.key 0 l with
  | none=>-1
  | some (i,_)=>i)) [.row 15 [q03 x] false true 0,.row 15 [q03 y] false true 1,.row 17 [q0g p] false true 2]:=by
 refine q1A qbw rfl ?_
 obtain ⟨R,hR⟩ : ∃ R,kGo p.1.key 0 l=R:=⟨_,rfl⟩
 rw[hR]
 (repeat' first|simp (disch:=omega) only[go_sem,qbw,enter,Ka]|(apply spl<;>intro h<;>try simp (disch:=omega) only[go_sem,h]))
 all_goals first | omega | skip
 refine q06 (α:=Nat) (fun k=>{ tmps:=q0h 19 [(0,.tsl 17 (l.map q0g)),(1,.fn 1003 [.ptr 17 2 0 0]),(7,.int .i64 l.length),(8,.int .i64 k)],heap:=[.row 15 [q03 x] false true 0,.row 15 [q03 y] false true 1,.row 17 [q0g p] false true 2],base:=3 }) (fun k=>k≤l.length∧kGo p.1.key k (l.drop k)=R) (fun k=>l.length-k) 0 rfl ⟨Km _,hR⟩ ?_
 rintro k ⟨hk,he⟩
 by_cases hlt:k<l.length
 ·obtain ⟨z,hz⟩:=q05 hlt
  have hz2:=q09 (g:=q0g) hz
  have hr:=qlZ x y p z
  rw[q9o hz] at he
  rw[q0f z] at hz2 hr
  by_cases hc:z.1.key=p.1.key
  ·rw[if_pos hc] at he
   rw[show (z.1.key == p.1.key)=true by simpa using hc] at hr
   rw[←he]
   (repeat' first|simp (disch:=omega) only[go_sem,hz2,Ka]|(refine q0l _ _ hr ?_)|(apply spl<;>intro h<;>try simp (disch:=omega) only[go_sem,h]))
   all_goals exact q2l (.inr rfl) (.int .i64 k) rfl rfl rfl
  ·rw[if_neg hc] at he
   rw[show (z.1.key == p.1.key)=false by simpa using hc] at hr
   (repeat' first|simp (disch:=omega) only[go_sem,hz2,Ka]|(refine q0l _ _ hr ?_)|(apply spl<;>intro h<;>try simp (disch:=omega) only[go_sem,h]))
   all_goals first | omega | skip
   exact ⟨k+1,rfl,⟨by omega,he⟩,by omega⟩
 ·rw[K1 (by omega),kGo] at he
  rw[←he]
  (repeat' first|simp (disch:=omega) only[go_sem,Ka]|(apply spl<;>intro h<;>try simp (disch:=omega) only[go_sem,h]))
  all_goals exact q2l (.inr rfl) (.int .i64 (-1)) rfl rfl rfl
theorem qkU (x:Sch) (p:PK × Sch) (q:PK × Sch):q1K CI 1005 [q0g q,.ptr 17 1 0 0] [.row 15 [q03 x] false true 0,.row 17 [q0g p] false true 1] (.bool (q.1.key == p.1.key)) [.row 15 [q03 x] false true 0,.row 17 [q0g p] false true 1]:=by
 refine q1A qi5 rfl ?_
 rw[q0f q,q0f p]
 (repeat' first|simp (disch:=omega) only[go_sem,qi5,enter]|(apply spl<;>intro h<;>try simp (disch:=omega) only[go_sem,h]))
 all_goals exact q2l (.inr rfl) (.bool (q.1.key == p.1.key)) rfl rfl rfl
theorem qo8 (x:Sch) (p:PK × Sch) (l:List (PK × Sch)) (hl:l.length<2^30):q1K CI 1002 [.tsl 17 (l.map q0g),.fn 1005 [.ptr 17 1 0 0]] [.row 15 [q03 x] false true 0,.row 17 [q0g p] false true 1] (.int .i64 (match kGo p.1.key 0 l with
  | none=>-1
  | some (i,_)=>i)) [.row 15 [q03 x] false true 0,.row 17 [q0g p] false true 1]:=by
 refine q1A qbw rfl ?_
 obtain ⟨R,hR⟩ : ∃ R,kGo p.1.key 0 l=R:=⟨_,rfl⟩
 rw[hR]
 (repeat' first|simp (disch:=omega) only[go_sem,qbw,enter,Ka]|(apply spl<;>intro h<;>try simp (disch:=omega) only[go_sem,h]))
 all_goals first | omega | skip
 refine q06 (α:=Nat) (fun k=>{ tmps:=q0h 19 [(0,.tsl 17 (l.map q0g)),(1,.fn 1005 [.ptr 17 1 0 0]),(7,.int .i64 l.length),(8,.int .i64 k)],heap:=[.row 15 [q03 x] false true 0,.row 17 [q0g p] false true 1],base:=2 }) (fun k=>k≤l.length∧kGo p.1.key k (l.drop k)=R) (fun k=>l.length-k) 0 rfl ⟨Km _,hR⟩ ?_
 rintro k ⟨hk,he⟩
 by_cases hlt:k<l.length
 ·obtain ⟨z,hz⟩:=q05 hlt
  have hz2:=q09 (g:=q0g) hz
  have hr:=qkU x p z
  rw[q9o hz] at he
  rw[q0f z] at hz2 hr
  by_cases hc:z.1.key=p.1.key
  ·rw[if_pos hc] at he
   rw[show (z.1.key == p.1.key)=true by simpa using hc] at hr
   rw[←he]
   (repeat' first|simp (disch:=omega) only[go_sem,hz2,Ka]|(refine q0l _ _ hr ?_)|(apply spl<;>intro h<;>try simp (disch:=omega) only[go_sem,h]))
   all_goals exact q2l (.inr rfl) (.int .i64 k) rfl rfl rfl
  ·rw[if_neg hc] at he
   rw[show (z.1.key == p.1.key)=false by simpa using hc] at hr
   (repeat' first|simp (disch:=omega) only[go_sem,hz2,Ka]|(refine q0l _ _ hr ?_)|(apply spl<;>intro h<;>try simp (disch:=omega) only[go_sem,h]))
   all_goals first | omega | skip
   exact ⟨k+1,rfl,⟨by omega,he⟩,by omega⟩
 ·rw[K1 (by omega),kGo] at he
  rw[←he]
  (repeat' first|simp (disch:=omega) only[go_sem,Ka]|(apply spl<;>intro h<;>try simp (disch:=omega) only[go_sem,h]))
  all_goals exact q2l (.inr rfl) (.int .i64 (-1)) rfl rfl rfl
theorem qoP (x:Sch) (p:PK × Sch) (l:List (PK × Sch)) (hl:l.length<2^30):q1K CI 1004 [.tsl 17 (l.map q0g),.fn 1005 [.ptr 17 1 0 0]] [.row 15 [q03 x] false true 0,.row 17 [q0g p] false true 1] (.bool (kGo p.1.key 0 l).isSome) [.row 15 [q03 x] false true 0,.row 17 [q0g p] false true 1]:=by
 have hr:=qo8 x p l hl
 refine q1A qeO rfl ?_
 cases hk:kGo p.1.key 0 l with
 | none=>
  rw[hk] at hr
  (repeat' first|simp (disch:=omega) only[go_sem,qeO,enter]|(refine q0l _ _ hr ?_)|(apply spl<;>intro h<;>try simp (disch:=omega) only[go_sem,h]))
  all_goals exact q2l (.inr rfl) (.bool false) rfl rfl rfl
 | some r=>
  rw[hk] at hr
  obtain ⟨i,q⟩:=r
  have hi:(0:Int)≤i:=by omega
  (repeat' first|simp (disch:=omega) only[go_sem,qeO,enter,hi]|(refine q0l _ _ hr ?_)|(apply spl<;>intro h<;>try simp (disch:=omega) only[go_sem,h]))
  all_goals exact q2l (.inr rfl) (.bool true) rfl rfl rfl
def qmb:PK × Sch:=(⟨[],false⟩,zeroX)
def qhm:AV:=.agg [.str [],.bool false,.int .i64 0,.int .i64 0,.int .i64 0,.int .i64 0,.str [],.snil 11,.int .i64 0,.int .i64 0,.int .i64 0,.int .i64 0,.int .i64 0,.snil 6,.snil 13,.snil 17,.snil 15]
theorem q9r:q0g qmb = .agg [.str [],.bool false,.int .i64 0,.int .i64 0,.int .i64 0,.int .i64 0,.str [],.tsl 11 [],.int .i64 0,.int .i64 0,.int .i64 0,.int .i64 0,.int .i64 0,.tsl 6 [],.tsl 13 [],.tsl 17 [],.tsl 15 []]:=(rfl)
theorem qhQ (l:List (PK × Sch)) (k:List UInt8) (hl:l.length<2^30):q0e CI 1006 [.tsl 17 (l.map q0g),.str k] (.tup [q0g (match kGo k 0 l with
  | none=>qmb
  | some (_,q)=>q),.bool (kGo k 0 l).isSome]):=by
 obtain ⟨R,hR⟩ : ∃ R,kGo k 0 l=R:=⟨_,rfl⟩
 rw[hR]
 refine q04 qie rfl ?_
 (repeat' first|simp (disch:=omega) only[go_sem,qie,enter,Ka]|(apply spl<;>intro h<;>try simp (disch:=omega) only[go_sem,h]))
 all_goals first | omega | skip
 refine q06 (α:=Nat) (fun i=>{ tmps:=q0h 25 [(0,.tsl 17 (l.map q0g)),(1,.str k),(4,.ptr 17 0 0 0),(6,.int .i64 i)],heap:=[.row 17 [qhm] false true 0],base:=0 }) (fun i=>i≤l.length∧kGo k i (l.drop i)=R) (fun i=>l.length-i) 0 rfl ⟨Km _,hR⟩ ?_
 rintro i ⟨hi,he⟩
 by_cases hlt:i<l.length
 ·obtain ⟨z,hz⟩:=q05 hlt
  have hz2:=q09 (g:=q0g) hz
  rw[q9o hz] at he
  rw[q0f z] at hz2
  by_cases hc:z.1.key=k
  ·rw[if_pos hc] at he
   have hcd:(z.1.key == k)=true:=by simpa using hc
   rw[←he]
   simp only
   rw[q0f z]
   (repeat' first|simp (disch:=omega) only[go_sem,hz2,hcd,Ka,qhm]|(apply spl<;>intro h<;>try simp (disch:=omega) only[go_sem,h]))
   all_goals first | omega | rfl
  ·rw[if_neg hc] at he
   have hcd:(z.1.key == k)=false:=by simpa using hc
   (repeat' first|simp (disch:=omega) only[go_sem,hz2,hcd,Ka,qhm]|(apply spl<;>intro h<;>try simp (disch:=omega) only[go_sem,h]))
   all_goals first | omega | skip
   exact ⟨i+1,rfl,⟨by omega,he⟩,by omega⟩
 ·rw[K1 (by omega),kGo] at he
  rw[←he]
  simp only
  rw[q9r]
  (repeat' first|simp (disch:=omega) only[go_sem,Ka,qhm]|(apply spl<;>intro h<;>try simp (disch:=omega) only[go_sem,h]))
  all_goals first | omega | rfl
theorem qr4 {a b:Dec} (ha:q0c a=true) (hb:q0c b=true):(q24 b a≤0)=(0≤q24 a b):=by
 have h1:=q2o ha hb
 have h2:=qcH hb ha
 exact propext ⟨fun h=>by omega,fun h=>by omega⟩
theorem qrC (w:Sch→Sch→Bool) (p q:Prt) (h1:q0c p.lo.num=true) (h2:q0c p.hi.num=true) (h3:q0c q.lo.num=true) (h4:q0c q.hi.num=true):q0e CI 994 [q03 (q4S p),q03 (q4S q)] (.bool (q7A w (q4S p) (q4S q))):=by
 rw[show q7A w (q4S p) (q4S q)=(decide (0≤q24 p.lo.num q.lo.num) && decide (q24 p.hi.num q.hi.num≤0) && (decide (q.sort=0) || decide (p.sort=1))) from rfl]
 have c1:=q9h (q5l p.lo.num q.lo.num h1 h3)
 have c2:=q9h (q5l p.hi.num q.hi.num h2 h4)
 generalize q24 p.lo.num q.lo.num=k1 at *
 generalize q24 p.hi.num q.hi.num=k2 at *
 rw[q2I,q2I]
 unfold q0b at c1 c2
 refine q04 q8V rfl ?_
 (repeat' first|simp (disch:=omega) only[go_sem,q8V,enter,Kj,Kt,q0n]|(apply spl<;>intro h<;>try simp (disch:=omega) only[go_sem,h]))
 refine q39 ?s1 ?g1 ?g2
 rotate_left
 case g1=>
  repeat' first | exact q33 | refine q2i ?_ ?_
  all_goals
   (repeat' first|simp (disch:=omega) only[go_sem,q3B,Kb,Kd]|(apply spl<;>intro h<;>try simp (disch:=omega) only[go_sem,h]))
   all_goals first | rfl | omega
 case g2=>
  by_cases e1:0≤k1<;>by_cases e2:k2≤0<;>by_cases e3:q.sort=0<;>by_cases e4:p.sort=1
  all_goals
   (repeat' first|simp (disch:=omega) only[go_sem,e1,e2,e3,e4]|refine q00 _ (c1) ?_|refine q00 _ (c2) ?_|(apply spl<;>intro h<;>try simp (disch:=omega) only[go_sem,h]))
   all_goals first | omega | rfl | simp [e1,e2,e3,e4]
theorem qoK (w:Sch→Sch→Bool) (a b c d:Int):q0e CI 994 [q03 (q2j a b),q03 (q2j c d)] (.bool (q7A w (q2j a b) (q2j c d))):=by
 rw[show q7A w (q2j a b) (q2j c d)=(decide (c≤a) && decide (b≤d)) from rfl,q2p,q2p]
 refine q04 q8V rfl ?_
 by_cases e1:c≤a<;>by_cases e2:b≤d
 all_goals
  (repeat' first|simp (disch:=omega) only[go_sem,q8V,enter,e1,e2]|(apply spl<;>intro h<;>try simp (disch:=omega) only[go_sem,h]))
  all_goals first | omega | rfl | simp [e1,e2]
theorem qnM (w:Sch→Sch→Bool) (m:Int) (y:Sch):q0e CI 994 [q03 (q2Z m),q03 y] (.bool (q7A w (q2Z m) y)):=by
 rw[show q7A w (q2Z m) y=true from rfl,q59,q01 y]
 refine q04 q8V rfl ?_
 (repeat' first|simp (disch:=omega) only[go_sem,q8V,enter]|(apply spl<;>intro h<;>try simp (disch:=omega) only[go_sem,h]))
 all_goals first | omega | rfl
theorem qpu (w:Sch→Sch→Bool) (a b c d:Int) (x y:Sch) (h:q0e CI 981 [q03 x,q03 y] (.bool (w x y))):q0e CI 994 [q03 (q1X a b x),q03 (q1X c d y)] (.bool (q7A w (q1X a b x) (q1X c d y))):=by
 rw[show q7A w (q1X a b x) (q1X c d y)=(decide (c≤a) && decide (b≤d) && (decide (b=0) || w x y)) from rfl,q2t,q2t]
 generalize w x y=r at *
 rw[q01 x,q01 y] at h ⊢
 refine q04 q8V rfl ?_
 by_cases e1:c≤a<;>by_cases e2:b≤d<;>by_cases e3:b=0
 all_goals
  (repeat' first|simp (disch:=omega) only[go_sem,q8V,enter,e1,e2,e3,Kb,Kd]|refine q00 _ (h) ?_|(apply spl<;>intro h<;>try simp (disch:=omega) only[go_sem,h]))
  all_goals first | omega | rfl | simp [e1,e2,e3]
theorem qiC (w:Sch→Sch→Bool) (p q:Prt) (h1:q0c p.lo.num=true) (h2:q0c p.hi.num=true) (h3:q0c q.lo.num=true) (h4:q0c q.hi.num=true):q0e CI 996 [q03 (q4S p),q03 (q4S q)] (.bool (q7A w (q4S p) (q4S q))):=by
 rw[show q7A w (q4S p) (q4S q)=(decide (0≤q24 p.lo.num q.lo.num) && decide (q24 p.hi.num q.hi.num≤0) && (decide (q.sort=0) || decide (p.sort=1))) from rfl]
 have c1:=q9h (q3J q.lo.num p.lo.num h3 h1)
 have c2:=q9h (q3J p.hi.num q.hi.num h2 h4)
 have e5:=qr4 h1 h3
 generalize q24 q.lo.num p.lo.num=k3 at *
 generalize q24 p.lo.num q.lo.num=k1 at *
 generalize q24 p.hi.num q.hi.num=k2 at *
 rw[q2I,q2I]
 unfold q0b at c1 c2
 refine q04 q8U rfl ?_
 (repeat' first|simp (disch:=omega) only[go_sem,q8U,enter,Kj,Kt,q0n]|(apply spl<;>intro h<;>try simp (disch:=omega) only[go_sem,h]))
 refine q39 ?s1 ?g1 ?g2
 rotate_left
 case g1=>
  repeat' first | exact q33 | refine q2i ?_ ?_
  all_goals
   (repeat' first|simp (disch:=omega) only[go_sem,q3B,Kb,Kd]|(apply spl<;>intro h<;>try simp (disch:=omega) only[go_sem,h]))
   all_goals first | rfl | omega
 case g2=>
  by_cases e1:0≤k1<;>by_cases e2:k2≤0<;>by_cases e3:q.sort=0<;>by_cases e4:p.sort=1
  all_goals
   (repeat' first|simp (disch:=omega) only[go_sem,e1,e2,e3,e4,e5]|refine q00 _ (c1) ?_|refine q00 _ (c2) ?_|(apply spl<;>intro h<;>try simp (disch:=omega) only[go_sem,h]))
   all_goals first | omega | rfl | simp [e1,e2,e3,e4]
theorem qfR (w:Sch→Sch→Bool) (a b c d:Int):q0e CI 996 [q03 (q2j a b),q03 (q2j c d)] (.bool (q7A w (q2j a b) (q2j c d))):=by
 rw[show q7A w (q2j a b) (q2j c d)=(decide (c≤a) && decide (b≤d)) from rfl,q2p,q2p]
 refine q04 q8U rfl ?_
 by_cases e1:c≤a<;>by_cases e2:b≤d
 all_goals
  (repeat' first|simp (disch:=omega) only[go_sem,q8U,enter,e1,e2]|(apply spl<;>intro h<;>try simp (disch:=omega) only[go_sem,h]))
  all_goals first | omega | rfl | simp [e1,e2]
theorem qgl (w:Sch→Sch→Bool) (m:Int) (y:Sch):q0e CI 996 [q03 (q2Z m),q03 y] (.bool (q7A w (q2Z m) y)):=by
 rw[show q7A w (q2Z m) y=true from rfl,q59,q01 y]
 refine q04 q8U rfl ?_
 (repeat' first|simp (disch:=omega) only[go_sem,q8U,enter]|(apply spl<;>intro h<;>try simp (disch:=omega) only[go_sem,h]))
 all_goals first | omega | rfl
theorem qge (w:Sch→Sch→Bool) (a b c d:Int) (x y:Sch) (h:q0e CI 982 [q03 x,q03 y] (.bool (w x y))):q0e CI 996 [q03 (q1X a b x),q03 (q1X c d y)] (.bool (q7A w (q1X a b x) (q1X c d y))):=by
 rw[show q7A w (q1X a b x) (q1X c d y)=(decide (c≤a) && decide (b≤d) && (decide (b=0) || w x y)) from rfl,q2t,q2t]
 generalize w x y=r at *
 rw[q01 x,q01 y] at h ⊢
 refine q04 q8U rfl ?_
 by_cases e1:c≤a<;>by_cases e2:b≤d<;>by_cases e3:b=0
 all_goals
  (repeat' first|simp (disch:=omega) only[go_sem,q8U,enter,e1,e2,e3,Kb,Kd]|refine q00 _ (h) ?_|(apply spl<;>intro h<;>try simp (disch:=omega) only[go_sem,h]))
  all_goals first | omega | rfl | simp [e1,e2,e3]
theorem qrl (w:Sch→Sch→Bool) (p q:List (PK × Sch)) (hp:p.length<2^24) (hq:q.length<2^24) (hf : ∀ x,x∈p→∀ y,y∈q→q0e CI 981 [q03 x.2,q03 y.2] (.bool (w x.2 y.2))):q0e CI 994 [q03 (q3T p),q03 (q3T q)] (.bool (q7A w (q3T p) (q3T q))):=by
 rw[show q7A w (q3T p) (q3T q)=(p.all (isP w q) && q.all (isQ p)) from rfl]
 obtain ⟨R,hR⟩ : ∃ R,(p.all (isP w q) && q.all (isQ p))=R:=⟨_,rfl⟩
 rw[hR]
 rw[q0A,q0A]
 refine q04 q8V rfl ?_
 (repeat' first|simp (disch:=omega) only[go_sem,q8V,enter,Ka]|(apply spl<;>intro h<;>try simp (disch:=omega) only[go_sem,h]))
 all_goals first | omega | skip
 refine q06 (α:=Nat) (fun i=>{ tmps:=q0h 156 [(2,.ptr 15 0 0 0),(3,.ptr 15 1 0 0),(101,.tsl 17 (p.map q0g)),(102,.int .i64 p.length),(103,.int .i64 i)],heap:=[.row 15 [q03 (q3T p)] false true 0,.row 15 [q03 (q3T q)] false true 1],base:=0 }) (fun i=>i≤p.length∧((p.drop i).all (isP w q) && q.all (isQ p))=R) (fun i=>p.length-i) 0 (by rw[q0A,q0A]; rfl) ⟨Km _,by rw[Vh]; exact hR⟩ ?_
 rintro i ⟨hi,hk⟩
 rw[q0A,q0A]
 by_cases hlt:i<p.length
 ·obtain ⟨x,hx⟩:=q05 hlt
  have hx2:=q09 (g:=q0g) hx
  rw[q69 hx] at hk
  rw[q0f x] at hx2
  have hcal:=qpJ (q3T p) (q3T q) x q (by omega)
  rw[q0A,q0A,q0f x] at hcal
  cases hg:kGo x.1.key 0 q with
  | none=>
   rw[hg] at hcal
   have hA:isP w q x=false:=by unfold isP; rw[hg]
   rw[hA,KD,KD] at hk
   rw[←hk]
   simp only at hcal
   (repeat' first|simp (disch:=omega) only[go_sem,hx2,Ka]|(refine q0l _ _ hcal ?_)|(apply spl<;>intro h<;>try simp (disch:=omega) only[go_sem,h]))
   all_goals first | omega | rfl
  | some r=>
   obtain ⟨j,z⟩:=r
   have hz:=qnb (l:=q) _ 0 j z (Kr _) (by rw[Vh]; exact hg)
   have hzq:=Kc hz
   have hz2:=q09 (g:=q0g) hz
   have hw:=hf x (Kc hx) z hzq
   rw[hg] at hcal
   simp only at hcal
   have hA:isP w q x=(w x.2 z.2 && !(z.1.req && !x.1.req)):=by unfold isP; rw[hg]
   rw[hA] at hk
   rw[q01,q01 z.2] at hw
   rw[q0f z] at hz2
   have hj : ¬ (j:Int)<0:=by omega
   obtain ⟨b,hb⟩ : ∃ b,w x.2 z.2=b:=⟨_,rfl⟩
   rw[hb] at hw hk
   cases b with
   | false=>
    simp only[KD] at hk
    rw[←hk]
    cases hr1:z.1.req<;>cases hr2:x.1.req
    all_goals
     rw[hr1] at hz2
     rw[hr2] at hx2 hcal
     (repeat' first|simp (disch:=omega) only[go_sem,hx2,hz2,hj,Ka]|(refine q0l _ _ hcal ?_)|refine q00 _ (hw) ?_|(apply spl<;>intro h<;>try simp (disch:=omega) only[go_sem,h]))
     all_goals first | omega | rfl
   | true=>
    cases hr1:z.1.req with
    | false=>
     rw[hr1] at hz2
     simp only[hr1,KD,Vq,Kw] at hk
     (repeat' first|simp (disch:=omega) only[go_sem,hx2,hz2,hj,Ka]|(refine q0l _ _ hcal ?_)|refine q00 _ (hw) ?_|(apply spl<;>intro h<;>try simp (disch:=omega) only[go_sem,h]))
     all_goals first | omega | skip
     exact ⟨i+1,by first | rfl | (rw[q0A,q0A]; rfl),⟨by omega,hk⟩,by omega⟩
    | true=>
     rw[hr1] at hz2
     cases hr2:x.1.req with
     | false=>
      rw[hr2] at hx2 hcal
      simp only[hr1,hr2,Kw,Vq,V3,Vi,KD] at hk
      rw[←hk]
      (repeat' first|simp (disch:=omega) only[go_sem,hx2,hz2,hj,Ka]|(refine q0l _ _ hcal ?_)|refine q00 _ (hw) ?_|(apply spl<;>intro h<;>try simp (disch:=omega) only[go_sem,h]))
      all_goals first | omega | rfl
     | true=>
      rw[hr2] at hx2 hcal
      simp only[hr1,hr2,Kw,V3,Vi,Vq] at hk
      (repeat' first|simp (disch:=omega) only[go_sem,hx2,hz2,hj,Ka]|(refine q0l _ _ hcal ?_)|refine q00 _ (hw) ?_|(apply spl<;>intro h<;>try simp (disch:=omega) only[go_sem,h]))
      all_goals first | omega | skip
      exact ⟨i+1,by first | rfl | (rw[q0A,q0A]; rfl),⟨by omega,hk⟩,by omega⟩
 ·rw[K1 (by omega),VO,Kw] at hk
  (repeat' first|simp (disch:=omega) only[go_sem,Ka]|(apply spl<;>intro h<;>try simp (disch:=omega) only[go_sem,h]))
  all_goals first | omega | skip
  refine q06 (α:=Nat) (fun i=>{ tmps:=q0h 156 [(2,.ptr 15 0 0 0),(140,.tsl 17 (q.map q0g)),(141,.int .i64 q.length),(142,.int .i64 i)],heap:=[.row 15 [q03 (q3T p)] false true 0],base:=0 }) (fun i=>i≤q.length∧(q.drop i).all (isQ p)=R) (fun i=>q.length-i) 0 (by rw[q0A]; rfl) ⟨Km _,by rw[Vh]; exact hk⟩ ?_
  rintro i ⟨hi,hk⟩
  rw[q0A]
  by_cases hlt2:i<q.length
  ·obtain ⟨y,hy⟩:=q05 hlt2
   have hy2:=q09 (g:=q0g) hy
   rw[q69 hy] at hk
   rw[q0f y] at hy2
   have hcal:=qoP (q3T p) y p (by omega)
   rw[q0A,q0f y] at hcal
   have hQ:isQ p y = !(y.1.req && (kGo y.1.key 0 p).isNone):=rfl
   rw[hQ] at hk
   cases hr1:y.1.req with
   | false=>
    rw[hr1] at hy2 hcal
    simp only[hr1,KD,Vq,Kw] at hk
    all_goals
     (repeat' first|simp (disch:=omega) only[go_sem,hy2,Ka]|(refine q0l _ _ hcal ?_)|(apply spl<;>intro h<;>try simp (disch:=omega) only[go_sem,h]))
     all_goals first | omega | skip
     exact ⟨i+1,by first | rfl | (rw[q0A]; rfl),⟨by omega,hk⟩,by omega⟩
   | true=>
    rw[hr1] at hy2 hcal
    cases hg:kGo y.1.key 0 p with
    | none=>
     rw[hg] at hcal
     simp only[Vy] at hcal
     simp only[hr1,hg,Option.isNone_none,Bool.and_self,V3,KD] at hk
     rw[←hk]
     (repeat' first|simp (disch:=omega) only[go_sem,hy2,Ka]|(refine q0l _ _ hcal ?_)|(apply spl<;>intro h<;>try simp (disch:=omega) only[go_sem,h]))
     all_goals first | omega | rfl
    | some r=>
     obtain ⟨j,z⟩:=r
     rw[hg] at hcal
     simp only[Vz] at hcal
     simp only[hr1,hg,Option.isNone_some,Vi,Vq,Kw] at hk
     (repeat' first|simp (disch:=omega) only[go_sem,hy2,Ka]|(refine q0l _ _ hcal ?_)|(apply spl<;>intro h<;>try simp (disch:=omega) only[go_sem,h]))
     all_goals first | omega | skip
     exact ⟨i+1,by first | rfl | (rw[q0A]; rfl),⟨by omega,hk⟩,by omega⟩
  ·rw[K1 (by omega),VO] at hk
   rw[←hk]
   (repeat' first|simp (disch:=omega) only[go_sem,Ka]|(apply spl<;>intro h<;>try simp (disch:=omega) only[go_sem,h]))
   all_goals first | omega | rfl
theorem qiy (w:Sch→Sch→Bool) (p q:List (PK × Sch)) (hp:p.length<2^24) (hq:q.length<2^24) (hf : ∀ x,x∈p→∀ y,y∈q→q0e CI 982 [q03 x.2,q03 y.2] (.bool (w x.2 y.2))):q0e CI 996 [q03 (q3T p),q03 (q3T q)] (.bool (q7A w (q3T p) (q3T q))):=by
 rw[show q7A w (q3T p) (q3T q)=(p.all (isP w q) && q.all (isQ p)) from rfl]
 obtain ⟨R,hR⟩ : ∃ R,(p.all (isP w q) && q.all (isQ p))=R:=⟨_,rfl⟩
 rw[hR]
 rw[q0A,q0A]
 refine q04 q8U rfl ?_
 (repeat' first|simp (disch:=omega) only[go_sem,q8U,enter,Ka]|(apply spl<;>intro h<;>try simp (disch:=omega) only[go_sem,h]))
 all_goals first | omega | skip
 refine q06 (α:=Nat) (fun i=>{ tmps:=q0h 176 [(2,.ptr 15 0 0 0),(3,.ptr 15 1 0 0),(7,.int .i64 i)],heap:=[.row 15 [q03 (q3T p)] false true 0,.row 15 [q03 (q3T q)] false true 1],base:=0 }) (fun i=>i≤p.length∧((p.drop i).all (isP w q) && q.all (isQ p))=R) (fun i=>p.length-i) 0 (by rw[q0A,q0A]; rfl) ⟨Km _,by rw[Vh]; exact hR⟩ ?_
 rintro i ⟨hi,hk⟩
 rw[q0A,q0A]
 by_cases hlt:i<p.length
 ·obtain ⟨x,hx⟩:=q05 hlt
  have hx2:=q09 (g:=q0g) hx
  rw[q69 hx] at hk
  rw[q0f x] at hx2
  have hcal:=qhQ q x.1.key (by omega)
  cases hg:kGo x.1.key 0 q with
  | none=>
   rw[hg] at hcal
   have hA:isP w q x=false:=by unfold isP; rw[hg]
   rw[hA,KD,KD] at hk
   rw[←hk]
   simp only[Vy] at hcal
   rw[q9r] at hcal
   (repeat' first|simp (disch:=omega) only[go_sem,hx2,Ka]|refine q00 _ (hcal) ?_|(apply spl<;>intro h<;>try simp (disch:=omega) only[go_sem,h]))
   all_goals first | omega | rfl
  | some r=>
   obtain ⟨j,z⟩:=r
   have hz:=qnb (l:=q) _ 0 j z (Kr _) (by rw[Vh]; exact hg)
   have hzq:=Kc hz
   have hz2:=q09 (g:=q0g) hz
   have hw:=hf x (Kc hx) z hzq
   rw[hg] at hcal
   simp only[Vz] at hcal
   have hA:isP w q x=(w x.2 z.2 && !(z.1.req && !x.1.req)):=by unfold isP; rw[hg]
   rw[hA] at hk
   rw[q01,q01 z.2] at hw
   rw[q0f z] at hz2 hcal
   have hj : ¬ (j:Int)<0:=by omega
   obtain ⟨b,hb⟩ : ∃ b,w x.2 z.2=b:=⟨_,rfl⟩
   rw[hb] at hw hk
   cases b with
   | false=>
    simp only[KD] at hk
    rw[←hk]
    cases hr1:z.1.req<;>cases hr2:x.1.req
    all_goals
     rw[hr1] at hz2 hcal
     rw[hr2] at hx2
     (repeat' first|simp (disch:=omega) only[go_sem,hx2,hz2,hj,Ka]|refine q00 _ (hcal) ?_|refine q00 _ (hw) ?_|(apply spl<;>intro h<;>try simp (disch:=omega) only[go_sem,h]))
     all_goals first | omega | rfl
   | true=>
    cases hr1:z.1.req with
    | false=>
     rw[hr1] at hz2 hcal
     simp only[hr1,KD,Vq,Kw] at hk
     (repeat' first|simp (disch:=omega) only[go_sem,hx2,hz2,hj,Ka]|refine q00 _ (hcal) ?_|refine q00 _ (hw) ?_|(apply spl<;>intro h<;>try simp (disch:=omega) only[go_sem,h]))
     all_goals first | omega | skip
     exact ⟨i+1,by first | rfl | (rw[q0A,q0A]; rfl),⟨by omega,hk⟩,by omega⟩
    | true=>
     rw[hr1] at hz2 hcal
     cases hr2:x.1.req with
     | false=>
      rw[hr2] at hx2
      simp only[hr1,hr2,Kw,Vq,V3,Vi,KD] at hk
      rw[←hk]
      (repeat' first|simp (disch:=omega) only[go_sem,hx2,hz2,hj,Ka]|refine q00 _ (hcal) ?_|refine q00 _ (hw) ?_|(apply spl<;>intro h<;>try simp (disch:=omega) only[go_sem,h]))
      all_goals first | omega | rfl
     | true=>
      rw[hr2] at hx2
      simp only[hr1,hr2,Kw,V3,Vi,Vq] at hk
      (repeat' first|simp (disch:=omega) only[go_sem,hx2,hz2,hj,Ka]|refine q00 _ (hcal) ?_|refine q00 _ (hw) ?_|(apply spl<;>intro h<;>try simp (disch:=omega) only[go_sem,h]))
      all_goals first | omega | skip
      exact ⟨i+1,by first | rfl | (rw[q0A,q0A]; rfl),⟨by omega,hk⟩,by omega⟩
 ·rw[K1 (by omega),VO,Kw] at hk
  (repeat' first|simp (disch:=omega) only[go_sem,Ka]|(apply spl<;>intro h<;>try simp (disch:=omega) only[go_sem,h]))
  all_goals first | omega | skip
  refine q06 (α:=Nat) (fun i=>{ tmps:=q0h 176 [(2,.ptr 15 0 0 0),(3,.ptr 15 1 0 0),(10,.int .i64 i)],heap:=[.row 15 [q03 (q3T p)] false true 0,.row 15 [q03 (q3T q)] false true 1],base:=0 }) (fun i=>i≤q.length∧(q.drop i).all (isQ p)=R) (fun i=>q.length-i) 0 (by rw[q0A,q0A]; rfl) ⟨Km _,by rw[Vh]; exact hk⟩ ?_
  rintro i ⟨hi,hk⟩
  rw[q0A,q0A]
  by_cases hlt2:i<q.length
  ·obtain ⟨y,hy⟩:=q05 hlt2
   have hy2:=q09 (g:=q0g) hy
   rw[q69 hy] at hk
   rw[q0f y] at hy2
   have hcal:=qhQ p y.1.key (by omega)
   have hQ:isQ p y = !(y.1.req && (kGo y.1.key 0 p).isNone):=rfl
   rw[hQ] at hk
   cases hr1:y.1.req with
   | false=>
    rw[hr1] at hy2
    simp only[hr1,KD,Vq,Kw] at hk
    obtain ⟨g,hg⟩ : ∃ g,(match kGo y.1.key 0 p with | none=>qmb | some (_,q)=>q)=g:=⟨_,rfl⟩
    rw[hg,q0f g] at hcal
    cases hs:(kGo y.1.key 0 p).isSome
    all_goals
     rw[hs] at hcal
     (repeat' first|simp (disch:=omega) only[go_sem,hy2,Ka]|refine q00 _ (hcal) ?_|(apply spl<;>intro h<;>try simp (disch:=omega) only[go_sem,h]))
     all_goals first | omega | skip
     exact ⟨i+1,by first | rfl | (rw[q0A,q0A]; rfl),⟨by omega,hk⟩,by omega⟩
   | true=>
    rw[hr1] at hy2
    cases hg:kGo y.1.key 0 p with
    | none=>
     rw[hg] at hcal
     simp only[Vy] at hcal
     rw[q9r] at hcal
     simp only[hr1,hg,Option.isNone_none,Bool.and_self,V3,KD] at hk
     rw[←hk]
     (repeat' first|simp (disch:=omega) only[go_sem,hy2,Ka]|refine q00 _ (hcal) ?_|(apply spl<;>intro h<;>try simp (disch:=omega) only[go_sem,h]))
     all_goals first | omega | rfl
    | some r=>
     obtain ⟨j,z⟩:=r
     rw[hg] at hcal
     simp only[Vz] at hcal
     rw[q0f z] at hcal
     simp only[hr1,hg,Option.isNone_some,Vi,Vq,Kw] at hk
     (repeat' first|simp (disch:=omega) only[go_sem,hy2,Ka]|refine q00 _ (hcal) ?_|(apply spl<;>intro h<;>try simp (disch:=omega) only[go_sem,h]))
     all_goals first | omega | skip
     exact ⟨i+1,by first | rfl | (rw[q0A,q0A]; rfl),⟨by omega,hk⟩,by omega⟩
  ·rw[K1 (by omega),VO] at hk
   rw[←hk]
   (repeat' first|simp (disch:=omega) only[go_sem,Ka]|(apply spl<;>intro h<;>try simp (disch:=omega) only[go_sem,h]))
   all_goals first | omega | rfl
theorem qiP (w:Sch→Sch→Bool) (a b:Sch) (ha:a.bulk≤2^24) (hb:b.bulk≤2^24) (hf : ∀ x,x∈a.a→∀ y,y∈b.a→q1d x=q1d y→q0e CI 994 [q03 x,q03 y] (.bool (q7A w x y))):q0e CI 981 [q03 a,q03 b] (.bool (a.a.all (inA w b))):=by
 have L:=Sch.lens ha
 have hal:=L.args
 obtain ⟨R,hR⟩ : ∃ R,a.a.all (inA w b)=R:=⟨_,rfl⟩
 rw[hR]
 refine q04 qo7 rfl ?_
 rw[q01 a,q01 b]
 (repeat' first|simp (disch:=omega) only[go_sem,qo7,enter,Ka]|(apply spl<;>intro h<;>try simp (disch:=omega) only[go_sem,h]))
 all_goals first | omega | skip
 refine q06 (α:=Nat) (fun i=>{ tmps:=q0h 32 [(3,.ptr 15 0 0 0),(10,.tsl 15 (a.a.map q03)),(11,.int .i64 a.a.length),(12,.int .i64 i)],heap:=[.row 15 [q03 b] false true 0],base:=0 }) (fun i=>i≤a.a.length∧(a.a.drop i).all (inA w b)=R) (fun i=>a.a.length-i) 0 (by rw[q01 b]; rfl) ⟨Km _,by rw[Vh]; exact hR⟩ ?_
 rintro i ⟨hi,hk⟩
 rw[q01 b]
 by_cases hlt:i<a.a.length
 ·obtain ⟨x,hx⟩:=q05 hlt
  have hx2:=q09 (g:=q03) hx
  have hkd:=q8k x
  have hfd:=qg7 b (q1d x) hb
  rw[q69 hx] at hk
  have hA:inA w b x=match kfM b (q1d x) with
   | none=>false
   | some y=>q7A w x y:=rfl
  rw[hA] at hk
  rw[q01 x] at hx2 hkd
  rw[q01 b] at hfd
  cases hg:kfM b (q1d x) with
  | none=>
   rw[hg] at hk hfd
   simp only[KD] at hk
   rw[←hk]
   rw[VU,q1e,Vy] at hfd
   (repeat' first|simp (disch:=omega) only[go_sem,hx2,Ka]|refine q00 _ (hkd) ?_|refine q00 _ (hfd) ?_|(apply spl<;>intro h<;>try simp (disch:=omega) only[go_sem,h]))
   all_goals first | omega | rfl
  | some y=>
   have hy:=q1t hg
   have hin:=hf x (Kc hx) y hy.1 hy.2.symm
   rw[hg] at hk hfd
   simp only at hk
   rw[K4,Vz,q01 y] at hfd
   obtain ⟨c,hc⟩ : ∃ c,q7A w x y=c:=⟨_,rfl⟩
   rw[hc] at hk hin
   rw[q01 x,q01 y] at hin
   cases c with
   | false=>
    rw[KD] at hk
    rw[←hk]
    (repeat' first|simp (disch:=omega) only[go_sem,hx2,Ka]|refine q00 _ (hkd) ?_|refine q00 _ (hfd) ?_|refine q00 _ (hin) ?_|(apply spl<;>intro h<;>try simp (disch:=omega) only[go_sem,h]))
    all_goals first | omega | rfl
   | true=>
    rw[Kw] at hk
    (repeat' first|simp (disch:=omega) only[go_sem,hx2,Ka]|refine q00 _ (hkd) ?_|refine q00 _ (hfd) ?_|refine q00 _ (hin) ?_|(apply spl<;>intro h<;>try simp (disch:=omega) only[go_sem,h]))
    all_goals first | omega | skip
    exact ⟨i+1,by first | rfl | (rw[q01 b]; rfl),⟨by omega,hk⟩,by omega⟩
 ·rw[K1 (by omega),VO] at hk
  rw[←hk]
  (repeat' first|simp (disch:=omega) only[go_sem,Ka]|(apply spl<;>intro h<;>try simp (disch:=omega) only[go_sem,h]))
  all_goals first | omega | rfl
theorem qd5 (w:Sch→Sch→Bool) (a b:Sch) (ha:a.bulk≤2^24) (hb:b.bulk≤2^24) (hf : ∀ x,x∈a.a→∀ y,y∈b.a→q1d x=q1d y→q0e CI 996 [q03 x,q03 y] (.bool (q7A w x y))):q0e CI 982 [q03 a,q03 b] (.bool (a.a.all (inA w b))):=by
 have L:=Sch.lens ha
 have hal:=L.args
 obtain ⟨R,hR⟩ : ∃ R,a.a.all (inA w b)=R:=⟨_,rfl⟩
 rw[hR]
 refine q04 qq1 rfl ?_
 rw[q01 a,q01 b]
 (repeat' first|simp (disch:=omega) only[go_sem,qq1,enter,Ka]|(apply spl<;>intro h<;>try simp (disch:=omega) only[go_sem,h]))
 all_goals first | omega | skip
 refine q06 (α:=Nat) (fun i=>{ tmps:=q0h 38 [(2,.ptr 15 0 0 0),(3,.ptr 15 1 0 0),(5,.int .i64 i)],heap:=[.row 15 [q03 a] false true 0,.row 15 [q03 b] false true 1],base:=0 }) (fun i=>i≤a.a.length∧(a.a.drop i).all (inA w b)=R) (fun i=>a.a.length-i) 0 (by rw[q01 a,q01 b]; rfl) ⟨Km _,by rw[Vh]; exact hR⟩ ?_
 rintro i ⟨hi,hk⟩
 rw[q01 a,q01 b]
 by_cases hlt:i<a.a.length
 ·obtain ⟨x,hx⟩:=q05 hlt
  have hx2:=q09 (g:=q03) hx
  have hkd:=q4k x
  have hfd:=q6C b (q1d x) hb
  rw[q69 hx] at hk
  have hA:inA w b x=match kfM b (q1d x) with
   | none=>false
   | some y=>q7A w x y:=rfl
  rw[hA] at hk
  rw[q01 x] at hx2 hkd
  rw[q01 b] at hfd
  cases hg:kfM b (q1d x) with
  | none=>
   rw[hg] at hk hfd
   simp only[KD] at hk
   rw[←hk]
   rw[VU,q1e,Vy] at hfd
   (repeat' first|simp (disch:=omega) only[go_sem,hx2,Ka]|refine q00 _ (hkd) ?_|refine q00 _ (hfd) ?_|(apply spl<;>intro h<;>try simp (disch:=omega) only[go_sem,h]))
   all_goals first | omega | rfl
  | some y=>
   have hy:=q1t hg
   have hin:=hf x (Kc hx) y hy.1 hy.2.symm
   rw[hg] at hk hfd
   simp only at hk
   rw[K4,Vz,q01 y] at hfd
   obtain ⟨c,hc⟩ : ∃ c,q7A w x y=c:=⟨_,rfl⟩
   rw[hc] at hk hin
   rw[q01 x,q01 y] at hin
   cases c with
   | false=>
    rw[KD] at hk
    rw[←hk]
    (repeat' first|simp (disch:=omega) only[go_sem,hx2,Ka]|refine q00 _ (hkd) ?_|refine q00 _ (hfd) ?_|refine q00 _ (hin) ?_|(apply spl<;>intro h<;>try simp (disch:=omega) only[go_sem,h]))
    all_goals first | omega | rfl
   | true=>
    rw[Kw] at hk
    (repeat' first|simp (disch:=omega) only[go_sem,hx2,Ka]|refine q00 _ (hkd) ?_|refine q00 _ (hfd) ?_|refine q00 _ (hin) ?_|(apply spl<;>intro h<;>try simp (disch:=omega) only[go_sem,h]))
    all_goals first | omega | skip
    exact ⟨i+1,by first | rfl | (rw[q01 a,q01 b]; rfl),⟨by omega,hk⟩,by omega⟩
 ·rw[K1 (by omega),VO] at hk
  rw[←hk]
  (repeat' first|simp (disch:=omega) only[go_sem,Ka]|(apply spl<;>intro h<;>try simp (disch:=omega) only[go_sem,h]))
  all_goals first | omega | rfl
def qqN (n:Nat):Prop:=∀ a b,FamN a→FamN b→a.bulk+b.bulk≤n→q0e CI 981 [q03 a,q03 b] (.bool (qmU n a b))∧q0e CI 982 [q03 a,q03 b] (.bool (qmU n a b))
theorem qvU {n:Nat} (hn:n≤2^24) (hW:qqN n) {x y:Sch} (h:Two x y) (hb:x.bulk+y.bulk≤n):q0e CI 994 [q03 x,q03 y] (.bool (q7A (qmU n) x y))∧q0e CI 996 [q03 x,q03 y] (.bool (q7A (qmU n) x y)):=by
 cases h with
 | kind m y=>exact ⟨qnM _ _ _,qgl _ _ _⟩
 | num p q h1 h2 h3 h4=>exact ⟨qrC _ _ _ h1 h2 h3 h4,qiC _ _ _ h1 h2 h3 h4⟩
 | text a b c d=>exact ⟨qoK _ _ _ _ _,qfR _ _ _ _ _⟩
 | list a b c d x y hx hy=>
  have h1:=q2T a b x
  have h2:=q2T c d y
  obtain ⟨j1,j2⟩:=hW x y hx hy (by omega)
  exact ⟨qpu _ _ _ _ _ _ _ j1,qge _ _ _ _ _ _ _ j2⟩
 | map p q hp hq=>
  have h1:=q3L p
  have h2:=q3L q
  have h3:=qhs p
  have h4:=qhs q
  have hj : ∀ x,x∈p→∀ y,y∈q→q0e CI 981 [q03 x.2,q03 y.2] (.bool (qmU n x.2 y.2))∧q0e CI 982 [q03 x.2,q03 y.2] (.bool (qmU n x.2 y.2)):=fun x hx y hy=>by
   have h5:=qbK hx
   have h6:=qbK hy
   exact hW _ _ (.inr (hp x hx)) (.inr (hq y hy)) (by omega)
  exact ⟨qrl _ _ _ (by omega) (by omega) fun x hx y hy=>(hj x hx y hy).1,qiy _ _ _ (by omega) (by omega) fun x hx y hy=>(hj x hx y hy).2⟩
theorem FamN.mems {x:Sch} (h:FamN x) : ∀ y,y∈x.a→MemF y:=by
 rcases h with rfl | ⟨l,rfl,hl⟩
 ·exact fun y hy=>absurd (show y∈([]:List Sch) from hy) (by simp)
 ·exact hl
theorem qlR : ∀ n,n≤2^24→qqN n
 | 0,_=>fun a b _ _ h=>by
  have:1≤a.bulk:=q1r _
  omega
 | n+1,hn=>fun a b ha hb h=>by
  have hW:=qlR n (by omega)
  have La:=Sch.lens (Kr a.bulk)
  have Lb:=Sch.lens (Kr b.bulk)
  rw[qn1]
  have hin:=fun x (hx:x∈a.a) y (hy:y∈b.a) (hk:q1d x=q1d y)=>qvU (by omega) hW (qfd (ha.mems x hx) (hb.mems y hy) hk) (by have:=La.kids x hx; have:=Lb.kids y hy; omega)
  exact ⟨qiP _ a b (by omega) (by omega) fun x hx y hy hk=>(hin x hx y hy hk).1,qd5 _ a b (by omega) (by omega) fun x hx y hy hk=>(hin x hx y hy hk).2⟩
def qio (a b:Sch):Bool × Int:=if qgi a=true∧qgi b=true then (qmU (2^23) a b,0) else (false,1)
theorem qbM (a b:Sch) (h:a.bulk+b.bulk<2^23):q0e CI 970 [q03 a,q03 b] (.tup [.bool (qio a b).1,.int .i64 (qio a b).2])∧q0e CI 971 [q03 a,q03 b] (.tup [.bool (qio a b).1,.int .i64 (qio a b).2]):=by
 obtain ⟨p1,p2⟩:=q2Y a (by omega)
 obtain ⟨q1,q2⟩:=q2Y b (by omega)
 unfold qio
 cases ha:qgi a with
 | false=>
  rw[if_neg (by simp)]
  rw[ha] at p1 p2
  rw[q01 a] at p1 p2 ⊢
  rw[q01 b] at q1 q2 ⊢
  refine ⟨q04 qev rfl ?_,q04 qeI rfl ?_⟩
  ·(repeat' first|simp (disch:=omega) only[go_sem,qev,enter]|refine q00 _ (p1) ?_|refine q00 _ (q1) ?_|(apply spl<;>intro h<;>try simp (disch:=omega) only[go_sem,h]))
   all_goals rfl
  ·(repeat' first|simp (disch:=omega) only[go_sem,qeI,enter]|refine q00 _ (p2) ?_|refine q00 _ (q2) ?_|(apply spl<;>intro h<;>try simp (disch:=omega) only[go_sem,h]))
   all_goals rfl
 | true=>
 cases hb:qgi b with
 | false=>
  rw[if_neg (by simp)]
  rw[ha] at p1 p2
  rw[hb] at q1 q2
  rw[q01 a] at p1 p2 ⊢
  rw[q01 b] at q1 q2 ⊢
  refine ⟨q04 qev rfl ?_,q04 qeI rfl ?_⟩
  ·(repeat' first|simp (disch:=omega) only[go_sem,qev,enter]|refine q00 _ (p1) ?_|refine q00 _ (q1) ?_|(apply spl<;>intro h<;>try simp (disch:=omega) only[go_sem,h]))
   all_goals rfl
  ·(repeat' first|simp (disch:=omega) only[go_sem,qeI,enter]|refine q00 _ (p2) ?_|refine q00 _ (q2) ?_|(apply spl<;>intro h<;>try simp (disch:=omega) only[go_sem,h]))
   all_goals rfl
 | true=>
  rw[if_pos ⟨rfl,rfl⟩]
  obtain ⟨w1,w2⟩:=qlR (2^23) (by decide) a b (.inr (q4s ha)) (.inr (q4s hb)) (by omega)
  rw[ha] at p1 p2
  rw[hb] at q1 q2
  generalize qmU (2^23) a b=r at *
  rw[q01 a] at p1 p2 w1 w2 ⊢
  rw[q01 b] at q1 q2 w1 w2 ⊢
  refine ⟨q04 qev rfl ?_,q04 qeI rfl ?_⟩
  ·(repeat' first|simp (disch:=omega) only[go_sem,qev,enter]|refine q00 _ (p1) ?_|refine q00 _ (q1) ?_|refine q00 _ (w1) ?_|(apply spl<;>intro h<;>try simp (disch:=omega) only[go_sem,h]))
   all_goals rfl
  ·(repeat' first|simp (disch:=omega) only[go_sem,qeI,enter]|refine q00 _ (p2) ?_|refine q00 _ (q2) ?_|refine q00 _ (w2) ?_|(apply spl<;>intro h<;>try simp (disch:=omega) only[go_sem,h]))
   all_goals rfl
end Ago
