/- Infer: within,as both sides tell it; the law InferFamilies. -/
import Derived.Test.YtjeahlpkonkjiaaGreatDoorORunQ
set_option linter.unusedSimpArgs false
set_option linter.unusedVariables false
set_option maxRecDepth 100000
set_option exponentiation.threshold 2000
set_option maxHeartbeats 4000000
namespace Ago
open Go (IntKind)
def kGo (k:List UInt8):Nat→List (PK × Sch)→Option (Nat × (PK × Sch))
 | _,[]=>none
 | i,p::l=>if p.1.key=k then some (i,p) else kGo k (i+1) l
theorem qb7 {k:List UInt8} {l:List (PK × Sch)} {i:Nat} {p:PK × Sch} (h:l[i]?=some p):kGo k i (l.drop i)=if p.1.key=k then some (i,p) else kGo k (i+1) (l.drop (i+1)):=by
 rw[q8S h,kGo]
theorem qp9 {k:List UInt8} {l:List (PK × Sch)} : ∀ (n j i:Nat) (q:PK × Sch),l.length-j≤n→kGo k j (l.drop j)=some (i,q)→l[i]?=some q
 | 0,j,i,q,hn,h=>by
  rw[Vn (by omega),kGo] at h
  cases h
 | n+1,j,i,q,hn,h=>by
  by_cases hlt:j<l.length
  ·obtain ⟨p,hp⟩:=q06 hlt
   rw[qb7 hp] at h
   split at h
   ·cases h
    exact hp
   ·exact qp9 n (j+1) i q (by omega) h
  ·rw[Vn (by omega),kGo] at h
   cases h
def isP (w:Sch→Sch→Bool) (l:List (PK × Sch)) (p:PK × Sch):Bool:=match kGo p.1.key 0 l with
 | none=>false
 | some (_,q)=>w p.2 q.2 && !(q.1.req && !p.1.req)
def isQ (l:List (PK × Sch)) (q:PK × Sch):Bool:=!(q.1.req && (kGo q.1.key 0 l).isNone)
def q6k (w:Sch→Sch→Bool) (x y:Sch):Bool:=
 if x.s.op=4 then decide (0≤q2V (qcb x).lo.num (qcb y).lo.num) && decide (q2V (qcb x).hi.num (qcb y).hi.num≤0) && (decide ((qcb y).sort=0) || decide ((qcb x).sort=1))
 else if x.s.op=5 then decide (y.s.min≤x.s.min) && decide (x.s.max≤y.s.max)
 else if x.s.op=9 then decide (y.s.min≤x.s.min) && decide (x.s.max≤y.s.max) && (decide (x.s.max=0) || w (qlj x) (qlj y))
 else if x.s.op=10 then x.p.all (isP w y.p) && y.p.all (isQ x.p)
 else true
def inA (w:Sch→Sch→Bool) (b x:Sch):Bool:=match kfM b (q0p x) with
 | none=>false
 | some y=>q6k w x y
def q6j:Nat→Sch→Sch→Bool
 | 0,_,_=>true
 | n+1,a,b=>a.a.all (inA (q6j n) b)
theorem qcv (n:Nat) (a b:Sch):q6j (n+1) a b=a.a.all (inA (q6j n) b):=(rfl)
theorem qbo {α:Type} {f:α→Bool} {l:List α} {i:Nat} {a:α} (h:l[i]?=some a):(l.drop i).all f=(f a && (l.drop (i+1)).all f):=by
 rw[q8S h,K7]
theorem qj3 (x y:Sch) (p:PK × Sch) (q:PK × Sch):q1u CI 1003 [q0i q,.ptr 17 2 0 0] [.row 15 [q03 x] false true 0,.row 15 [q03 y] false true 1,.row 17 [q0i p] false true 2] (.bool (q.1.key == p.1.key)) [.row 15 [q03 x] false true 0,.row 15 [q03 y] false true 1,.row 17 [q0i p] false true 2]:=by
 refine q1o qgy rfl ?_
 rw[q0o q,q0o p]
 (repeat' first|simp (disch:=omega) only[go_sem,qgy,enter]|(apply spl<;>intro h<;>try simp (disch:=omega) only[go_sem,h]))
 all_goals exact q2d (.inr rfl) (.bool (q.1.key == p.1.key)) rfl rfl rfl
theorem qm9 (x y:Sch) (p:PK × Sch) (l:List (PK × Sch)) (hl:l.length<2^30):q1u CI 1002 [.tsl 17 (l.map q0i),.fn 1003 [.ptr 17 2 0 0]] [.row 15 [q03 x] false true 0,.row 15 [q03 y] false true 1,.row 17 [q0i p] false true 2] (.int .i64 (match kGo p.1.key 0 l with
  | none=>-1
  | some (i,_)=>i)) [.row 15 [q03 x] false true 0,.row 15 [q03 y] false true 1,.row 17 [q0i p] false true 2]:=by
 refine q1o qak rfl ?_
 obtain ⟨R,hR⟩ : ∃ R,kGo p.1.key 0 l=R:=⟨_,rfl⟩
 rw[hR]
 (repeat' first|simp (disch:=omega) only[go_sem,qak,enter,Ka]|(apply spl<;>intro h<;>try simp (disch:=omega) only[go_sem,h]))
 all_goals first | omega | skip
 refine q07 (α:=Nat) (fun k=>{ tmps:=q0q 19 [(0,.tsl 17 (l.map q0i)),(1,.fn 1003 [.ptr 17 2 0 0]),(7,.int .i64 l.length),(8,.int .i64 k)],heap:=[.row 15 [q03 x] false true 0,.row 15 [q03 y] false true 1,.row 17 [q0i p] false true 2],base:=3 }) (fun k=>k≤l.length∧kGo p.1.key k (l.drop k)=R) (fun k=>l.length-k) 0 rfl ⟨Kp _,hR⟩ ?_
 rintro k ⟨hk,he⟩
 by_cases hlt:k<l.length
 ·obtain ⟨z,hz⟩:=q06 hlt
  have hz2:=q0c (g:=q0i) hz
  have hr:=qj3 x y p z
  rw[qb7 hz] at he
  rw[q0o z] at hz2 hr
  by_cases hc:z.1.key=p.1.key
  ·rw[if_pos hc] at he
   rw[show (z.1.key == p.1.key)=true by simpa using hc] at hr
   rw[←he]
   (repeat' first|simp (disch:=omega) only[go_sem,hz2,Ka]|(refine q0f _ _ hr ?_)|(apply spl<;>intro h<;>try simp (disch:=omega) only[go_sem,h]))
   all_goals exact q2d (.inr rfl) (.int .i64 k) rfl rfl rfl
  ·rw[if_neg hc] at he
   rw[show (z.1.key == p.1.key)=false by simpa using hc] at hr
   (repeat' first|simp (disch:=omega) only[go_sem,hz2,Ka]|(refine q0f _ _ hr ?_)|(apply spl<;>intro h<;>try simp (disch:=omega) only[go_sem,h]))
   all_goals first | omega | skip
   exact ⟨k+1,rfl,⟨by omega,he⟩,by omega⟩
 ·rw[Vn (by omega),kGo] at he
  rw[←he]
  (repeat' first|simp (disch:=omega) only[go_sem,Ka]|(apply spl<;>intro h<;>try simp (disch:=omega) only[go_sem,h]))
  all_goals exact q2d (.inr rfl) (.int .i64 (-1)) rfl rfl rfl
theorem qj1 (x:Sch) (p:PK × Sch) (q:PK × Sch):q1u CI 1005 [q0i q,.ptr 17 1 0 0] [.row 15 [q03 x] false true 0,.row 17 [q0i p] false true 1] (.bool (q.1.key == p.1.key)) [.row 15 [q03 x] false true 0,.row 17 [q0i p] false true 1]:=by
 refine q1o qfw rfl ?_
 rw[q0o q,q0o p]
 (repeat' first|simp (disch:=omega) only[go_sem,qfw,enter]|(apply spl<;>intro h<;>try simp (disch:=omega) only[go_sem,h]))
 all_goals exact q2d (.inr rfl) (.bool (q.1.key == p.1.key)) rfl rfl rfl
theorem qls (x:Sch) (p:PK × Sch) (l:List (PK × Sch)) (hl:l.length<2^30):q1u CI 1002 [.tsl 17 (l.map q0i),.fn 1005 [.ptr 17 1 0 0]] [.row 15 [q03 x] false true 0,.row 17 [q0i p] false true 1] (.int .i64 (match kGo p.1.key 0 l with
  | none=>-1
  | some (i,_)=>i)) [.row 15 [q03 x] false true 0,.row 17 [q0i p] false true 1]:=by
 refine q1o qak rfl ?_
 obtain ⟨R,hR⟩ : ∃ R,kGo p.1.key 0 l=R:=⟨_,rfl⟩
 rw[hR]
 (repeat' first|simp (disch:=omega) only[go_sem,qak,enter,Ka]|(apply spl<;>intro h<;>try simp (disch:=omega) only[go_sem,h]))
 all_goals first | omega | skip
 refine q07 (α:=Nat) (fun k=>{ tmps:=q0q 19 [(0,.tsl 17 (l.map q0i)),(1,.fn 1005 [.ptr 17 1 0 0]),(7,.int .i64 l.length),(8,.int .i64 k)],heap:=[.row 15 [q03 x] false true 0,.row 17 [q0i p] false true 1],base:=2 }) (fun k=>k≤l.length∧kGo p.1.key k (l.drop k)=R) (fun k=>l.length-k) 0 rfl ⟨Kp _,hR⟩ ?_
 rintro k ⟨hk,he⟩
 by_cases hlt:k<l.length
 ·obtain ⟨z,hz⟩:=q06 hlt
  have hz2:=q0c (g:=q0i) hz
  have hr:=qj1 x p z
  rw[qb7 hz] at he
  rw[q0o z] at hz2 hr
  by_cases hc:z.1.key=p.1.key
  ·rw[if_pos hc] at he
   rw[show (z.1.key == p.1.key)=true by simpa using hc] at hr
   rw[←he]
   (repeat' first|simp (disch:=omega) only[go_sem,hz2,Ka]|(refine q0f _ _ hr ?_)|(apply spl<;>intro h<;>try simp (disch:=omega) only[go_sem,h]))
   all_goals exact q2d (.inr rfl) (.int .i64 k) rfl rfl rfl
  ·rw[if_neg hc] at he
   rw[show (z.1.key == p.1.key)=false by simpa using hc] at hr
   (repeat' first|simp (disch:=omega) only[go_sem,hz2,Ka]|(refine q0f _ _ hr ?_)|(apply spl<;>intro h<;>try simp (disch:=omega) only[go_sem,h]))
   all_goals first | omega | skip
   exact ⟨k+1,rfl,⟨by omega,he⟩,by omega⟩
 ·rw[Vn (by omega),kGo] at he
  rw[←he]
  (repeat' first|simp (disch:=omega) only[go_sem,Ka]|(apply spl<;>intro h<;>try simp (disch:=omega) only[go_sem,h]))
  all_goals exact q2d (.inr rfl) (.int .i64 (-1)) rfl rfl rfl
theorem qmF (x:Sch) (p:PK × Sch) (l:List (PK × Sch)) (hl:l.length<2^30):q1u CI 1004 [.tsl 17 (l.map q0i),.fn 1005 [.ptr 17 1 0 0]] [.row 15 [q03 x] false true 0,.row 17 [q0i p] false true 1] (.bool (kGo p.1.key 0 l).isSome) [.row 15 [q03 x] false true 0,.row 17 [q0i p] false true 1]:=by
 have hr:=qls x p l hl
 refine q1o qcT rfl ?_
 cases hk:kGo p.1.key 0 l with
 | none=>
  rw[hk] at hr
  (repeat' first|simp (disch:=omega) only[go_sem,qcT,enter]|(refine q0f _ _ hr ?_)|(apply spl<;>intro h<;>try simp (disch:=omega) only[go_sem,h]))
  all_goals exact q2d (.inr rfl) (.bool false) rfl rfl rfl
 | some r=>
  rw[hk] at hr
  obtain ⟨i,q⟩:=r
  have hi:(0:Int)≤i:=by omega
  (repeat' first|simp (disch:=omega) only[go_sem,qcT,enter,hi]|(refine q0f _ _ hr ?_)|(apply spl<;>intro h<;>try simp (disch:=omega) only[go_sem,h]))
  all_goals exact q2d (.inr rfl) (.bool true) rfl rfl rfl
theorem qpM (w:Sch→Sch→Bool) (p q:Prt) (h1:q0a p.lo.num=true) (h2:q0a p.hi.num=true) (h3:q0a q.lo.num=true) (h4:q0a q.hi.num=true):q0k CI 994 [q03 (q4j p),q03 (q4j q)] (.bool (q6k w (q4j p) (q4j q))):=by
 rw[show q6k w (q4j p) (q4j q)=(decide (0≤q2V p.lo.num q.lo.num) && decide (q2V p.hi.num q.hi.num≤0) && (decide (q.sort=0) || decide (p.sort=1))) from rfl]
 have c1:=qll (q4J p.lo.num q.lo.num h1 h3)
 have c2:=qll (q4J p.hi.num q.hi.num h2 h4)
 generalize q2V p.lo.num q.lo.num=k1 at *
 generalize q2V p.hi.num q.hi.num=k2 at *
 rw[q4N,q4N]
 unfold q0h at c1 c2
 refine q04 q82 rfl ?_
 (repeat' first|simp (disch:=omega) only[go_sem,q82,enter,Km,Kx,q0m]|(apply spl<;>intro h<;>try simp (disch:=omega) only[go_sem,h]))
 refine q3t ?s1 ?g1 ?g2
 rotate_left
 case g1=>
  repeat' first | exact q3z | refine q2O ?_ ?_
  all_goals
   (repeat' first|simp (disch:=omega) only[go_sem,q3W,Kb,Kg]|(apply spl<;>intro h<;>try simp (disch:=omega) only[go_sem,h]))
   all_goals first | rfl | omega
 case g2=>
  by_cases e1:0≤k1<;>by_cases e2:k2≤0<;>by_cases e3:q.sort=0<;>by_cases e4:p.sort=1
  all_goals
   (repeat' first|simp (disch:=omega) only[go_sem,e1,e2,e3,e4]|refine q00 _ (c1) ?_|refine q00 _ (c2) ?_|(apply spl<;>intro h<;>try simp (disch:=omega) only[go_sem,h]))
   all_goals first | omega | rfl | simp [e1,e2,e3,e4]
theorem qmR (w:Sch→Sch→Bool) (a b c d:Int):q0k CI 994 [q03 (q24 a b),q03 (q24 c d)] (.bool (q6k w (q24 a b) (q24 c d))):=by
 rw[show q6k w (q24 a b) (q24 c d)=(decide (c≤a) && decide (b≤d)) from rfl,q4W,q4W]
 refine q04 q82 rfl ?_
 by_cases e1:c≤a<;>by_cases e2:b≤d
 all_goals
  (repeat' first|simp (disch:=omega) only[go_sem,q82,enter,e1,e2]|(apply spl<;>intro h<;>try simp (disch:=omega) only[go_sem,h]))
  all_goals first | omega | rfl | simp [e1,e2]
theorem qmf (w:Sch→Sch→Bool) (m:Int) (y:Sch):q0k CI 994 [q03 (q1W m),q03 y] (.bool (q6k w (q1W m) y)):=by
 rw[show q6k w (q1W m) y=true from rfl,q8j,q02 y]
 refine q04 q82 rfl ?_
 (repeat' first|simp (disch:=omega) only[go_sem,q82,enter]|(apply spl<;>intro h<;>try simp (disch:=omega) only[go_sem,h]))
 all_goals first | omega | rfl
theorem qmP (w:Sch→Sch→Bool) (a b c d:Int) (x y:Sch) (h:q0k CI 981 [q03 x,q03 y] (.bool (w x y))):q0k CI 994 [q03 (q1I a b x),q03 (q1I c d y)] (.bool (q6k w (q1I a b x) (q1I c d y))):=by
 rw[show q6k w (q1I a b x) (q1I c d y)=(decide (c≤a) && decide (b≤d) && (decide (b=0) || w x y)) from rfl,q4Q,q4Q]
 generalize w x y=r at *
 rw[q02 x,q02 y] at h ⊢
 refine q04 q82 rfl ?_
 by_cases e1:c≤a<;>by_cases e2:b≤d<;>by_cases e3:b=0
 all_goals
  (repeat' first|simp (disch:=omega) only[go_sem,q82,enter,e1,e2,e3,Kb,Kg]|refine q00 _ (h) ?_|(apply spl<;>intro h<;>try simp (disch:=omega) only[go_sem,h]))
  all_goals first | omega | rfl | simp [e1,e2,e3]
theorem qr6 (w:Sch→Sch→Bool) (p q:List (PK × Sch)) (hp:p.length<2^24) (hq:q.length<2^24) (hf : ∀ x,x∈p→∀ y,y∈q→q0k CI 981 [q03 x.2,q03 y.2] (.bool (w x.2 y.2))):q0k CI 994 [q03 (q3Z p),q03 (q3Z q)] (.bool (q6k w (q3Z p) (q3Z q))):=by
 rw[show q6k w (q3Z p) (q3Z q)=(p.all (isP w q) && q.all (isQ p)) from rfl]
 obtain ⟨R,hR⟩ : ∃ R,(p.all (isP w q) && q.all (isQ p))=R:=⟨_,rfl⟩
 rw[hR]
 rw[q1f,q1f]
 refine q04 q82 rfl ?_
 (repeat' first|simp (disch:=omega) only[go_sem,q82,enter,Ka]|(apply spl<;>intro h<;>try simp (disch:=omega) only[go_sem,h]))
 all_goals first | omega | skip
 refine q07 (α:=Nat) (fun i=>{ tmps:=q0q 156 [(2,.ptr 15 0 0 0),(3,.ptr 15 1 0 0),(101,.tsl 17 (p.map q0i)),(102,.int .i64 p.length),(103,.int .i64 i)],heap:=[.row 15 [q03 (q3Z p)] false true 0,.row 15 [q03 (q3Z q)] false true 1],base:=0 }) (fun i=>i≤p.length∧((p.drop i).all (isP w q) && q.all (isQ p))=R) (fun i=>p.length-i) 0 (by rw[q1f,q1f]; rfl) ⟨Kp _,by rw[VF]; exact hR⟩ ?_
 rintro i ⟨hi,hk⟩
 rw[q1f,q1f]
 by_cases hlt:i<p.length
 ·obtain ⟨x,hx⟩:=q06 hlt
  have hx2:=q0c (g:=q0i) hx
  rw[qbo hx] at hk
  rw[q0o x] at hx2
  have hcal:=qm9 (q3Z p) (q3Z q) x q (by omega)
  rw[q1f,q1f,q0o x] at hcal
  cases hg:kGo x.1.key 0 q with
  | none=>
   rw[hg] at hcal
   have hA:isP w q x=false:=by unfold isP; rw[hg]
   rw[hA,K2,K2] at hk
   rw[←hk]
   simp only at hcal
   (repeat' first|simp (disch:=omega) only[go_sem,hx2,Ka]|(refine q0f _ _ hcal ?_)|(apply spl<;>intro h<;>try simp (disch:=omega) only[go_sem,h]))
   all_goals first | omega | rfl
  | some r=>
   obtain ⟨j,z⟩:=r
   have hz:=qp9 (l:=q) _ 0 j z (Ko _) (by rw[VF]; exact hg)
   have hzq:=Kc hz
   have hz2:=q0c (g:=q0i) hz
   have hw:=hf x (Kc hx) z hzq
   rw[hg] at hcal
   simp only at hcal
   have hA:isP w q x=(w x.2 z.2 && !(z.1.req && !x.1.req)):=by unfold isP; rw[hg]
   rw[hA] at hk
   rw[q02,q02 z.2] at hw
   rw[q0o z] at hz2
   have hj : ¬ (j:Int)<0:=by omega
   obtain ⟨b,hb⟩ : ∃ b,w x.2 z.2=b:=⟨_,rfl⟩
   rw[hb] at hw hk
   cases b with
   | false=>
    simp only[K2] at hk
    rw[←hk]
    cases hr1:z.1.req<;>cases hr2:x.1.req
    all_goals
     rw[hr1] at hz2
     rw[hr2] at hx2 hcal
     (repeat' first|simp (disch:=omega) only[go_sem,hx2,hz2,hj,Ka]|(refine q0f _ _ hcal ?_)|refine q00 _ (hw) ?_|(apply spl<;>intro h<;>try simp (disch:=omega) only[go_sem,h]))
     all_goals first | omega | rfl
   | true=>
    cases hr1:z.1.req with
    | false=>
     rw[hr1] at hz2
     simp only[hr1,K2,VM,KH] at hk
     (repeat' first|simp (disch:=omega) only[go_sem,hx2,hz2,hj,Ka]|(refine q0f _ _ hcal ?_)|refine q00 _ (hw) ?_|(apply spl<;>intro h<;>try simp (disch:=omega) only[go_sem,h]))
     all_goals first | omega | skip
     exact ⟨i+1,by first | rfl | (rw[q1f,q1f]; rfl),⟨by omega,hk⟩,by omega⟩
    | true=>
     rw[hr1] at hz2
     cases hr2:x.1.req with
     | false=>
      rw[hr2] at hx2 hcal
      simp only[hr1,hr2,KH,VM,V4,Vq,K2] at hk
      rw[←hk]
      (repeat' first|simp (disch:=omega) only[go_sem,hx2,hz2,hj,Ka]|(refine q0f _ _ hcal ?_)|refine q00 _ (hw) ?_|(apply spl<;>intro h<;>try simp (disch:=omega) only[go_sem,h]))
      all_goals first | omega | rfl
     | true=>
      rw[hr2] at hx2 hcal
      simp only[hr1,hr2,KH,V4,Vq,VM] at hk
      (repeat' first|simp (disch:=omega) only[go_sem,hx2,hz2,hj,Ka]|(refine q0f _ _ hcal ?_)|refine q00 _ (hw) ?_|(apply spl<;>intro h<;>try simp (disch:=omega) only[go_sem,h]))
      all_goals first | omega | skip
      exact ⟨i+1,by first | rfl | (rw[q1f,q1f]; rfl),⟨by omega,hk⟩,by omega⟩
 ·rw[Vn (by omega),VV,KH] at hk
  (repeat' first|simp (disch:=omega) only[go_sem,Ka]|(apply spl<;>intro h<;>try simp (disch:=omega) only[go_sem,h]))
  all_goals first | omega | skip
  refine q07 (α:=Nat) (fun i=>{ tmps:=q0q 156 [(2,.ptr 15 0 0 0),(140,.tsl 17 (q.map q0i)),(141,.int .i64 q.length),(142,.int .i64 i)],heap:=[.row 15 [q03 (q3Z p)] false true 0],base:=0 }) (fun i=>i≤q.length∧(q.drop i).all (isQ p)=R) (fun i=>q.length-i) 0 (by rw[q1f]; rfl) ⟨Kp _,by rw[VF]; exact hk⟩ ?_
  rintro i ⟨hi,hk⟩
  rw[q1f]
  by_cases hlt2:i<q.length
  ·obtain ⟨y,hy⟩:=q06 hlt2
   have hy2:=q0c (g:=q0i) hy
   rw[qbo hy] at hk
   rw[q0o y] at hy2
   have hcal:=qmF (q3Z p) y p (by omega)
   rw[q1f,q0o y] at hcal
   have hQ:isQ p y = !(y.1.req && (kGo y.1.key 0 p).isNone):=rfl
   rw[hQ] at hk
   cases hr1:y.1.req with
   | false=>
    rw[hr1] at hy2 hcal
    simp only[hr1,K2,VM,KH] at hk
    all_goals
     (repeat' first|simp (disch:=omega) only[go_sem,hy2,Ka]|(refine q0f _ _ hcal ?_)|(apply spl<;>intro h<;>try simp (disch:=omega) only[go_sem,h]))
     all_goals first | omega | skip
     exact ⟨i+1,by first | rfl | (rw[q1f]; rfl),⟨by omega,hk⟩,by omega⟩
   | true=>
    rw[hr1] at hy2 hcal
    cases hg:kGo y.1.key 0 p with
    | none=>
     rw[hg] at hcal
     simp only[Option.isSome_none] at hcal
     simp only[hr1,hg,Option.isNone_none,Bool.and_self,V4,K2] at hk
     rw[←hk]
     (repeat' first|simp (disch:=omega) only[go_sem,hy2,Ka]|(refine q0f _ _ hcal ?_)|(apply spl<;>intro h<;>try simp (disch:=omega) only[go_sem,h]))
     all_goals first | omega | rfl
    | some r=>
     obtain ⟨j,z⟩:=r
     rw[hg] at hcal
     simp only[Option.isSome_some] at hcal
     simp only[hr1,hg,Option.isNone_some,Vq,VM,KH] at hk
     (repeat' first|simp (disch:=omega) only[go_sem,hy2,Ka]|(refine q0f _ _ hcal ?_)|(apply spl<;>intro h<;>try simp (disch:=omega) only[go_sem,h]))
     all_goals first | omega | skip
     exact ⟨i+1,by first | rfl | (rw[q1f]; rfl),⟨by omega,hk⟩,by omega⟩
  ·rw[Vn (by omega),VV] at hk
   rw[←hk]
   (repeat' first|simp (disch:=omega) only[go_sem,Ka]|(apply spl<;>intro h<;>try simp (disch:=omega) only[go_sem,h]))
   all_goals first | omega | rfl
theorem qhP (w:Sch→Sch→Bool) (a b:Sch) (ha:a.bulk≤2^24) (hb:b.bulk≤2^24) (hf : ∀ x,x∈a.a→∀ y,y∈b.a→q0p x=q0p y→q0k CI 994 [q03 x,q03 y] (.bool (q6k w x y))):q0k CI 981 [q03 a,q03 b] (.bool (a.a.all (inA w b))):=by
 have L:=Sch.lens ha
 have hal:=L.args
 obtain ⟨R,hR⟩ : ∃ R,a.a.all (inA w b)=R:=⟨_,rfl⟩
 rw[hR]
 refine q04 qm6 rfl ?_
 rw[q02 a,q02 b]
 (repeat' first|simp (disch:=omega) only[go_sem,qm6,enter,Ka]|(apply spl<;>intro h<;>try simp (disch:=omega) only[go_sem,h]))
 all_goals first | omega | skip
 refine q07 (α:=Nat) (fun i=>{ tmps:=q0q 32 [(3,.ptr 15 0 0 0),(10,.tsl 15 (a.a.map q03)),(11,.int .i64 a.a.length),(12,.int .i64 i)],heap:=[.row 15 [q03 b] false true 0],base:=0 }) (fun i=>i≤a.a.length∧(a.a.drop i).all (inA w b)=R) (fun i=>a.a.length-i) 0 (by rw[q02 b]; rfl) ⟨Kp _,by rw[VF]; exact hR⟩ ?_
 rintro i ⟨hi,hk⟩
 rw[q02 b]
 by_cases hlt:i<a.a.length
 ·obtain ⟨x,hx⟩:=q06 hlt
  have hx2:=q0c (g:=q03) hx
  have hkd:=q7H x
  have hfd:=qeu b (q0p x) hb
  rw[qbo hx] at hk
  have hA:inA w b x=match kfM b (q0p x) with
   | none=>false
   | some y=>q6k w x y:=rfl
  rw[hA] at hk
  rw[q02 x] at hx2 hkd
  rw[q02 b] at hfd
  cases hg:kfM b (q0p x) with
  | none=>
   rw[hg] at hk hfd
   simp only[K2] at hk
   rw[←hk]
   rw[Option.getD_none,q3g,Option.isSome_none] at hfd
   (repeat' first|simp (disch:=omega) only[go_sem,hx2,Ka]|refine q00 _ (hkd) ?_|refine q00 _ (hfd) ?_|(apply spl<;>intro h<;>try simp (disch:=omega) only[go_sem,h]))
   all_goals first | omega | rfl
  | some y=>
   have hy:=q1S hg
   have hin:=hf x (Kc hx) y hy.1 hy.2.symm
   rw[hg] at hk hfd
   simp only at hk
   rw[Vc,Option.isSome_some,q02 y] at hfd
   obtain ⟨c,hc⟩ : ∃ c,q6k w x y=c:=⟨_,rfl⟩
   rw[hc] at hk hin
   rw[q02 x,q02 y] at hin
   cases c with
   | false=>
    rw[K2] at hk
    rw[←hk]
    (repeat' first|simp (disch:=omega) only[go_sem,hx2,Ka]|refine q00 _ (hkd) ?_|refine q00 _ (hfd) ?_|refine q00 _ (hin) ?_|(apply spl<;>intro h<;>try simp (disch:=omega) only[go_sem,h]))
    all_goals first | omega | rfl
   | true=>
    rw[KH] at hk
    (repeat' first|simp (disch:=omega) only[go_sem,hx2,Ka]|refine q00 _ (hkd) ?_|refine q00 _ (hfd) ?_|refine q00 _ (hin) ?_|(apply spl<;>intro h<;>try simp (disch:=omega) only[go_sem,h]))
    all_goals first | omega | skip
    exact ⟨i+1,by first | rfl | (rw[q02 b]; rfl),⟨by omega,hk⟩,by omega⟩
 ·rw[Vn (by omega),VV] at hk
  rw[←hk]
  (repeat' first|simp (disch:=omega) only[go_sem,Ka]|(apply spl<;>intro h<;>try simp (disch:=omega) only[go_sem,h]))
  all_goals first | omega | rfl
def qoN (n:Nat):Prop:=∀ a b,FamN a→FamN b→a.bulk+b.bulk≤n→q0k CI 981 [q03 a,q03 b] (.bool (q6j n a b))∧True
theorem quY {n:Nat} (hn:n≤2^24) (hW:qoN n) {x y:Sch} (h:Two x y) (hb:x.bulk+y.bulk≤n):q0k CI 994 [q03 x,q03 y] (.bool (q6k (q6j n) x y))∧True:=by
 cases h with
 | kind m y=>exact ⟨qmf _ _ _,trivial⟩
 | num p q h1 h2 h3 h4=>exact ⟨qpM _ _ _ h1 h2 h3 h4,trivial⟩
 | text a b c d=>exact ⟨qmR _ _ _ _ _,trivial⟩
 | list a b c d x y hx hy=>
  have h1:=q26 a b x
  have h2:=q26 c d y
  obtain ⟨j1,j2⟩:=hW x y hx hy (by omega)
  exact ⟨qmP _ _ _ _ _ _ _ j1,trivial⟩
 | map p q hp hq=>
  have h1:=q2L p
  have h2:=q2L q
  have h3:=qfZ p
  have h4:=qfZ q
  have hj : ∀ x,x∈p→∀ y,y∈q→q0k CI 981 [q03 x.2,q03 y.2] (.bool (q6j n x.2 y.2))∧True:=fun x hx y hy=>by
   have h5:=qaj hx
   have h6:=qaj hy
   exact hW _ _ (.inr (hp x hx)) (.inr (hq y hy)) (by omega)
  exact ⟨qr6 _ _ _ (by omega) (by omega) fun x hx y hy=>(hj x hx y hy).1,trivial⟩
theorem FamN.mems {x:Sch} (h:FamN x) : ∀ y,y∈x.a→MemF y:=by
 rcases h with rfl | ⟨l,rfl,hl⟩
 ·exact fun y hy=>absurd (show y∈([]:List Sch) from hy) (by simp)
 ·exact hl
theorem qkk : ∀ n,n≤2^24→qoN n
 | 0,_=>fun a b _ _ h=>by
  have:1≤a.bulk:=q1B _
  omega
 | n+1,hn=>fun a b ha hb h=>by
  have hW:=qkk n (by omega)
  have La:=Sch.lens (Ko a.bulk)
  have Lb:=Sch.lens (Ko b.bulk)
  rw[qcv]
  have hin:=fun x (hx:x∈a.a) y (hy:y∈b.a) (hk:q0p x=q0p y)=>quY (by omega) hW (qfN (ha.mems x hx) (hb.mems y hy) hk) (by have:=La.kids x hx; have:=Lb.kids y hy; omega)
  exact ⟨qhP _ a b (by omega) (by omega) fun x hx y hy hk=>(hin x hx y hy hk).1,trivial⟩
def qkb (a b:Sch):Bool × Int:=if qli a=true∧qli b=true then (q6j (2^23) a b,0) else (false,1)
theorem qhw (a b:Sch) (h:a.bulk+b.bulk<2^23):q0k CI 970 [q03 a,q03 b] (.tup [.bool (qkb a b).1,.int .i64 (qkb a b).2])∧True:=by
 obtain ⟨p1,p2⟩:=qao a (by omega)
 obtain ⟨q1,q2⟩:=qao b (by omega)
 unfold qkb
 cases ha:qli a with
 | false=>
  rw[if_neg (by simp)]
  rw[ha] at p1
  rw[q02 a] at p1 ⊢
  rw[q02 b] at q1 ⊢
  refine ⟨q04 qcW rfl ?_,trivial⟩
  ·(repeat' first|simp (disch:=omega) only[go_sem,qcW,enter]|refine q00 _ (p1) ?_|refine q00 _ (q1) ?_|(apply spl<;>intro h<;>try simp (disch:=omega) only[go_sem,h]))
   all_goals rfl
 | true=>
 cases hb:qli b with
 | false=>
  rw[if_neg (by simp)]
  rw[ha] at p1
  rw[hb] at q1
  rw[q02 a] at p1 ⊢
  rw[q02 b] at q1 ⊢
  refine ⟨q04 qcW rfl ?_,trivial⟩
  ·(repeat' first|simp (disch:=omega) only[go_sem,qcW,enter]|refine q00 _ (p1) ?_|refine q00 _ (q1) ?_|(apply spl<;>intro h<;>try simp (disch:=omega) only[go_sem,h]))
   all_goals rfl
 | true=>
  rw[if_pos ⟨rfl,rfl⟩]
  obtain ⟨w1,w2⟩:=qkk (2^23) (by decide) a b (.inr (qfJ ha)) (.inr (qfJ hb)) (by omega)
  rw[ha] at p1
  rw[hb] at q1
  generalize q6j (2^23) a b=r at *
  rw[q02 a] at p1 w1 ⊢
  rw[q02 b] at q1 w1 ⊢
  refine ⟨q04 qcW rfl ?_,trivial⟩
  ·(repeat' first|simp (disch:=omega) only[go_sem,qcW,enter]|refine q00 _ (p1) ?_|refine q00 _ (q1) ?_|refine q00 _ (w1) ?_|(apply spl<;>intro h<;>try simp (disch:=omega) only[go_sem,h]))
   all_goals rfl
end Ago
