/- Infer: within is an order on what inference makes,and joins are least (plain). -/
import Derived.Test.YtjeahlpkonkjiaaGreatDoorORunR
import Derived.Test.YtjeahlpkonkjiaaGreatDoorORunO
set_option linter.unusedSimpArgs false
set_option linter.unusedVariables false
set_option maxRecDepth 100000
set_option exponentiation.threshold 2000
namespace Ago
open Go (IntKind)
theorem qeF {α κ:Type} [DecidableEq κ] (key:α→κ) (lt:κ→κ→Prop) (irr : ∀ a,¬ lt a a) (asy : ∀ a b,lt a b→¬ lt b a) : ∀ l m:List α,l.Pairwise (fun a b=>lt (key a) (key b))→m.Pairwise (fun a b=>lt (key a) (key b)) →
  (∀ k,l.find? (fun a=>decide (key a=k))=m.find? (fun a=>decide (key a=k)))→l=m
 | [],[],_,_,_=>rfl
 | [],b::m,_,_,h=>by
  have:=h (key b)
  rw[List.find?_nil,List.find?_cons_of_pos (by simp)] at this
  cases this
 | a::l,[],_,_,h=>by
  have:=h (key a)
  rw[List.find?_nil,List.find?_cons_of_pos (by simp)] at this
  cases this
 | a::l,b::m,hl,hm,h=>by
  have h1:=h (key a)
  have h2:=h (key b)
  rw[List.find?_cons_of_pos (by simp)] at h1
  rw[List.find?_cons_of_pos (l:=m) (by simp)] at h2
  have ma:=Vp h1.symm
  have mb:=Vp h2
  rw[Vl] at hl hm
  have hab:a=b:=by
   rcases Ks.1 ma with e | e
   ·exact e
   ·rcases Ks.1 mb with e2 | e2
    ·exact e2.symm
    ·exact absurd (hl.1 b e2) (asy _ _ (hm.1 a e))
  subst hab
  rw[qeF key lt irr asy l m hl.2 hm.2 fun k=>?_]
  have h3:=h k
  by_cases hk:key a=k
  ·have e1 : ∀ t:List α,(∀ b,b∈t→lt (key a) (key b))→t.find? (fun a=>decide (key a=k))=none:=fun t ht=>by
    rw[VR]
    intro x hx hc
    have:=ht x hx
    rw[of_decide_eq_true hc,←hk] at this
    exact irr _ this
   rw[e1 l hl.1,e1 m hm.1]
  ·rwa [List.find?_cons_of_neg (by simpa using hk),List.find?_cons_of_neg (by simpa using hk)] at h3
theorem qb9 {α κ:Type} [DecidableEq κ] (key:α→κ) (lt:κ→κ→Prop) (irr : ∀ a,¬ lt a a) : ∀ l:List α,l.Pairwise (fun a b=>lt (key a) (key b))→∀ x,x∈l→l.find? (fun a=>decide (key a=key x))=some x
 | a::l,hl,x,hx=>by
  rw[Vl] at hl
  rcases Ks.1 hx with e | e
  ·subst e
   rw[List.find?_cons_of_pos (by simp)]
  ·rw[List.find?_cons_of_neg,qb9 key lt irr l hl.2 x e]
   have:=hl.1 x e
   simp only[decide_eq_true_eq]
   intro h
   rw[h] at this
   exact irr _ this
structure CanP (p:Prt):Prop where
 ls:p.lo.set=true
 hs:p.hi.set=true
 ln:p.lo.opn=false
 hn:p.hi.opn=false
 dl:q0a p.lo.num=true
 dh:q0a p.hi.num=true
 le:q0n p.lo.num≤q0n p.hi.num
 so:(p.sort=1∧0≤p.lo.num.exp∧0≤p.hi.num.exp)∨(p.sort=0∧∃ y,q0a y=true∧q0n p.lo.num≤q0n y∧q0n y≤q0n p.hi.num∧¬ T 400 ∣ q0n y)
def ltK (a b:List UInt8):Prop:=Go.Op.bytesLess a b=true
theorem qer (a:List UInt8) : ¬ ltK a a:=by
 unfold ltK
 rw[qfd]
 exact Bool.false_ne_true
theorem qpo (a b:List UInt8) (h:ltK a b) : ¬ ltK b a:=by
 have:=qbm a b h
 unfold ltK
 rw[this]
 exact Bool.false_ne_true
abbrev PrS:=List (PK × Sch)
def qif (l:PrS):Prop:=l.Pairwise fun a b=>ltK a.1.key b.1.key
def LC (F:Sch→Prop) (b:Int) (e:Sch):Prop:=(b=0∧e=noneX)∨(0<b∧F e)
def MC (F:Sch→Prop) (p:PrS):Prop:=qif p∧∀ y,y∈p→F y.2
inductive CanK (F:Sch→Prop):Sch→Prop where
 | kind (m:Int):0≤q0p (q1W m)→CanK F (q1W m)
 | num (p:Prt):CanP p→CanK F (q4j p)
 | text (a b:Int):0≤b→CanK F (q24 a b)
 | list (a b:Int) (e:Sch):LC F b e→CanK F (q1I a b e)
 | map (p:PrS):MC F p→CanK F (q3Z p)
def CanF:Nat→Sch→Prop
 | 0,_=>False
 | n+1,x=>∃ l,x=q1c l∧l≠[]∧(l.Pairwise fun a b=>q0p a<q0p b)∧∀ y,y∈l→CanK (CanF n) y
def CanN (n:Nat) (x:Sch):Prop:=x=noneX∨CanF n x
inductive TwoC (F:Sch→Prop):Sch→Sch→Prop where
 | kind (m:Int):0≤q0p (q1W m)→TwoC F (q1W m) (q1W m)
 | num (p q:Prt):CanP p→CanP q→TwoC F (q4j p) (q4j q)
 | text (a b c d:Int):0≤b→0≤d→TwoC F (q24 a b) (q24 c d)
 | list (a b c d:Int) (e g:Sch):LC F b e→LC F d g→TwoC F (q1I a b e) (q1I c d g)
 | map (p q:PrS):MC F p→MC F q→TwoC F (q3Z p) (q3Z q)
theorem q95 (m:Int):q0p (q1W m)=if m=1 then 0 else if m=2 then 1 else if m=8 then 3 else if m=32 then 5 else -1:=rfl
theorem q1q (p:Prt):q0p (q4j p)=2:=rfl
theorem q13 (a b:Int):q0p (q24 a b)=4:=rfl
theorem q17 (a b:Int) (e:Sch):q0p (q1I a b e)=6:=rfl
theorem q1r (p:PrS):q0p (q3Z p)=7:=rfl
theorem q2Z (m k:Int) (h:q0p (q1W m)=k):k=0∨k=1∨k=3∨k=5∨k = -1:=by
 rw[q95] at h
 split at h
 ·omega
 ·split at h
  ·omega
  ·split at h
   ·omega
   ·split at h<;>omega
theorem qqL {m k:Int} (h:q0p (q1W m)=q0p (q1W k)) (h0:0≤q0p (q1W m)):m=k:=by
 rw[q95] at h h0
 rw[q95] at h
 repeat' split at h
 all_goals first | omega | skip
 all_goals (repeat' split at h0)<;>omega
theorem qeq {F:Sch→Prop} {x y:Sch} (hx:CanK F x) (hy:CanK F y) (h:q0p x=q0p y):TwoC F x y:=by
 cases hx with
 | kind m hm=>
  cases hy with
  | kind k hk=>
   obtain rfl:=qqL h hm
   exact .kind _ hm
  | num q hq=>exact absurd (q2Z m _ h) (by rw[q1q]; decide)
  | text c d hd=>exact absurd (q2Z m _ h) (by rw[q13]; decide)
  | list c d g hg=>exact absurd (q2Z m _ h) (by rw[q17]; decide)
  | map q hq=>exact absurd (q2Z m _ h) (by rw[q1r]; decide)
 | num p hp=>
  cases hy with
  | kind k hk=>exact absurd (q2Z k _ h.symm) (by rw[q1q]; decide)
  | num q hq=>exact .num p q hp hq
  | text c d hd=>exact absurd h (by rw[q1q,q13]; decide)
  | list c d g hg=>exact absurd h (by rw[q1q,q17]; decide)
  | map q hq=>exact absurd h (by rw[q1q,q1r]; decide)
 | text a b hb=>
  cases hy with
  | kind k hk=>exact absurd (q2Z k _ h.symm) (by rw[q13]; decide)
  | num q hq=>exact absurd h (by rw[q1q,q13]; decide)
  | text c d hd=>exact .text a b c d hb hd
  | list c d g hg=>exact absurd h (by rw[q13,q17]; decide)
  | map q hq=>exact absurd h (by rw[q13,q1r]; decide)
 | list a b e he=>
  cases hy with
  | kind k hk=>exact absurd (q2Z k _ h.symm) (by rw[q17]; decide)
  | num q hq=>exact absurd h (by rw[q1q,q17]; decide)
  | text c d hd=>exact absurd h (by rw[q17,q13]; decide)
  | list c d g hg=>exact .list a b c d e g he hg
  | map q hq=>exact absurd h (by rw[q17,q1r]; decide)
 | map p hp=>
  cases hy with
  | kind k hk=>exact absurd (q2Z k _ h.symm) (by rw[q1r]; decide)
  | num q hq=>exact absurd h (by rw[q1q,q1r]; decide)
  | text c d hd=>exact absurd h (by rw[q1r,q13]; decide)
  | list c d g hg=>exact absurd h (by rw[q17,q1r]; decide)
  | map q hq=>exact .map p q hp hq
theorem q7s {F:Sch→Prop} {x:Sch} (h:CanK F x):0≤q0p x∧q0p x<8:=by
 cases h with
 | kind m hm=>
  have:=q2Z m _ rfl
  omega
 | num p hp=>rw[q1q]; decide
 | text a b hb=>rw[q13]; decide
 | list a b e he=>rw[q17]; decide
 | map p hp=>rw[q1r]; decide
def lk (k:List UInt8) (l:PrS):Option (PK × Sch):=l.find? fun p=>decide (p.1.key=k)
theorem q3s (k:List UInt8) (p:PK × Sch) (l:PrS):lk k (p::l)=if p.1.key=k then some p else lk k l:=by
 unfold lk
 rw[List.find?_cons]
 by_cases h:p.1.key=k
 ·rw[if_pos h,decide_eq_true h]
 ·rw[if_neg h,decide_eq_false h]
theorem qi7 (k:List UInt8) : ∀ (i:Nat) (l:PrS),(kGo k i l).map (·.2)=lk k l
 | i,[]=>rfl
 | i,p::l=>by
  rw[kGo,q3s]
  split
  ·rfl
  ·exact qi7 k (i+1) l
theorem q2x {k:List UInt8} {l:PrS} {p:PK × Sch} (h:lk k l=some p):p∈l∧p.1.key=k:=⟨Vp h,by simpa using List.find?_some h⟩
theorem qjk {l:PrS} (hs:qif l) {p:PK × Sch} (h:p∈l):lk p.1.key l=some p:=qb9 (fun p:PK × Sch=>p.1.key) ltK qer l hs p h
theorem qiy {l:PrS} {k:List UInt8} (h : ∀ p,p∈l→ltK k p.1.key):lk k l=none:=by
 unfold lk
 rw[VR]
 intro p hp hc
 have:=h p hp
 rw[of_decide_eq_true hc] at this
 exact qer _ this
def atK (w:Sch→Sch→Bool):Option (PK × Sch)→Option (PK × Sch)→Prop
 | some x,some y=>w x.2 y.2=true∧(y.1.req=true→x.1.req=true)
 | some _,none=>False
 | none,some y=>y.1.req=false
 | none,none=>True
theorem qag {w:Sch→Sch→Bool} {p q:PrS} (hp:qif p) (hq:qif q):(p.all (isP w q) && q.all (isQ p))=true↔∀ k,atK w (lk k p) (lk k q):=by
 rw[Kd,Ki,Ki]
 have eP : ∀ x:PK × Sch,isP w q x=match lk x.1.key q with
   | none=>false
   | some y=>w x.2 y.2 && !(y.1.req && !x.1.req):=fun x=>by
  rw[←qi7 _ 0]
  unfold isP
  cases kGo x.1.key 0 q with
  | none=>rfl
  | some r=>rfl
 have eQ : ∀ y:PK × Sch,isQ p y = !(y.1.req && (lk y.1.key p).isNone):=fun y=>by
  rw[←qi7 _ 0]
  unfold isQ
  rw[Option.isNone_map]
 constructor
 ·rintro ⟨h1,h2⟩ k
  cases ha:lk k p with
  | none=>
   cases hb:lk k q with
   | none=>trivial
   | some y=>
    obtain ⟨my,ky⟩:=q2x hb
    have:=h2 y my
    rw[eQ,ky,ha] at this
    show y.1.req=false
    revert this
    cases y.1.req<;>simp
  | some x=>
   obtain ⟨mx,kx⟩:=q2x ha
   have:=h1 x mx
   rw[eP,kx] at this
   cases hb:lk k q with
   | none=>
    rw[hb] at this
    cases this
   | some y=>
    rw[hb] at this
    have this2:(w x.2 y.2 && !(y.1.req && !x.1.req))=true:=this
    show w x.2 y.2=true∧(y.1.req=true→x.1.req=true)
    revert this2
    clear this
    cases w x.2 y.2<;>cases y.1.req<;>cases x.1.req<;>simp
 ·intro h
  refine ⟨fun x hx=>?_,fun y hy=>?_⟩
  ·have h1:=h x.1.key
   rw[qjk hp hx] at h1
   rw[eP]
   cases hb:lk x.1.key q with
   | none=>
    rw[hb] at h1
    cases h1
   | some y=>
    rw[hb] at h1
    have h2:w x.2 y.2=true∧(y.1.req=true→x.1.req=true):=h1
    revert h2
    simp only
    cases w x.2 y.2<;>cases y.1.req<;>cases x.1.req<;>simp
  ·have h1:=h y.1.key
   rw[qjk hq hy] at h1
   rw[eQ]
   cases ha:lk y.1.key p with
   | none=>
    rw[ha] at h1
    have h2:y.1.req=false:=h1
    rw[h2]
    rfl
   | some x=>
    simp
def qpw (f:Sch→Sch→Sch) (k:List UInt8):Option (PK × Sch)→Option (PK × Sch)→Option (PK × Sch)
 | some x,some y=>some (⟨k,x.1.req && y.1.req⟩,f x.2 y.2)
 | some x,none=>some (⟨k,false⟩,x.2)
 | none,some y=>some (⟨k,false⟩,y.2)
 | none,none=>none
theorem q6v {x:PK × Sch} {l:PrS} (h:qif (x::l)):(∀ y,y∈l→ltK x.1.key y.1.key)∧qif l:=Vl.1 h
theorem q6W {a b c:List UInt8} (h1:ltK a b) (h2:ltK b c):ltK a c:=q8g a b c h1 h2
theorem q1n (f:Sch→Sch→Sch) : ∀ (n:Nat) (p q:PrS),p.length+q.length≤n→∀ z,z∈q0I f p q→(∃ x,x∈p∧x.1.key=z.1.key)∨∃ y,y∈q∧y.1.key=z.1.key
 | _,[],[],_,z,hz=>by
  rw[q0I] at hz
  cases hz
 | 0,x::a,q,h,z,hz=>by simp at h
 | 0,[],y::b,h,z,hz=>by simp at h
 | n+1,x::a,[],h,z,hz=>by
  rw[q0I] at hz
  rcases Ks.1 hz with e | e
  ·exact .inl ⟨x,Kj ..,by rw[e]⟩
  ·rcases q1n f n a [] (by simp only[Kb] at h ⊢; omega) z e with ⟨u,hu,k⟩ | ⟨u,hu,k⟩
   ·exact .inl ⟨u,Kl _ hu,k⟩
   ·cases hu
 | n+1,[],y::b,h,z,hz=>by
  rw[q0I] at hz
  rcases Ks.1 hz with e | e
  ·exact .inr ⟨y,Kj ..,by rw[e]⟩
  ·rcases q1n f n [] b (by simp only[Kb] at h ⊢; omega) z e with ⟨u,hu,k⟩ | ⟨u,hu,k⟩
   ·cases hu
   ·exact .inr ⟨u,Kl _ hu,k⟩
 | n+1,x::a,y::b,h,z,hz=>by
  simp only[Kb] at h
  rw[q0I] at hz
  split at hz
  ·rcases Ks.1 hz with e | e
   ·exact .inl ⟨x,Kj ..,by rw[e]⟩
   ·rcases q1n f n a (y::b) (by simp only[Kb]; omega) z e with ⟨u,hu,k⟩ | k
    ·exact .inl ⟨u,Kl _ hu,k⟩
    ·exact .inr k
  ·split at hz
   ·rcases Ks.1 hz with e | e
    ·exact .inr ⟨y,Kj ..,by rw[e]⟩
    ·rcases q1n f n (x::a) b (by simp only[Kb]; omega) z e with k | ⟨u,hu,k⟩
     ·exact .inl k
     ·exact .inr ⟨u,Kl _ hu,k⟩
   ·rcases Ks.1 hz with e | e
    ·exact .inl ⟨x,Kj ..,by rw[e]⟩
    ·rcases q1n f n a b (by omega) z e with ⟨u,hu,k⟩ | ⟨u,hu,k⟩
     ·exact .inl ⟨u,Kl _ hu,k⟩
     ·exact .inr ⟨u,Kl _ hu,k⟩
theorem q36 (f:Sch→Sch→Sch) : ∀ (n:Nat) (p q:PrS),p.length+q.length≤n→qif p→qif q→qif (q0I f p q)∧∀ k,lk k (q0I f p q)=qpw f k (lk k p) (lk k q)
 | _,[],[],_,_,_=>by
  rw[q0I]
  exact ⟨List.Pairwise.nil,fun k=>rfl⟩
 | 0,x::a,q,h,_,_=>by simp at h
 | 0,[],y::b,h,_,_=>by simp at h
 | n+1,x::a,[],h,hp,hq=>by
  simp only[Kb] at h
  obtain ⟨h1,h2⟩:=q6v hp
  obtain ⟨i1,i2⟩:=q36 f n a [] (by omega) h2 hq
  rw[q0I]
  refine ⟨Vl.2 ⟨fun z hz=>?_,i1⟩,fun k=>?_⟩
  ·rcases q1n f _ a [] (Ko _) z hz with ⟨u,hu,e⟩ | ⟨u,hu,e⟩
   ·rw[←e]
    exact h1 u hu
   ·cases hu
  ·rw[q3s,q3s,i2 k]
   split
   ·rename_i e
    show _=qpw f k (some x) (lk k [])
    rw[←e]
    rfl
   ·rfl
 | n+1,[],y::b,h,hp,hq=>by
  simp only[Kb] at h
  obtain ⟨h1,h2⟩:=q6v hq
  obtain ⟨i1,i2⟩:=q36 f n [] b (by omega) hp h2
  rw[q0I]
  refine ⟨Vl.2 ⟨fun z hz=>?_,i1⟩,fun k=>?_⟩
  ·rcases q1n f _ [] b (Ko _) z hz with ⟨u,hu,e⟩ | ⟨u,hu,e⟩
   ·cases hu
   ·rw[←e]
    exact h1 u hu
  ·rw[q3s,q3s,i2 k]
   split
   ·rename_i e
    show _=qpw f k (lk k []) (some y)
    rw[←e]
    rfl
   ·rfl
 | n+1,x::a,y::b,h,hp,hq=>by
  simp only[Kb] at h
  obtain ⟨h1,h2⟩:=q6v hp
  obtain ⟨g1,g2⟩:=q6v hq
  rw[q0I]
  split
  ·rename_i hlt
   obtain ⟨i1,i2⟩:=q36 f n a (y::b) (by simp only[Kb]; omega) h2 hq
   refine ⟨Vl.2 ⟨fun z hz=>?_,i1⟩,fun k=>?_⟩
   ·rcases q1n f _ a (y::b) (Ko _) z hz with ⟨u,hu,e⟩ | ⟨u,hu,e⟩
    ·rw[←e]
     exact h1 u hu
    ·rw[←e]
     rcases Ks.1 hu with e2 | e2
     ·rw[e2]
      exact hlt
     ·exact q6W hlt (g1 u e2)
   ·rw[q3s,i2 k,q3s k x a]
    split
    ·rename_i e
     have:lk k (y::b)=none:=qiy fun z hz=>by
      rw[←e]
      rcases Ks.1 hz with e2 | e2
      ·rw[e2]
       exact hlt
      ·exact q6W hlt (g1 z e2)
     rw[this,←e]
     rfl
    ·rfl
  ·rename_i hn1
   split
   ·rename_i hlt
    obtain ⟨i1,i2⟩:=q36 f n (x::a) b (by simp only[Kb]; omega) hp g2
    refine ⟨Vl.2 ⟨fun z hz=>?_,i1⟩,fun k=>?_⟩
    ·rcases q1n f _ (x::a) b (Ko _) z hz with ⟨u,hu,e⟩ | ⟨u,hu,e⟩
     ·rw[←e]
      rcases Ks.1 hu with e2 | e2
      ·rw[e2]
       exact hlt
      ·exact q6W hlt (h1 u e2)
     ·rw[←e]
      exact g1 u hu
    ·rw[q3s,i2 k,q3s k y b]
     split
     ·rename_i e
      have:lk k (x::a)=none:=qiy fun z hz=>by
       rw[←e]
       rcases Ks.1 hz with e2 | e2
       ·rw[e2]
        exact hlt
       ·exact q6W hlt (h1 z e2)
      rw[this,←e]
      rfl
     ·rfl
   ·rename_i hn2
    have hk:x.1.key=y.1.key:=qaN _ _ (by simpa using hn1) (by simpa using hn2)
    obtain ⟨i1,i2⟩:=q36 f n a b (by omega) h2 g2
    refine ⟨Vl.2 ⟨fun z hz=>?_,i1⟩,fun k=>?_⟩
    ·rcases q1n f _ a b (Ko _) z hz with ⟨u,hu,e⟩ | ⟨u,hu,e⟩
     ·rw[←e]
      exact h1 u hu
     ·rw[←e]
      show ltK x.1.key _
      rw[hk]
      exact g1 u hu
    ·rw[q3s,i2 k,q3s k x a,q3s k y b,←hk]
     split
     ·rename_i e
      rw[←e]
      rfl
     ·rfl
end Ago
set_option maxRecDepth 100000
set_option exponentiation.threshold 2000
namespace Ago
open Go (IntKind)
def qh1 (f:Sch→Sch→Sch):Option Sch→Option Sch→Option Sch
 | some x,some y=>some (q2W f x y)
 | some x,none=>some x
 | none,some y=>some y
 | none,none=>none
theorem qf9 (f:Sch→Sch→Sch) (a b:Option Sch):q4h f a b=(qh1 f a b).toList:=by cases a<;>cases b<;>rfl
theorem q9p (g:Nat→Option Sch) (hg : ∀ j y,g j=some y→q0p y=(j:Int)) (k:Nat) : ∀ n,((List.range n).flatMap fun j=>(g j).toList).find? (fun y=>decide (q0p y=(k:Int)))=if k<n then g k else none
 | 0=>by simp
 | n+1=>by
  have e:([n]:List Nat).flatMap (fun j=>(g j).toList)=(g n).toList:=by simp
  rw[List.range_succ,List.flatMap_append,List.find?_append,q9p g hg k n,e]
  have hn:k≠n→(g n).toList.find? (fun y=>decide (q0p y=(k:Int)))=none:=fun hk=>by
   cases h:g n with
   | none=>rfl
   | some z=>
    rw[VR]
    intro y hy
    rw[Option.mem_toList.1 hy] at h
    have:=hg n y h
    simp only[decide_eq_true_eq]
    omega
  by_cases h:k<n
  ·rw[if_pos h,if_pos (by omega),hn (by omega),Option.or_none]
  ·rw[if_neg h,Option.none_or]
   by_cases h2:k=n
   ·subst h2
    rw[if_pos (by omega)]
    cases hk:g k with
    | none=>rfl
    | some z=>
     have:=hg k z hk
     simp [this]
   ·rw[if_neg (by omega),hn h2]
theorem qbC (g:Nat→Option Sch) (hg : ∀ j y,g j=some y→q0p y=(j:Int)) : ∀ n,((List.range n).flatMap fun j=>(g j).toList).Pairwise (fun a b=>q0p a<q0p b)∧∀ y,y∈((List.range n).flatMap fun j=>(g j).toList)→∃ j,g j=some y∧j<n
 | 0=>⟨by simp,fun y hy=>by simp at hy⟩
 | n+1=>by
  obtain ⟨h1,h2⟩:=qbC g hg n
  have e:([n]:List Nat).flatMap (fun j=>(g j).toList)=(g n).toList:=by simp
  rw[List.range_succ,List.flatMap_append,e]
  refine ⟨List.pairwise_append.2 ⟨h1,?_,fun y hy z hz=>?_⟩,fun y hy=>?_⟩
  ·cases g n with
   | none=>exact List.Pairwise.nil
   | some z=>exact List.pairwise_singleton ..
  ·obtain ⟨j,hj,hl⟩:=h2 y hy
   have a1:=hg j y hj
   have a2:=hg n z (Option.mem_toList.1 hz)
   omega
  ·rcases K9.1 hy with h | h
   ·obtain ⟨j,hj,hl⟩:=h2 y h
    exact ⟨j,hj,by omega⟩
   ·exact ⟨n,Option.mem_toList.1 h,by omega⟩
def qwg (x:Sch):Prop:=x.a.Pairwise fun a b=>q0p a<q0p b
theorem ql0 {x y:Sch} {j:Int} (h:kfM x j=some y):y∈x.a∧q0p y=j:=⟨Vp h,by simpa using List.find?_some h⟩
theorem qqe {x y:Sch} (hs:qwg x) (h:y∈x.a):kfM x (q0p y)=some y:=qb9 q0p (fun a b=>a<b) (fun a=>by omega) x.a hs y h
theorem CanF.srt : ∀ {n:Nat} {x:Sch},CanF n x→qwg x
 | 0,_,h=>h.elim
 | n+1,_,⟨l,rfl,_,h,_⟩=>h
theorem CanN.srt {n:Nat} {x:Sch} (h:CanN n x):qwg x:=by
 rcases h with rfl | h
 ·exact List.Pairwise.nil
 ·exact h.srt
theorem CanF.mem {n:Nat} {x y:Sch} (h:CanF (n+1) x) (hy:y∈x.a):CanK (CanF n) y:=by
 obtain ⟨l,rfl,_,_,hm⟩:=h
 exact hm y hy
theorem CanN.mem {n:Nat} {x y:Sch} (h:CanN (n+1) x) (hy:y∈x.a):CanK (CanF n) y:=by
 rcases h with rfl | h
 ·cases hy
 ·exact h.mem hy
theorem CanN.kf {n:Nat} {x y:Sch} {j:Int} (h:CanN (n+1) x) (hy:kfM x j=some y):CanK (CanF n) y∧q0p y=j:=⟨h.mem (ql0 hy).1,(ql0 hy).2⟩
theorem CanN.kf_out {n:Nat} {x:Sch} {j:Int} (h:CanN (n+1) x) (hj : ¬ (0≤j∧j<8)):kfM x j=none:=by
 cases hk:kfM x j with
 | none=>rfl
 | some y=>
  obtain ⟨h1,h2⟩:=h.kf hk
  have:=q7s h1
  omega
theorem LC.can {n:Nat} {b:Int} {e:Sch} (h:LC (CanF n) b e):CanN n e:=by
 rcases h with ⟨_,h⟩ | ⟨_,h⟩
 ·exact .inl h
 ·exact .inr h
def FJ (n:Nat) (f:Sch→Sch→Sch):Prop:=f noneX noneX=noneX∧∀ a b,CanN n a→CanN n b→CanF n a∨CanF n b→CanF n (f a b)
theorem qab {a b:Dec} (ha:q0a a=true) (hb:q0a b=true):0≤q2V a b↔q0n b≤q0n a:=by
 obtain ⟨h1,_,_⟩:=q1R ha hb
 omega
theorem q7J {a b:Dec} (ha:q0a a=true) (hb:q0a b=true):q2V a b≤0↔q0n a≤q0n b:=by
 obtain ⟨h1,h2,_⟩:=q1R ha hb
 omega
theorem qfh {p q:Prt} (hp:CanP p) (hq:CanP q):(q2f p q).lo.set=true∧(q2f p q).lo.opn=false∧q0a (q2f p q).lo.num=true∧q0n (q2f p q).lo.num=min (q0n p.lo.num) (q0n q.lo.num)∧(0≤p.lo.num.exp→0≤q.lo.num.exp→0≤(q2f p q).lo.num.exp):=by
 obtain ⟨h1,_,_⟩:=q1R hq.dl hp.dl
 show (if _ then q.lo else p.lo).set=true∧(if _ then q.lo else p.lo).opn=false∧q0a (if _ then q.lo else p.lo).num=true∧q0n (if _ then q.lo else p.lo).num=_∧(_→_→0≤(if _ then q.lo else p.lo).num.exp)
 by_cases h:q2V q.lo.num p.lo.num<0
 ·rw[if_pos h]
  exact ⟨hq.ls,hq.ln,hq.dl,by omega,fun _ h=>h⟩
 ·rw[if_neg h]
  exact ⟨hp.ls,hp.ln,hp.dl,by omega,fun h _=>h⟩
theorem qft {p q:Prt} (hp:CanP p) (hq:CanP q):(q2f p q).hi.set=true∧(q2f p q).hi.opn=false∧q0a (q2f p q).hi.num=true∧q0n (q2f p q).hi.num=max (q0n p.hi.num) (q0n q.hi.num)∧(0≤p.hi.num.exp→0≤q.hi.num.exp→0≤(q2f p q).hi.num.exp):=by
 have h1:=q7J hq.dh hp.dh
 show (if _ then q.hi else p.hi).set=true∧(if _ then q.hi else p.hi).opn=false∧q0a (if _ then q.hi else p.hi).num=true∧q0n (if _ then q.hi else p.hi).num=_∧(_→_→0≤(if _ then q.hi else p.hi).num.exp)
 by_cases h:0<q2V q.hi.num p.hi.num
 ·rw[if_pos h]
  exact ⟨hq.hs,hq.hn,hq.dh,by omega,fun _ h=>h⟩
 ·rw[if_neg h]
  exact ⟨hp.hs,hp.hn,hp.dh,by omega,fun h _=>h⟩
theorem qfx (p q:Prt):(q2f p q).sort=if q.sort=0 then 0 else p.sort:=rfl
theorem qk8 {p q:Prt} (hp:CanP p) (hq:CanP q):CanP (q2f p q):=by
 obtain ⟨l1,l2,l3,l4,l5⟩:=qfh hp hq
 obtain ⟨k1,k2,k3,k4,k5⟩:=qft hp hq
 have a1:=hp.le
 have a2:=hq.le
 refine ⟨l1,k1,l2,k2,l3,k3,by omega,?_⟩
 rw[qfx]
 rcases hp.so with ⟨s1,s2,s3⟩ | ⟨s1,y,y1,y2,y3,y4⟩
 ·rcases hq.so with ⟨t1,t2,t3⟩ | ⟨t1,z,z1,z2,z3,z4⟩
  ·rw[if_neg (by omega)]
   exact .inl ⟨s1,l5 s2 t2,k5 s3 t3⟩
  ·rw[if_pos t1]
   exact .inr ⟨rfl,z,z1,by omega,by omega,z4⟩
 ·refine .inr ⟨by split<;>first | rfl | exact s1,y,y1,by omega,by omega,y4⟩
theorem qqt (f:Sch→Sch→Sch) (m:Int) (y:Sch):q2W f (q1W m) y=q1W m:=rfl
theorem qoH (f:Sch→Sch→Sch) (p q:Prt):q2W f (q4j p) (q4j q)=q4j (q2f p q):=rfl
theorem qjt (f:Sch→Sch→Sch) (a b c d:Int):q2W f (q24 a b) (q24 c d)=q24 (min a c) (max b d):=rfl
theorem qjx (f:Sch→Sch→Sch) (a b c d:Int) (e g:Sch):q2W f (q1I a b e) (q1I c d g)=q1I (min a c) (max b d) (f e g):=rfl
theorem qp3 (f:Sch→Sch→Sch) (p q:PrS):q2W f (q3Z p) (q3Z q)=q3Z (q0I f p q):=rfl
theorem LC.join {n:Nat} {f:Sch→Sch→Sch} (hf:FJ n f) {b d:Int} {e g:Sch} (he:LC (CanF n) b e) (hg:LC (CanF n) d g):LC (CanF n) (max b d) (f e g):=by
 have c1:=he.can
 have c2:=hg.can
 rcases he with ⟨h1,h2⟩ | ⟨h1,h2⟩
 ·rcases hg with ⟨k1,k2⟩ | ⟨k1,k2⟩
  ·rw[h2,k2,hf.1]
   exact .inl ⟨by omega,rfl⟩
  ·exact .inr ⟨by omega,hf.2 _ _ c1 c2 (.inr k2)⟩
 ·refine .inr ⟨?_,hf.2 _ _ c1 c2 (.inl h2)⟩
  omega
theorem MC.join {n:Nat} {f:Sch→Sch→Sch} (hf:FJ n f) {p q:PrS} (hp:MC (CanF n) p) (hq:MC (CanF n) q):MC (CanF n) (q0I f p q):=by
 obtain ⟨h1,h2⟩:=q36 f _ p q (Ko _) hp.1 hq.1
 refine ⟨h1,fun z hz=>?_⟩
 have h3:=qjk h1 hz
 rw[h2] at h3
 cases ha:lk z.1.key p with
 | none=>
  rw[ha] at h3
  cases hb:lk z.1.key q with
  | none=>
   rw[hb] at h3
   cases h3
  | some y=>
   rw[hb] at h3
   have h4:=K8 h3
   rw[←h4]
   exact hq.2 y (q2x hb).1
 | some x=>
  rw[ha] at h3
  cases hb:lk z.1.key q with
  | none=>
   rw[hb] at h3
   have h4:=K8 h3
   rw[←h4]
   exact hp.2 x (q2x ha).1
  | some y=>
   rw[hb] at h3
   have h4:=K8 h3
   rw[←h4]
   exact hf.2 _ _ (.inr (hp.2 x (q2x ha).1)) (.inr (hq.2 y (q2x hb).1)) (.inl (hp.2 x (q2x ha).1))
theorem qm7 {n:Nat} {f:Sch→Sch→Sch} (hf:FJ n f) {x y:Sch} (h:TwoC (CanF n) x y):CanK (CanF n) (q2W f x y)∧q0p (q2W f x y)=q0p x:=by
 cases h with
 | kind m hm=>
  rw[qqt]
  exact ⟨.kind m hm,rfl⟩
 | num p q hp hq=>
  rw[qoH]
  exact ⟨.num _ (qk8 hp hq),rfl⟩
 | text a b c d hb hd=>
  rw[qjt]
  exact ⟨.text _ _ (by omega),rfl⟩
 | list a b c d e g he hg=>
  rw[qjx]
  exact ⟨.list _ _ _ (he.join hf hg),rfl⟩
 | map p q hp hq=>
  rw[qp3]
  exact ⟨.map _ (hp.join hf hq),rfl⟩
theorem q6B (w:Sch→Sch→Bool) (p q:Prt):q6k w (q4j p) (q4j q)=(decide (0≤q2V p.lo.num q.lo.num) && decide (q2V p.hi.num q.hi.num≤0) && (decide (q.sort=0) || decide (p.sort=1))):=rfl
theorem q5r (w:Sch→Sch→Bool) (a b c d:Int):q6k w (q24 a b) (q24 c d)=(decide (c≤a) && decide (b≤d)):=rfl
theorem q5f (w:Sch→Sch→Bool) (a b c d:Int) (e g:Sch):q6k w (q1I a b e) (q1I c d g)=(decide (c≤a) && decide (b≤d) && (decide (b=0) || w e g)):=rfl
theorem q5C (w:Sch→Sch→Bool) (p q:PrS):q6k w (q3Z p) (q3Z q)=(p.all (isP w q) && q.all (isQ p)):=rfl
theorem qv2 {F:Sch→Prop} {x:Sch} {p:Prt} (hp:CanP p) (hx:CanK F x) (h:q0p x=q0p (q4j p)) : ∃ q,x=q4j q∧CanP q:=by
 cases hx with
 | kind k hk=>exact absurd (q2Z k _ h) (by rw[q1q]; decide)
 | num q hq=>exact ⟨q,rfl,hq⟩
 | text c d hd=>exact absurd h (by rw[q1q,q13]; decide)
 | list c d g hg=>exact absurd h (by rw[q1q,q17]; decide)
 | map q hq=>exact absurd h (by rw[q1q,q1r]; decide)
theorem qqm {F:Sch→Prop} {x:Sch} {a b:Int} (hx:CanK F x) (h:q0p x=q0p (q24 a b)) : ∃ c d,x=q24 c d∧0≤d:=by
 cases hx with
 | kind k hk=>exact absurd (q2Z k _ h) (by rw[q13]; decide)
 | num q hq=>exact absurd h (by rw[q1q,q13]; decide)
 | text c d hd=>exact ⟨c,d,rfl,hd⟩
 | list c d g hg=>exact absurd h (by rw[q13,q17]; decide)
 | map q hq=>exact absurd h (by rw[q13,q1r]; decide)
theorem qq3 {F:Sch→Prop} {x:Sch} {a b:Int} {e:Sch} (hx:CanK F x) (h:q0p x=q0p (q1I a b e)) : ∃ c d g,x=q1I c d g∧LC F d g:=by
 cases hx with
 | kind k hk=>exact absurd (q2Z k _ h) (by rw[q17]; decide)
 | num q hq=>exact absurd h (by rw[q1q,q17]; decide)
 | text c d hd=>exact absurd h (by rw[q13,q17]; decide)
 | list c d g hg=>exact ⟨c,d,g,rfl,hg⟩
 | map q hq=>exact absurd h (by rw[q17,q1r]; decide)
theorem qsQ {F:Sch→Prop} {x:Sch} {p:PrS} (hx:CanK F x) (h:q0p x=q0p (q3Z p)) : ∃ q,x=q3Z q∧MC F q:=by
 cases hx with
 | kind k hk=>exact absurd (q2Z k _ h) (by rw[q1r]; decide)
 | num q hq=>exact absurd h (by rw[q1q,q1r]; decide)
 | text c d hd=>exact absurd h (by rw[q13,q1r]; decide)
 | list c d g hg=>exact absurd h (by rw[q17,q1r]; decide)
 | map q hq=>exact ⟨q,rfl,hq⟩
def WJ (n:Nat) (f:Sch→Sch→Sch) (w:Sch→Sch→Bool):Prop:=(∀ c,w noneX c=true)∧∀ a b c,CanN n a→CanN n b→CanN n c→w (f a b) c=(w a c && w b c)
theorem qml {n:Nat} {f:Sch→Sch→Sch} {w:Sch→Sch→Bool} (hf:FJ n f) (hw:WJ n f w) {x y z:Sch} (h:TwoC (CanF n) x y) (hz:CanK (CanF n) z) (hk:q0p z=q0p x):q6k w (q2W f x y) z=(q6k w x z && q6k w y z):=by
 cases h with
 | kind m hm=>rfl
 | num p q hp hq=>
  obtain ⟨r,rfl,hr⟩:=qv2 hp hz hk
  obtain ⟨l1,l2,l3,l4,l5⟩:=qfh hp hq
  obtain ⟨k1,k2,k3,k4,k5⟩:=qft hp hq
  rw[qoH,q6B,q6B,q6B,KW]
  simp only[Kd,KM,decide_eq_true_eq]
  rw[qab l3 hr.dl,q7J k3 hr.dh,qab hp.dl hr.dl,q7J hp.dh hr.dh,qab hq.dl hr.dl,q7J hq.dh hr.dh,l4,k4,qfx]
  have s1:p.sort=0∨p.sort=1:=by rcases hp.so with h | h<;>omega
  have s2:q.sort=0∨q.sort=1:=by rcases hq.so with h | h<;>omega
  split<;>omega
 | text a b c d hb hd=>
  obtain ⟨a2,b2,rfl,hr⟩:=qqm hz hk
  rw[qjt,q5r,q5r,q5r,KW]
  simp only[Kd,decide_eq_true_eq]
  omega
 | list a b c d e g he hg=>
  obtain ⟨a2,b2,h,rfl,hr⟩:=qq3 hz hk
  rw[qjx,q5f,q5f,q5f,KW,hw.2 e g h he.can hg.can hr.can]
  simp only[Kd,KM,decide_eq_true_eq]
  have hm:(max b d=0∨w e h=true∧w g h=true)↔(b=0∨w e h=true)∧(d=0∨w g h=true):=by
   rcases he with ⟨i1,i2⟩ | ⟨i1,i2⟩
   ·rcases hg with ⟨j1,j2⟩ | ⟨j1,j2⟩
    ·exact ⟨fun _=>⟨.inl i1,.inl j1⟩,fun _=>.inl (by omega)⟩
    ·rw[i2,hw.1]
     constructor
     ·rintro (h0 | h0)
      ·omega
      ·exact ⟨.inl i1,.inr h0.2⟩
     ·rintro ⟨_,h0 | h0⟩
      ·omega
      ·exact .inr ⟨rfl,h0⟩
   ·rcases hg with ⟨j1,j2⟩ | ⟨j1,j2⟩
    ·rw[j2,hw.1]
     constructor
     ·rintro (h0 | h0)
      ·omega
      ·exact ⟨.inr h0.1,.inl j1⟩
     ·rintro ⟨h0 | h0,_⟩
      ·omega
      ·exact .inr ⟨h0,rfl⟩
    ·constructor
     ·rintro (h0 | h0)
      ·omega
      ·exact ⟨.inr h0.1,.inr h0.2⟩
     ·rintro ⟨h0 | h0,h1 | h1⟩
      ·omega
      ·omega
      ·omega
      ·exact .inr ⟨h0,h1⟩
  rw[hm]
  constructor
  ·rintro ⟨⟨h1,h2⟩,h3,h4⟩
   exact ⟨⟨⟨by omega,by omega⟩,h3⟩,⟨by omega,by omega⟩,h4⟩
  ·rintro ⟨⟨⟨h1,h2⟩,h3⟩,⟨h4,h5⟩,h6⟩
   exact ⟨⟨by omega,by omega⟩,h3,h6⟩
 | map p q hp hq=>
  obtain ⟨r,rfl,hr⟩:=qsQ hz hk
  obtain ⟨h1,h2⟩:=q36 f _ p q (Ko _) hp.1 hq.1
  rw[qp3,q5C,q5C,q5C,KW,Kd (List.all p _ && _),qag h1 hr.1,qag hp.1 hr.1,qag hq.1 hr.1,←forall_and]
  refine forall_congr' fun k=>?_
  rw[h2 k]
  cases ha:lk k p with
  | none=>
   cases hb:lk k q with
   | none=>exact ⟨fun h=>⟨h,h⟩,fun h=>h.1⟩
   | some y=>
    cases hc:lk k r with
    | none=>exact ⟨fun h=>h.elim,fun h=>h.2.elim⟩
    | some z=>
     show (w y.2 z.2=true∧(z.1.req=true→false=true))↔(z.1.req=false∧(w y.2 z.2=true∧(z.1.req=true→y.1.req=true)))
     cases z.1.req<;>simp
  | some x=>
   cases hb:lk k q with
   | none=>
    cases hc:lk k r with
    | none=>exact ⟨fun h=>h.elim,fun h=>h.1.elim⟩
    | some z=>
     show (w x.2 z.2=true∧(z.1.req=true→false=true))↔((w x.2 z.2=true∧(z.1.req=true→x.1.req=true))∧z.1.req=false)
     cases z.1.req<;>simp
   | some y=>
    cases hc:lk k r with
    | none=>exact ⟨fun h=>h.elim,fun h=>h.1.elim⟩
    | some z=>
     show (w (f x.2 y.2) z.2=true∧(z.1.req=true→(x.1.req && y.1.req)=true))↔((w x.2 z.2=true∧(z.1.req=true→x.1.req=true))∧(w y.2 z.2=true∧(z.1.req=true→y.1.req=true)))
     rw[hw.2 x.2 y.2 z.2 (.inr (hp.2 x (q2x ha).1)) (.inr (hq.2 y (q2x hb).1)) (.inr (hr.2 z (q2x hc).1))]
     cases w x.2 z.2<;>cases w y.2 z.2<;>cases z.1.req<;>cases x.1.req<;>cases y.1.req<;>simp
theorem q6d {k:Nat} {a c:Sch} (ha:qwg a):q6j (k+1) a c=true↔∀ j y,kfM a j=some y→∃ z,kfM c j=some z∧q6k (q6j k) y z=true:=by
 rw[qcv,Ki]
 have e : ∀ y,inA (q6j k) c y=true↔∃ z,kfM c (q0p y)=some z∧q6k (q6j k) y z=true:=fun y=>by
  unfold inA
  cases h:kfM c (q0p y) with
  | none=>simp
  | some z=>simp
 constructor
 ·intro h j y hy
  obtain ⟨m1,m2⟩:=ql0 hy
  have:=(e y).1 (h y m1)
  rwa [m2] at this
 ·intro h y hy
  exact (e y).2 (h _ y (qqe ha hy))
theorem qpy {α:Type} {P Q R:α→Prop} (h : ∀ j,P j↔Q j∧R j):(∀ j,P j)↔(∀ j,Q j)∧∀ j,R j:=⟨fun g=>⟨fun j=>((h j).1 (g j)).1,fun j=>((h j).1 (g j)).2⟩,fun g j=>(h j).2 ⟨g.1 j,g.2 j⟩⟩
theorem q3y (k:Nat) (c:Sch):q6j k noneX c=true:=by
 cases k<;>rfl
theorem qcc (m:Nat) (b:Sch):q1C (m+1) noneX b=b:=rfl
theorem qdG (m:Nat) (l:List Sch):q1C (m+1) (q1c l) noneX=q1c l:=rfl
theorem qg1 (m:Nat) (l r:List Sch):q1C (m+1) (q1c l) (q1c r)=q1c ((List.range 8).flatMap fun (k:Nat)=>(qh1 (q1C m) (kfM (q1c l) (k:Int)) (kfM (q1c r) (k:Int))).toList):=by
 simp only[←qf9]
 rfl
theorem q8U {n m:Nat} {a b:Sch} (hf:FJ n (q1C m)) (ha:CanN (n+1) a) (hb:CanN (n+1) b) (j:Int) (y:Sch) (h:qh1 (q1C m) (kfM a j) (kfM b j)=some y):CanK (CanF n) y∧q0p y=j:=by
 cases h1:kfM a j with
 | none=>
  cases h2:kfM b j with
  | none=>
   rw[h1,h2] at h
   cases h
  | some v=>
   rw[h1,h2] at h
   cases h
   exact hb.kf h2
 | some u=>
  obtain ⟨u1,u2⟩:=ha.kf h1
  cases h2:kfM b j with
  | none=>
   rw[h1,h2] at h
   cases h
   exact ⟨u1,u2⟩
  | some v=>
   obtain ⟨v1,v2⟩:=hb.kf h2
   rw[h1,h2] at h
   cases h
   obtain ⟨k1,k2⟩:=qm7 hf (qeq u1 v1 (by rw[u2,v2]))
   exact ⟨k1,by rw[k2,u2]⟩
theorem qpP {n m:Nat} {l r:List Sch} (hf:FJ n (q1C m)) (ha:CanN (n+1) (q1c l)) (hb:CanN (n+1) (q1c r)) (j:Int):kfM (q1C (m+1) (q1c l) (q1c r)) j=qh1 (q1C m) (kfM (q1c l) j) (kfM (q1c r) j):=by
 have hg : ∀ (i:Nat) y,qh1 (q1C m) (kfM (q1c l) (i:Int)) (kfM (q1c r) (i:Int))=some y→q0p y=(i:Int):=fun i y h=>(q8U hf ha hb i y h).2
 rw[qg1]
 by_cases hj:0≤j∧j<8
 ·obtain ⟨i,rfl⟩ : ∃ i:Nat,j=(i:Int):=⟨j.toNat,by omega⟩
  have:=q9p _ hg i 8
  rw[if_pos (by omega)] at this
  exact this
 ·rw[ha.kf_out hj,hb.kf_out hj]
  show List.find? _ _=none
  rw[VR]
  intro y hy hc
  obtain ⟨i,h1,h2⟩:=(qbC _ hg 8).2 y hy
  have:=hg i y h1
  have:=of_decide_eq_true hc
  omega
theorem qgw : ∀ n m,n≤m→FJ n (q1C m)∧∀ k,WJ n (q1C m) (q6j k)
 | 0,m,_=>by
  have e:q1C m noneX noneX=noneX:=by cases m<;>rfl
  refine ⟨⟨e,fun a b _ _ h=>h.elim False.elim False.elim⟩,fun k=>⟨q3y k,fun a b c ha hb hc=>?_⟩⟩
  rcases ha with rfl | ha
  ·rcases hb with rfl | hb
   ·rw[e,q3y]
    rfl
   ·exact hb.elim
  ·exact ha.elim
 | n+1,0,h=>absurd h (by omega)
 | n+1,m+1,h=>by
  obtain ⟨hf,hw⟩:=qgw n m (by omega)
  have hany : ∀ {x:Sch},CanF (n+1) x→∃ l,x=q1c l:=fun ⟨l,h,_⟩=>⟨l,h⟩
  have hj : ∀ {a b},CanF (n+1) a→CanF (n+1) b→CanF (n+1) (q1C (m+1) a b):=fun {a b} ha hb=>by
   obtain ⟨l,rfl⟩:=hany ha
   obtain ⟨r,rfl⟩:=hany hb
   have hg : ∀ (i:Nat) y,qh1 (q1C m) (kfM (q1c l) (i:Int)) (kfM (q1c r) (i:Int))=some y→q0p y=(i:Int):=fun i y h=>(q8U hf (.inr ha) (.inr hb) i y h).2
   obtain ⟨h1,h2⟩:=qbC _ hg 8
   refine ⟨_,qg1 m l r,fun hnil=>?_,h1,fun y hy=>?_⟩
   ·have hsa:=ha.srt
    obtain ⟨l',e,hne,_,hm⟩:=ha
    have el:l=l':=congrArg Sch.a e
    obtain ⟨y,hy⟩:=List.exists_mem_of_ne_nil _ hne
    have hr:=q7s (hm y hy)
    have hk:=qqe hsa (show y∈(q1c l).a by rw[show (q1c l).a=l from rfl,el]; exact hy)
    obtain ⟨i,hi⟩ : ∃ i:Nat,q0p y=(i:Int):=⟨(q0p y).toNat,by omega⟩
    have hff:=q9p _ hg i 8
    rw[hnil,if_pos (by omega),←hi,hk] at hff
    cases hb:kfM (q1c r) (q0p y) with
    | none=>
     rw[hb] at hff
     cases hff
    | some z=>
     rw[hb] at hff
     cases hff
   ·obtain ⟨i,h3,_⟩:=h2 y hy
    exact (q8U hf (.inr ha) (.inr hb) i y h3).1
  refine ⟨⟨rfl,fun a b ha hb hab=>?_⟩,fun k=>⟨q3y k,fun a b c ha hb hc=>?_⟩⟩
  ·rcases ha with rfl | ha
   ·rw[qcc]
    rcases hab with h | h
    ·obtain ⟨l,h⟩:=hany h
     exact absurd (congrArg (fun x:Sch=>x.s.op) h) (show ¬ (2:Int)=12 by decide)
    ·exact h
   ·rcases hb with rfl | hb
    ·obtain ⟨l,rfl⟩:=hany ha
     rw[qdG]
     exact ha
    ·exact hj ha hb
  ·cases k with
   | zero=>rfl
   | succ k=>
   rcases ha with rfl | ha
   ·rw[qcc,q3y,KH]
   ·rcases hb with rfl | hb
    ·obtain ⟨l,rfl⟩:=hany ha
     rw[qdG,q3y,VG]
    ·have hs:=(hj ha hb).srt
     have sa:=ha.srt
     have sb:=hb.srt
     obtain ⟨l,rfl⟩:=hany ha
     obtain ⟨r,rfl⟩:=hany hb
     rw[KW,Kd,q6d hs,q6d sa,q6d sb]
     refine qpy fun j=>?_
     rw[qpP hf (.inr ha) (.inr hb)]
     cases h1:kfM (q1c l) j with
     | none=>
      cases h2:kfM (q1c r) j with
      | none=>exact ⟨fun _=>⟨fun y h=>(by cases h),fun y h=>(by cases h)⟩,fun _ y h=>(by cases h)⟩
      | some v=>exact ⟨fun h=>⟨fun y h=>(by cases h),h⟩,fun h=>h.2⟩
     | some u=>
      cases h2:kfM (q1c r) j with
      | none=>exact ⟨fun h=>⟨h,fun y h=>(by cases h)⟩,fun h=>h.1⟩
      | some v=>
       obtain ⟨u1,u2⟩:=(CanN.kf (.inr ha) h1)
       obtain ⟨v1,v2⟩:=(CanN.kf (.inr hb) h2)
       have key : ∀ z,kfM c j=some z→q6k (q6j k) (q2W (q1C m) u v) z=(q6k (q6j k) u z && q6k (q6j k) v z):=fun z hz=>qml hf (hw k) (qeq u1 v1 (by rw[u2,v2])) (hc.kf hz).1 (by rw[(hc.kf hz).2,u2])
       constructor
       ·intro h
        obtain ⟨z,z1,z2⟩:=h _ rfl
        rw[key z z1,Kd] at z2
        exact ⟨fun y hy=>by cases hy; exact ⟨z,z1,z2.1⟩,fun y hy=>by cases hy; exact ⟨z,z1,z2.2⟩⟩
       ·rintro ⟨g1,g2⟩ y hy
        cases hy
        obtain ⟨z,z1,z2⟩:=g1 u rfl
        obtain ⟨z',z1',z2'⟩:=g2 v rfl
        rw[z1] at z1'
        cases z1'
        exact ⟨z,z1,by rw[key z z1,z2,z2']; rfl⟩
end Ago
set_option maxRecDepth 100000
set_option exponentiation.threshold 2000
namespace Ago
open Go (IntKind)
theorem CanP.sort {p:Prt} (h:CanP p):p.sort=0∨p.sort=1:=by
 rcases h.so with h | h<;>omega
theorem qly {n:Nat} {w:Sch→Sch→Bool} (hw : ∀ a,CanN n a→w a a=true) {x:Sch} (hx:CanK (CanF n) x):q6k w x x=true:=by
 cases hx with
 | kind m hm=>rfl
 | num p hp=>
  have h1:=(qab hp.dl hp.dl).2 (VZ _)
  have h2:=(q7J hp.dh hp.dh).2 (VZ _)
  rw[q6B,decide_eq_true h1,decide_eq_true h2]
  rcases hp.sort with s | s<;>rw[s]<;>rfl
 | text a b hb=>
  rw[q5r]
  simp
 | list a b e he=>
  rw[q5f,hw e he.can]
  simp
 | map p hp=>
  rw[q5C]
  refine (qag hp.1 hp.1).2 fun k=>?_
  cases h:lk k p with
  | none=>trivial
  | some x=>exact ⟨hw x.2 (.inr (hp.2 x (q2x h).1)),fun h=>h⟩
theorem q8p : ∀ (n k:Nat) (a:Sch),CanN n a→q6j k a a=true
 | n,0,a,_=>rfl
 | 0,k+1,a,h=>by
  rcases h with rfl | h
  ·exact q3y _ _
  ·exact h.elim
 | n+1,k+1,a,h=>(q6d h.srt).2 fun j y hy=>⟨y,hy,qly (q8p n k) (h.kf hy).1⟩
theorem qmb {n:Nat} {w:Sch→Sch→Bool} (hw : ∀ a b,CanN n a→CanN n b→w a b=true→w b a=true→a=b) {x y:Sch} (h:TwoC (CanF n) x y) (h1:q6k w x y=true) (h2:q6k w y x=true):x=y:=by
 cases h with
 | kind m hm=>rfl
 | num p q hp hq=>
  rw[q6B] at h1 h2
  simp only[Kd,KM,decide_eq_true_eq] at h1 h2
  rw[qab hp.dl hq.dl,q7J hp.dh hq.dh] at h1
  rw[qab hq.dl hp.dl,q7J hq.dh hp.dh] at h2
  obtain ⟨_,a1,a2⟩:=q1R hp.dl hq.dl
  obtain ⟨_,b1,b2⟩:=q1R hp.dh hq.dh
  have e1:=a2 (a1.2 (by omega))
  have e2:=b2 (b1.2 (by omega))
  have e3:p.sort=q.sort:=by
   have:=hp.sort
   have:=hq.sort
   omega
  obtain ⟨⟨p1,p2,p3⟩,⟨p4,p5,p6⟩,p7⟩:=p
  obtain ⟨⟨q1,q2,q3⟩,⟨q4,q5,q6⟩,q7⟩:=q
  have f1:p1=true:=hp.ls
  have f2:p4=true:=hp.hs
  have f3:p3=false:=hp.ln
  have f4:p6=false:=hp.hn
  have g1:q1=true:=hq.ls
  have g2:q4=true:=hq.hs
  have g3:q3=false:=hq.ln
  have g4:q6=false:=hq.hn
  simp only at e1 e2 e3
  rw[e1,e2,e3,f1,f2,f3,f4,g1,g2,g3,g4]
 | text a b c d hb hd=>
  rw[q5r] at h1 h2
  simp only[Kd,decide_eq_true_eq] at h1 h2
  have e1:a=c:=by omega
  have e2:b=d:=by omega
  rw[e1,e2]
 | list a b c d e g he hg=>
  rw[q5f] at h1 h2
  simp only[Kd,KM,decide_eq_true_eq] at h1 h2
  obtain ⟨⟨i1,i2⟩,i3⟩:=h1
  obtain ⟨⟨j1,j2⟩,j3⟩:=h2
  have e1:a=c:=by omega
  have e2:b=d:=by omega
  have e3:e=g:=by
   have c1:=he.can
   have c2:=hg.can
   rcases he with ⟨k1,k2⟩ | ⟨k1,k2⟩
   ·rcases hg with ⟨l1,l2⟩ | ⟨l1,l2⟩
    ·rw[k2,l2]
    ·omega
   ·refine hw e g c1 c2 (i3.resolve_left (by omega)) (j3.resolve_left (by omega))
  rw[e1,e2,e3]
 | map p q hp hq=>
  rw[q5C,qag hp.1 hq.1] at h1
  rw[q5C,qag hq.1 hp.1] at h2
  rw[qeF (fun p:PK × Sch=>p.1.key) ltK qer qpo p q hp.1 hq.1 fun k=>?_]
  show lk k p=lk k q
  have a1:=h1 k
  have a2:=h2 k
  cases ha:lk k p with
  | none=>
   cases hb:lk k q with
   | none=>rfl
   | some y=>
    rw[ha,hb] at a2
    exact a2.elim
  | some x=>
   cases hb:lk k q with
   | none=>
    rw[ha,hb] at a1
    exact a1.elim
   | some y=>
    rw[ha,hb] at a1 a2
    have b1:w x.2 y.2=true∧(y.1.req=true→x.1.req=true):=a1
    have b2:w y.2 x.2=true∧(x.1.req=true→y.1.req=true):=a2
    have e1:=hw x.2 y.2 (.inr (hp.2 x (q2x ha).1)) (.inr (hq.2 y (q2x hb).1)) b1.1 b2.1
    have e2:x.1.req=y.1.req:=KW.2 ⟨b2.2,b1.2⟩
    have e3:x.1.key=y.1.key:=by rw[(q2x ha).2,(q2x hb).2]
    obtain ⟨⟨kx,rx⟩,sx⟩:=x
    obtain ⟨⟨ky,ry⟩,sy⟩:=y
    simp only at e1 e2 e3
    rw[e1,e2,e3]
theorem qgs : ∀ (n k:Nat) (a b:Sch),n≤k→CanN n a→CanN n b→q6j k a b=true→q6j k b a=true→a=b
 | 0,k,a,b,_,ha,hb,_,_=>by
  rcases ha with rfl | h
  ·rcases hb with rfl | h
   ·rfl
   ·exact h.elim
  ·exact h.elim
 | n+1,0,a,b,h,_,_,_,_=>absurd h (by omega)
 | n+1,k+1,a,b,h,ha,hb,h1,h2=>by
  have noF : ∀ {c:Sch},CanF (n+1) c→q6j (k+1) c noneX=true→False:=fun {c} hc hw=>by
   have hs:=hc.srt
   obtain ⟨l,rfl,hne,_,_⟩:=hc
   obtain ⟨y,hy⟩:=List.exists_mem_of_ne_nil _ hne
   obtain ⟨z,hz,_⟩:=(q6d hs).1 hw _ _ (qqe hs hy)
   cases hz
  have h1':=(q6d ha.srt).1 h1
  have h2':=(q6d hb.srt).1 h2
  have hs1:=ha.srt
  have hs2:=hb.srt
  have ca:=fun {y j}=>@CanN.kf n a y j ha
  have cb:=fun {y j}=>@CanN.kf n b y j hb
  rcases ha with rfl | ha
  ·rcases hb with rfl | hb
   ·rfl
   ·exact (noF hb h2).elim
  ·rcases hb with rfl | hb
   ·exact (noF ha h1).elim
   ·have hk : ∀ j,kfM a j=kfM b j:=fun j=>by
     cases e1:kfM a j with
     | none=>
      cases e2:kfM b j with
      | none=>rfl
      | some v=>
       obtain ⟨z,hz,_⟩:=h2' j v e2
       rw[e1] at hz
       cases hz
     | some u=>
      obtain ⟨v,hv,i1⟩:=h1' j u e1
      obtain ⟨u',hu,i2⟩:=h2' j v hv
      rw[e1] at hu
      cases hu
      rw[hv,qmb (fun a b ca cb=>qgs n k a b (by omega) ca cb) (qeq (ca e1).1 (cb hv).1 (by rw[(ca e1).2,(cb hv).2])) i1 i2]
    obtain ⟨l,rfl,_,_,_⟩:=ha
    obtain ⟨r,rfl,_,_,_⟩:=hb
    rw[qeF q0p (fun a b=>a<b) (fun a=>by omega) (fun a b h=>by omega) l r hs1 hs2 hk]
theorem q2p {n k:Nat} (hn:n≤jn) : ∀ (l:List Sch) (e c:Sch),CanN n e→(∀ y,y∈l→CanF n y)→CanN n c →
  CanN n (l.foldl jM e)∧(l≠[]→CanF n (l.foldl jM e))∧(q6j k (l.foldl jM e) c=true↔q6j k e c=true∧∀ y,y∈l→q6j k y c=true)
 | [],e,c,he,_,_=>⟨he,fun h=>absurd rfl h,⟨fun h=>⟨h,fun y hy=>(by cases hy)⟩,fun h=>h.1⟩⟩
 | x::l,e,c,he,hl,hc=>by
  obtain ⟨hf,hw⟩:=qgw n jn hn
  have hx:=hl x (Kj ..)
  have hj:CanF n (jM e x):=hf.2 e x he (.inr hx) (.inr hx)
  obtain ⟨h1,h2,h3⟩:=q2p (k:=k) hn l (jM e x) c (.inr hj) (fun y hy=>hl y (Kl _ hy)) hc
  have e2:q6j k (jM e x) c=(q6j k e c && q6j k x c):=(hw k).2 e x c he (.inr hx) hc
  refine ⟨h1,fun _=>?_,?_⟩
  ·show CanF n (l.foldl jM (jM e x))
   cases l with
   | nil=>exact hj
   | cons y l=>exact h2 (by simp)
  ·show q6j k (l.foldl jM (jM e x)) c=true↔_
   rw[h3,e2,Kd]
   constructor
   ·rintro ⟨⟨a,b⟩,d⟩
    refine ⟨a,fun y hy=>?_⟩
    rcases Ks.1 hy with rfl | hy
    ·exact b
    ·exact d y hy
   ·rintro ⟨a,b⟩
    exact ⟨⟨a,b x (Kj ..)⟩,fun y hy=>b y (Kl _ hy)⟩
theorem qlt {n:Nat} (hn:n≤jn) {l m:List Sch} (hl : ∀ y,y∈l→CanF n y) (h : ∀ y,y∈l↔y∈m):l.foldl jM noneX=m.foldl jM noneX:=by
 have hm : ∀ y,y∈m→CanF n y:=fun y hy=>hl y ((h y).2 hy)
 have c1:=(q2p (k:=n) hn l noneX noneX (.inl rfl) hl (.inl rfl)).1
 have c2:=(q2p (k:=n) hn m noneX noneX (.inl rfl) hm (.inl rfl)).1
 have f1:=(q2p (k:=n) hn l noneX _ (.inl rfl) hl c1).2.2.1 (q8p n n _ c1)
 have f2:=(q2p (k:=n) hn m noneX _ (.inl rfl) hm c2).2.2.1 (q8p n n _ c2)
 exact qgs n n _ _ (Ko _) c1 c2
  ((q2p hn l noneX _ (.inl rfl) hl c2).2.2.2 ⟨q3y _ _,fun y hy=>f2.2 y ((h y).1 hy)⟩)
  ((q2p hn m noneX _ (.inl rfl) hm c1).2.2.2 ⟨q3y _ _,fun y hy=>f1.2 y ((h y).2 hy)⟩)
theorem qn6 {n k:Nat} (hn:n≤jn) {l m:List Sch} (hm : ∀ y,y∈m→CanF n y) (h : ∀ y,y∈l→y∈m):q6j k (l.foldl jM noneX) (m.foldl jM noneX)=true:=by
 have c2:=(q2p (k:=k) hn m noneX noneX (.inl rfl) hm (.inl rfl)).1
 have f2:=(q2p (k:=k) hn m noneX _ (.inl rfl) hm c2).2.2.1 (q8p n k _ c2)
 exact (q2p hn l noneX _ (.inl rfl) (fun y hy=>hm y (h y hy)) c2).2.2.2 ⟨q3y _ _,fun y hy=>f2.2 y (h y hy)⟩
theorem qkw {d:Dec} (hd:q0a d=true):CanP (qfo d):=by
 refine ⟨rfl,rfl,rfl,rfl,hd,hd,VZ _,?_⟩
 show ((if 0≤d.exp then (1:Int) else 0)=1∧0≤d.exp∧0≤d.exp)∨((if 0≤d.exp then (1:Int) else 0)=0∧∃ y,q0a y=true∧q0n d≤q0n y∧q0n y≤q0n d∧¬ T 400 ∣ q0n y)
 by_cases h:0≤d.exp
 ·rw[if_pos h]
  exact .inl ⟨rfl,h,h⟩
 ·rw[if_neg h]
  exact .inr ⟨rfl,d,hd,VZ _,VZ _,fun hdv=>h ((q25 hd).2 hdv)⟩
theorem qok : ∀ (n k:Nat) (v:V),Gd k v→k≤n→n≤jn→CanF n (ofM n v)
 | 0,k,v,h,hk,_=>by
  cases h
  omega
 | n+1,0,v,h,hk,_=>by cases h
 | n+1,k+1,v,h,hk,hj=>by
  have ih:=fun x hx=>qok n k x (h.kids x hx) (by omega) (by omega)
  obtain ⟨hown,hdec,hut,hkey⟩:ownM v=true∧q0a v.s.num=true∧utf v.s.text=true∧q5N (v.f.map (·.1))=0:=by
   cases h with
   | mk h _=>
    obtain ⟨a,b,_,c,_,_,d⟩:=q85 h
    exact ⟨a,b,c,d⟩
  obtain ⟨hk0,hk7⟩:=qbO hown
  refine ⟨_,rfl,by simp,List.pairwise_singleton ..,fun y hy=>?_⟩
  rw[KR.1 hy]
  split
  ·exact .num _ (qkw hdec)
  ·split
   ·exact .text _ _ (by omega)
   ·split
    ·refine .list _ _ _ ?_
     have hl : ∀ y,y∈v.l.map (ofM n)→CanF n y:=fun y hy=>by
      obtain ⟨x,hx,rfl⟩:=KQ.1 hy
      exact ih x (by unfold V.kids; rw[if_neg (by omega)]; exact hx)
     cases hv:v.l with
     | nil=>exact .inl ⟨rfl,rfl⟩
     | cons x l=>
      rw[hv] at hl
      refine .inr ⟨?_,(q2p (k:=0) (by omega) _ noneX noneX (.inl rfl) hl (.inl rfl)).2.1 (by simp)⟩
      rw[Kb]
      omega
    ·split
     ·rename_i h7
      refine .map _ ⟨?_,fun y hy=>?_⟩
      ·have hnd:(v.f.map (·.1)).Nodup:=(q5i _ [] hkey).1
       have h1:((qgr v.f).map (·.1)).Nodup:=((q3h v.f).map (·.1)).nodup_iff.2 hnd
       have h2:=List.pairwise_map.1 h1
       unfold qif
       rw[List.pairwise_map]
       refine ((qfH v.f).and h2).imp fun {a b} hab=>?_
       show Go.Op.bytesLess a.1 b.1=true
       obtain ⟨g1,g2⟩:=hab
       cases hc:Go.Op.bytesLess a.1 b.1 with
       | true=>rfl
       | false=>
        unfold leB at g1
        exact absurd (qaN _ _ hc (by simpa using g1)) g2
      ·obtain ⟨x,hx,rfl⟩:=KQ.1 hy
       exact ih x.2 (by unfold V.kids; rw[if_pos h7]; exact KQ.2 ⟨x,(q3h v.f).mem_iff.1 hx,rfl⟩)
     ·refine .kind _ ?_
      have:v.s.kind=0∨v.s.kind=1∨v.s.kind=3∨v.s.kind=5:=by omega
      rcases this with e | e | e | e<;>rw[e]<;>decide
theorem qcF {f:Sch→Bool} : ∀ (p:PrS) (o:Option (List UInt8)),qif p→(∀ x,x∈p→f x.2=true)→(∀ k x,o=some k→x∈p→ltK k x.1.key)→q7p f o p=true
 | [],o,_,_,_=>by
  cases o<;>rfl
 | x::p,o,hs,hf,ho=>by
  obtain ⟨h1,h2⟩:=q6v hs
  rw[q7t,hf x (Kj ..),qcF p (some x.1.key) h2 (fun y hy=>hf y (Kl _ hy)) (fun k y e hy=>by cases e; exact h1 y hy)]
  cases o with
  | none=>rfl
  | some k=>
   have:Go.Op.bytesLess k x.1.key=true:=ho k x rfl (Kj ..)
   show (Go.Op.bytesLess k x.1.key && true && true)=true
   rw[this]
   rfl
theorem qca {f:Sch→Bool} : ∀ (l:List Sch) (k:Int),l.Pairwise (fun a b=>q0p a<q0p b)→(∀ y,y∈l→k<q0p y)→(∀ y,y∈l→qbh f y=true)→q6C f k l=true
 | [],k,_,_,_=>rfl
 | x::l,k,hs,hk,hf=>by
  rw[Vl] at hs
  show (!decide (q0p x≤k) && qbh f x && q6C f (q0p x) l)=true
  have:=hk x (Kj ..)
  rw[hf x (Kj ..),qca l (q0p x) hs.2 hs.1 (fun y hy=>hf y (Kl _ hy)),decide_eq_false (by omega)]
  rfl
theorem qoD : ∀ {l:List Sch} {y:Sch},y∈l→y.bulk≤sb l
 | x::l,y,h=>by
  rw[q4d]
  rcases Ks.1 h with rfl | h
  ·omega
  ·have:=qoD h
   omega
theorem qi8 : ∀ {l:PrS} {y:PK × Sch},y∈l→y.2.bulk≤pb l
 | x::l,y,h=>by
  rw[q3d]
  rcases Ks.1 h with rfl | h
  ·omega
  ·have:=qi8 h
   omega
theorem qno {p:Prt} (h:CanP p):qp0 p=true:=by
 unfold qp0
 rw[h.ls,h.hs,h.ln,h.hn,decide_eq_true ((q7J h.dl h.dh).2 h.le)]
 rcases h.so with ⟨s,a,b⟩ | ⟨s,y,y1,y2,y3,y4⟩
 ·rw[if_pos s,decide_eq_true a,decide_eq_true b]
  rfl
 ·rw[if_neg (by omega),decide_eq_true s,←qfm h.dl h.dh h.le,(qdD h.dl h.dh).2 ⟨y,y1,y2,y3,y4⟩]
  rfl
theorem qej : ∀ (k n:Nat) (x:Sch),CanF n x→x.bulk≤k→qdW k x=true
 | 0,n,x,_,hb=>by
  have:1≤x.bulk:=q1B _
  omega
 | k+1,0,x,h,_=>h.elim
 | k+1,n+1,x,h,hb=>by
  obtain ⟨l,rfl,_,hs,hm⟩:=h
  rw[q5d] at hb
  rw[q9z]
  show (true && q6C (qdW k) (-1) l)=true
  rw[KH]
  refine qca l (-1) hs (fun y hy=>by have:=q7s (hm y hy); omega) fun y hy=>?_
  have hy2:=qoD hy
  cases hm y hy with
  | kind m h=>rfl
  | num p h=>exact qno h
  | text a b h=>exact decide_eq_true h
  | list a b e h=>
   rw[q26] at hy2
   show (if b=0 then decide (e.s.op=2) else decide (0<b) && qdW k e)=true
   rcases h with ⟨h1,h2⟩ | ⟨h1,h2⟩
   ·rw[if_pos h1,h2]
    rfl
   ·rw[if_neg (by omega),decide_eq_true h1,qej k n e h2 (by omega)]
    rfl
  | map p h=>
   rw[q2L] at hy2
   show (q7p (qdW k) none p && true)=true
   rw[VG]
   refine qcF p none h.1 (fun x hx=>?_) (fun k x e=>by cases e)
   have:=qi8 hx
   exact qej k n x.2 (h.2 x hx) (by omega)
theorem qe1 : ∀ {l:List V},ckM l=0↔∀ v,v∈l→q49 v=0
 | []=>⟨fun _ v hv=>(by cases hv),fun _=>rfl⟩
 | x::l=>by
  unfold ckM
  by_cases hx:q49 x=0
  ·rw[if_pos hx,qe1]
   constructor
   ·intro h v hv
    rcases Ks.1 hv with rfl | hv
    ·exact hx
    ·exact h v hv
   ·exact fun h v hv=>h v (Kl _ hv)
  ·rw[if_neg hx]
   exact ⟨fun h=>absurd h hx,fun h=>absurd (h x (Kj ..)) hx⟩
theorem q8v {l:List V} (h:(q0E l).2=0):l≠[]∧ckM l=0∧q78 (qdl l)=0∧(q0E l).1=qdl l:=by
 unfold q0E at h ⊢
 by_cases h1:l=[]
 ·rw[if_pos h1] at h
  exact absurd h (by decide)
 ·rw[if_neg h1] at h ⊢
  by_cases h2:ckM l=0
  ·rw[if_pos h2] at h ⊢
   have h3:q78 (qdl l)=0:=h
   exact ⟨h1,h2,h3,if_pos h3⟩
  ·rw[if_neg h2] at h
   exact absurd h h2
theorem j48:48≤jn:=by
 rw[qmq]
 omega
theorem qex {l:List V} (h:ckM l=0):(∀ y,y∈l.map (ofM 48)→CanF 48 y)∧(l≠[]→CanF 48 (qdl l)):=by
 have h1 : ∀ y,y∈l.map (ofM 48)→CanF 48 y:=fun y hy=>by
  obtain ⟨x,hx,rfl⟩:=KQ.1 hy
  exact qok 48 48 x (qdd h x hx) (Ko _) j48
 exact ⟨h1,fun hl=>(q2p (k:=0) j48 _ noneX noneX (.inl rfl) h1 (.inl rfl)).2.1 (by simpa using hl)⟩
theorem qjd (l:List V):((q0E l).2=0↔(q0E l.reverse).2=0)∧((q0E l).2=0→q0E l.reverse=q0E l):=by
 have hck:ckM l=0↔ckM l.reverse=0:=by
  rw[qe1,qe1]
  simp only[List.mem_reverse]
 by_cases h1:l=[]
 ·subst h1
  exact ⟨Iff.rfl,fun _=>rfl⟩
 ·have h1':l.reverse≠[]:=by simpa using h1
  by_cases h2:ckM l=0
  ·have e:qdl l.reverse=qdl l:=(qlt j48 (qex h2).1 fun y=>by simp).symm
   have e2:q0E l.reverse=q0E l:=by
    unfold q0E
    rw[if_neg h1,if_neg h1',if_pos h2,if_pos (hck.1 h2),e]
   rw[e2]
   exact ⟨Iff.rfl,fun _=>rfl⟩
  ·have a:(q0E l).2≠0:=by
    unfold q0E
    rw[if_neg h1,if_neg h2]
    exact h2
   have b:(q0E l.reverse).2≠0:=by
    unfold q0E
    rw[if_neg h1',if_neg (fun h=>h2 (hck.2 h))]
    exact fun h=>h2 (hck.2 h)
   exact ⟨⟨fun h=>absurd h a,fun h=>absurd h b⟩,fun h=>absurd h a⟩
theorem qdK {l:List V} (h:(q0E l).2=0):qli (q0E l).1=true:=by
 obtain ⟨h1,h2,h3,h4⟩:=q8v h
 rw[h4]
 unfold qli
 rw[decide_eq_true h3,qej _ 48 _ ((qex h2).2 h1) (Ko _)]
 rfl
theorem qhV {l m:List V} (hl:(q0E l).2=0) (hm:(q0E m).2=0) (h : ∀ v,v∈l→v∈m):qkb (q0E l).1 (q0E m).1=(true,0):=by
 unfold qkb
 rw[if_pos ⟨qdK hl,qdK hm⟩]
 obtain ⟨_,h2,_,h4⟩:=q8v hl
 obtain ⟨_,k2,_,k4⟩:=q8v hm
 rw[h4,k4]
 have:q6j (2^23) (qdl l) (qdl m)=true:=qn6 j48 (qex k2).1 fun y hy=>by
  obtain ⟨x,hx,rfl⟩:=KQ.1 hy
  exact KQ.2 ⟨x,h x hx,rfl⟩
 rw[this]
end Ago
set_option maxRecDepth 100000
set_option exponentiation.threshold 2000
set_option maxHeartbeats 4000000
namespace Ago
open Go (IntKind)
def qrg (l:List V) (v:V) (k:Int) (E:List AV):St:={ tmps:=q0q 107 [(0,.tsl 13 (l.map q0u)),(3,.ptr 13 0 0 0),(5,q5O 13 1 E),(6,.int .i64 k)],heap:=.row 13 [q0u v] false true 0::q5Q 13 1 E,base:=0 }
theorem qm4 {l:List V} {i:Nat} {y:V} (hi:i<l.length) (hy:l[l.length-1-i]?=some y):l.reverse.take (i+1)=l.reverse.take i++[y]:=by
 rw[KG,List.getElem?_reverse hi,hy]
 rfl
theorem qaO (l:List V) (h:(q0E l).2=0) (hl:AV.bulks (l.map q0u)<2^20):(q0E l).1.bulk<2^22:=by
 obtain ⟨h0,hc,_,e⟩:=q8v h
 rw[e]
 have hgd:=qdd hc
 have h1:=qiK (n:=48) (l:=l) fun x hx=>q79 48 48 x (hgd x hx).fit (Ko _)
 have h2:=qfs (l:=l.map (ofM 48)) (fun y hy=>by
  obtain ⟨x,hx,rfl⟩:=KQ.1 hy
  exact q6F 48 48 x (hgd x hx).fit (Ko _)) (by simpa using h0)
 show ((l.map (ofM 48)).foldl jM noneX).bulk<_
 omega
theorem quE (haw:q0k CI 963 [] (.bool true)) (l:List V) (v:V) (hl:AV.bulks (l.map q0u)+v.bulk<2^20):q0k CI 961 [.tsl 13 (l.map q0u),q0u v] (.bool true):=by
 have hlen:l.length<2^20:=by
  have:=q1s (l.map q0u)
  rw[Ka] at this
  omega
 have hvb : ∀ v,v∈l→v.bulk<2^20:=fun v hv=>by
  have:(q0u v).bulk≤_:=q1L (Va (f:=q0u) hv)
  have e:(q0u v).bulk=v.bulk:=rfl
  omega
 have hrev:AV.bulks (l.reverse.map q0u)=AV.bulks (l.map q0u):=q7y ((List.reverse_perm l).map q0u)
 have hmore:AV.bulks ((l.reverse++[v]).map q0u)=AV.bulks (l.map q0u)+v.bulk:=by
  rw[q7y (((List.perm_append_singleton v l.reverse)).map q0u),Km]
  show (q0u v).bulk+AV.bulks (l.reverse.map q0u)=_
  rw[hrev]
  have e:(q0u v).bulk=v.bulk:=rfl
  omega
 obtain ⟨b1,h1⟩:=qqW l (by omega) fun v hv=>by have:=hvb v hv; omega
 obtain ⟨b2,h2⟩:=qge v (by omega)
 have h2:=qn0 h2
 have hv2:=q08 v
 rw[hv2] at h2
 refine q04 qeK rfl ?_
 rw[hv2]
 cases b1 with
 | false=>
  (repeat' first|simp (disch:=omega) only[go_sem,qeK,enter,Ka]|refine q00 _ (h1) ?_|refine q00 _ (h2) ?_|refine q00 _ (haw) ?_)
  all_goals first | rfl | omega
 | true=>
 cases b2 with
 | false=>
  (repeat' first|simp (disch:=omega) only[go_sem,qeK,enter,Ka]|refine q00 _ (h1) ?_|refine q00 _ (h2) ?_|refine q00 _ (haw) ?_)
  all_goals first | rfl | omega
 | true=>
 by_cases hn:l=[]
 ·subst hn
  (repeat' first|simp (disch:=omega) only[go_sem,qeK,enter,Ka,Kx,Kg]|refine q00 _ (h1) ?_|refine q00 _ (h2) ?_|refine q00 _ (haw) ?_)
  all_goals first | rfl | omega
 ·have hpos:0<l.length:=Ve.2 hn
  (repeat' first|simp (disch:=omega) only[go_sem,qeK,enter,Ka]|refine q00 _ (h1) ?_|refine q00 _ (h2) ?_|refine q00 _ (haw) ?_|(apply spl<;>intro h<;>try simp (disch:=omega) only[go_sem,h]))
  all_goals first | omega | skip
  refine q07 (α:=Int × List AV) (fun a=>qrg l v a.1 a.2) (fun a=>-1≤a.1∧a.1<l.length∧a.2=(l.reverse.take (l.length-1-a.1).toNat).map q0u) (fun a=>(a.1+1).toNat) ((l.length:Int)-1,[]) (by unfold qrg; rw[hv2]; rfl) ⟨by simp only; omega,by simp only; omega,by simp only; rw[show ((l.length:Int)-1-((l.length:Int)-1)).toNat=0 by omega]; rfl⟩ ?_
  rintro ⟨k,E⟩ ⟨hk1,hk2,hE⟩
  simp only at hk1 hk2 hE
  by_cases hk:0≤k
  ·obtain ⟨i,rfl⟩ : ∃ i:Nat,k=(i:Int):=⟨k.toNat,by omega⟩
   obtain ⟨y,hy⟩:=q06 (show i<l.length by omega)
   have hy2:=q0c (g:=q0u) hy
   have hE2:E++[q0u y]=(l.reverse.take ((l.length:Int)-1-((i:Int)-1)).toNat).map q0u:=by
    rw[show ((l.length:Int)-1-((i:Int)-1)).toNat=((l.length:Int)-1-(i:Int)).toNat+1 by omega,qm4 (y:=y) (by omega) (by rw[show l.length-1-((l.length:Int)-1-(i:Int)).toNat=i by omega]; exact hy),VX,←hE]
    rfl
   rw[q08 y] at hy2 hE2
   have hEl:E.length≤2^20:=by
    rw[hE,Ka,Vi,List.length_reverse]
    omega
   cases E with
   | nil=>
    simp only[qrg,q5O,q5Q,KA,if_true]
    rw[hv2]
    (repeat' first|simp (disch:=omega) only[go_sem,hy2,Ka]|(apply spl<;>intro h<;>try simp (disch:=omega) only[go_sem,h]))
    all_goals first | omega | skip
    refine ⟨((i:Int)-1,[q0u y]),?_,⟨by simp only; omega,by simp only; omega,by rw[q08 y]; exact hE2⟩,by simp only; omega⟩
    simp only[qrg,q5O,q5Q,Ku,Ke,if_false,Kb,Kg,Vo]
    rw[q08 y]
    rfl
   | cons z zs=>
    have hEl:zs.length+1≤2^20:=hEl
    simp only[qrg,q5O,q5Q,Ku,Ke,if_false]
    rw[hv2]
    (repeat' first|simp (disch:=omega) only[go_sem,hy2,Ka]|(apply spl<;>intro h<;>try simp (disch:=omega) only[go_sem,h]))
    all_goals first | omega | skip
    refine ⟨((i:Int)-1,(z::zs)++[q0u y]),?_,⟨by simp only; omega,by simp only; omega,by rw[q08 y]; exact hE2⟩,by simp only; omega⟩
    simp only[qrg,q5O,q5Q,Kr,Ku,Ke,if_false,Kb,Kg,Kk,Vo]
    rw[q08 y]
    rfl
  ·have hE3:E=l.reverse.map q0u:=by
    rw[hE,show ((l.length:Int)-1-k).toNat=l.length by omega,KJ (by rw[List.length_reverse]; omega)]
   clear hE
   cases E with
   | nil=>
    have:=congrArg List.length hE3
    simp only[Kg,Ka,List.length_reverse] at this
    omega
   | cons z zs=>
   have hEl:zs.length+1≤2^20:=by
    have:=congrArg List.length hE3
    simp only[Kb,Ka,List.length_reverse] at this
    omega
   have hT : ∀ x:AV,(zs++[x]).take (zs.length+1)=zs++[x]:=fun x=>KJ (by simp)
   have r1:=q57 l (by omega)
   have r2:=q57 l.reverse (by omega)
   have r3:=q57 (l.reverse++[v]) (by omega)
   rw[VX,←hE3,Km,Kx,hv2] at r3
   rw[←hE3] at r2
   have hsame:=qgJ l (by omega)
   obtain ⟨e1,e2⟩:=qjd l
   simp only[qrg,q5O,q5Q,Ku,Ke,if_false]
   rw[hv2]
   by_cases hx:(q0E l).2=0
   ·rw[e2 hx] at r2
    have hbk:=qaO l hx (by omega)
    obtain ⟨b3,h3p⟩:=qnp (q0E l).1 (by omega)
    have h3:=qn0 h3p
    clear h3p
    have hin:=fun hz=>qhV (l:=l) (m:=l.reverse++[v]) hx hz fun w hw=>by simp [hw]
    have hzb:=fun hz=>qaO (l.reverse++[v]) hz (by omega)
    have hwr:=fun hz=>(qhw (q0E l).1 (q0E (l.reverse++[v])).1 (by have:=hzb hz; omega)).1
    generalize q0E l=X at *
    generalize q0E (l.reverse++[v])=Z at *
    obtain ⟨X,xe⟩:=X
    obtain ⟨Z,ze⟩:=Z
    simp only at hx hin hwr r1 r2 r3 h3 hsame
    subst hx
    by_cases hz:ze=0
    ·subst hz
     have hw:=hwr rfl
     rw[hin rfl] at hw
     rw[q02 X] at r1 r2 h3 hsame hw
     rw[q02 Z] at r3 hw
     cases b3 with
     | false=>
      (repeat' first|simp (disch:=omega) only[go_sem,q1D,Blk.mark,VQ,V1,Bool.or_false,Kz,bne_self_eq_false,beq_self_eq_true]|refine q00 _ (r1) ?_|refine q00 _ (r2) ?_|refine q00 _ (haw) ?_|refine q00 _ (h3) ?_|refine q00 _ (hsame) ?_)
      all_goals first | rfl | omega
     | true=>
      (repeat' first|simp (disch:=omega) only[go_sem,q1D,Blk.mark,VQ,V1,Bool.or_false,Kz,bne_self_eq_false,beq_self_eq_true,Kk,Kb,Kg,hT]|refine q00 _ (r1) ?_|refine q00 _ (r2) ?_|refine q00 _ (r3) ?_|refine q00 _ (haw) ?_|refine q00 _ (h3) ?_|refine q00 _ (hsame) ?_|refine q00 _ (hw) ?_)
      all_goals first | rfl | omega | skip
    ·rw[q02 X] at r1 r2 h3 hsame
     rw[q02 Z] at r3
     cases b3 with
     | false=>
      (repeat' first|simp (disch:=omega) only[go_sem,q1D,Blk.mark,VQ,V1,Bool.or_false,Kz,bne_self_eq_false,beq_self_eq_true]|refine q00 _ (r1) ?_|refine q00 _ (r2) ?_|refine q00 _ (haw) ?_|refine q00 _ (h3) ?_|refine q00 _ (hsame) ?_)
      all_goals first | rfl | omega
     | true=>
      (repeat' first|simp (disch:=omega) only[go_sem,q1D,Blk.mark,VQ,V1,Bool.or_false,Kz,bne_self_eq_false,beq_self_eq_true,hz,Kk,Kb,Kg,hT]|refine q00 _ (r1) ?_|refine q00 _ (r2) ?_|refine q00 _ (r3) ?_|refine q00 _ (haw) ?_|refine q00 _ (h3) ?_|refine q00 _ (hsame) ?_)
      all_goals first | rfl | omega | skip
   ·have hy:=fun h=>hx (e1.2 h)
    generalize q0E l=X at *
    generalize q0E l.reverse=Y at *
    obtain ⟨X,xe⟩:=X
    obtain ⟨Y,ye⟩:=Y
    simp only at hx hy r1 r2
    rw[q02 X] at r1
    rw[q02 Y] at r2
    (repeat' first|simp (disch:=omega) only[go_sem,q1D,Blk.mark,VQ,V1,Bool.or_false,Kz,bne_self_eq_false,beq_self_eq_true,hx,hy]|refine q00 _ (r1) ?_|refine q00 _ (r2) ?_|refine q00 _ (haw) ?_)
    all_goals first | rfl | omega | skip
end Ago
