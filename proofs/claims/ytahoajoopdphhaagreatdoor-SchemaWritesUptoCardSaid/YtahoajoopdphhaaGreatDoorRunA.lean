/- Layers 1 and 2 of the references: numerals and decimals. -/
import Derived.Test.YtahoajoopdphhaaGreatDoorCodeZ
import Derived.Test.YtahoajoopdphhaaGreatDoorMachE
set_option linter.unusedSimpArgs false
set_option linter.unusedVariables false
set_option maxRecDepth 100000
namespace Ago
def qen (b:UInt8):Bool:=decide (48≤b.toNat∧b.toNat≤57)
def digits (s:List UInt8):Bool:=s.all qen
theorem q0C {α:Type} {s:List α} {k:Nat} {c:α} {p:α→Bool} (hc:s[k]?=some c) (h:(s.take k).all p=true) (hp:p c=true):(s.take (k+1)).all p=true:=by
 rw[KD,hc]
 simp_all
theorem q4y {α:Type} {s:List α} {k:Nat} {c:α} {p:α→Bool} (hc:s[k]?=some c) (hp:p c=false):s.all p=false:=by
 rw[List.all_eq_false]
 exact ⟨c,Kc hc,by simp [hp]⟩
theorem q08 {α:Type} {s:List α} {k:Nat} (h:k<s.length) : ∃ c,s[k]?=some c:=⟨_,Ki h⟩

theorem qbF (s:List UInt8) (hs:s.length<2^31):q0m C0 82 [.str s] (.bool (digits s)):=by
 refine q05 quT rfl ?_
 simp (disch:=omega) only[go_sem,quT,enter]
 refine q0a (α:=Nat) (fun k=>{ tmps:=q0i 20 [(0,.str s),(3,.int .i64 k)],heap:=[],base:=0 }) (fun k=>k≤s.length∧(s.take k).all qen=true) (fun k=>s.length-k) 0 rfl ⟨Kn _,rfl⟩ ?_
 rintro k ⟨hk,hd⟩
 by_cases hlt:k<s.length
 ·obtain ⟨c,hc⟩:=q08 hlt
  (repeat' first|simp (disch:=omega) only[go_sem,hc]|(apply spl<;>intro h<;>try simp (disch:=omega) only[go_sem,hc,h]))
  ·rw[digits,q4y hc (by simp [qen]; omega)]
  ·exact ⟨k+1,rfl,⟨hlt,q0C hc hd (by simp [qen]; omega)⟩,by omega⟩
  ·rw[digits,q4y hc (by simp [qen]; omega)]
 ·(repeat' first|simp (disch:=omega) only[go_sem]|(apply spl<;>intro h<;>try simp (disch:=omega) only[go_sem,h]))
  have:k=s.length:=by omega
  subst this
  simpa [digits] using hd

def q8i (s:List UInt8):Bool:=decide (s.length≤600) && digits s && decide (s[0]?≠some 48)

theorem qbu (c:UInt8):(c.toNat:Int)=48↔c=48:=by
 constructor
 ·intro h
  have:c.toNat=48:=by omega
  exact UInt8.toNat_inj.1 this
 ·rintro rfl; rfl

theorem e00:(0:Int).toNat=0:=(rfl)
theorem qf5 (s:List UInt8) (hs:s.length<2^31):q0m C0 59 [.str s] (.bool (q8i s)):=by
 refine q05 qr7 rfl ?_
 by_cases h0:s.length=0
 ·have hn:s=[]:=KE h0
  (repeat' first|simp (disch:=omega) only[go_sem,qr7,enter,h0]|refine q00 _ (qbF _ hs) ?_|(apply spl<;>intro h<;>try simp (disch:=omega) only[go_sem,qr7,enter,h0 ,h]))
  all_goals simp_all [q8i]
 ·obtain ⟨c,hc⟩:=q08 (s:=s) (k:=0) (by omega)
  (repeat' first|simp (disch:=omega) only[go_sem,qr7,enter,hc,e00]|refine q00 _ (qbF _ hs) ?_|(apply spl<;>intro h<;>try simp (disch:=omega) only[go_sem,qr7,enter,hc,e00 ,h]))
  all_goals simp_all [q8i,bne,qbu,qam,q88]
  all_goals omega

def q4O (l:List UInt8):List AV:=l.map fun c=>.int .u8 c.toNat
theorem qaX : ∀ l,q1L q6y (q4O l)=some l
 | []=>rfl
 | c::l=>by simp [q4O,q1L,q6y] at *; have:=qaX l; simp [q4O] at this; simp [this]

def q2T (s:List UInt8):Nat:=(s.reverse.takeWhile (· == 48)).length

theorem qdX (s:List UInt8) (hs:s.length<2^31):q0m C0 90 [.str s] (.int .i64 (q2T s)):=by
 refine q05 qvi rfl ?_
 simp (disch:=omega) only[go_sem,qvi,enter]
 refine q0a (α:=Nat) (fun k=>{ tmps:=q0i 21 [(0,.str s),(3,.int .i64 k)],heap:=[],base:=0 }) (fun k=>k≤s.length∧(s.reverse.take k).all (· == 48)=true) (fun k=>s.length-k) 0 rfl ⟨Kn _,rfl⟩ ?_
 rintro k ⟨hk,hd⟩
 have fin:(k<s.length→∃ c,s.reverse[k]?=some c∧c≠48)→q2T s=k:=fun h=>by
  unfold q2T
  have key : ∀ (l:List UInt8) (k:Nat),(l.take k).all (· == 48)=true→(k<l.length→∃ c,l[k]?=some c∧c≠48)→k≤l.length→(l.takeWhile (· == 48)).length=k:=by
   intro l
   induction l with
   | nil=>intro k _ _ hk; simp at hk; simp [hk]
   | cons x l ih=>
    intro k h1 h2 h3
    cases k with
    | zero=>
     obtain ⟨c,h4,h5⟩:=h2 (by simp)
     simp at h4
     subst h4
     rw[List.takeWhile_cons_of_neg (by simpa using h5)]
     rfl
    | succ k=>
     simp only[K4,Vy,Kk] at h1
     rw[List.takeWhile_cons_of_pos (by simpa using h1.1)]
     simp only[List.length_cons,Nat.add_right_cancel_iff]
     exact ih k h1.2 (fun h=>by simpa using h2 (by simpa using h)) (by simpa using h3)
  exact key s.reverse k hd (fun h2=>h (by simpa using h2)) (by simpa using hk)
 by_cases hlt:k<s.length
 ·obtain ⟨c,hc⟩:=q08 (s:=s) (k:=s.length-1-k) (by omega)
  have e:((s.length:Int)-1-k).toNat=s.length-1-k:=by omega
  have hr:s.reverse[k]?=some c:=by rw[List.getElem?_reverse hlt,hc]
  (repeat' first|simp (disch:=omega) only[go_sem,e,hc]|(apply spl<;>intro h<;>try simp (disch:=omega) only[go_sem,e,hc,h]))
  ·refine ⟨k+1,rfl,⟨hlt,q0C hr hd ?_⟩,by omega⟩
   simpa using (qbu c).1 h
  ·rw[fin fun _=>⟨c,hr,fun e=>h ((qbu c).2 e)⟩]
 ·(repeat' first|simp (disch:=omega) only[go_sem]|(apply spl<;>intro h<;>try simp (disch:=omega) only[go_sem,h]))
  rw[fin fun h=>absurd h hlt]

end Ago
set_option maxRecDepth 100000
namespace Ago
theorem q0M {α:Type} {s:List α} {k:Nat} (h : ¬ k<s.length) (h2:k≤s.length):s.take k=s:=Kz (by omega)

structure Dec where
 neg:Bool
 digits:List UInt8
 exp:Int
def q2A (d:Dec):AV:=.agg [.bool d.neg,.str d.digits,.int .i64 d.exp]

def q6C (d:Dec):Bool:=
 if d.digits=[] then !d.neg && d.exp == 0
 else decide (d.digits.length≤120) && q8i d.digits && decide (q2T d.digits=0) && decide (-400≤d.exp) && decide (d.exp≤400)

theorem qeQ (d:Dec) (hs:d.digits.length<2^31):q0m C0 79 [q2A d] (.bool (q6C d)):=by
 refine q05 qrj rfl ?_
 obtain ⟨neg,ds,exp⟩:=d
 simp only[q2A] at *
 by_cases h0:ds=[]
 ·subst h0
  (repeat' first|simp (disch:=omega) only[go_sem,qrj,enter]|(apply spl<;>intro h<;>try simp (disch:=omega) only[go_sem,qrj,enter,h]))
  all_goals simp [q6C]
 ·have hb:(ds == ([]:List UInt8))=false:=by simp [h0]
  have hz:=qdX ds hs
  (repeat' first|simp (disch:=omega) only[go_sem,qrj,enter,hb]|refine q00 _ (qf5 _ hs) ?_|refine q00 _ (hz) ?_|(apply spl<;>intro h<;>try simp (disch:=omega) only[go_sem,qrj,enter,hb ,h]))
  all_goals simp [q6C,h0]
  all_goals first | omega | (intros; omega) | (simp_all; done) | skip
  all_goals (have:(q2T ds:Int)=0↔q2T ds=0:=by omega)
  all_goals simp_all
  all_goals omega

end Ago
set_option maxRecDepth 100000
namespace Ago
open Go (IntKind)

structure Tm where
 kind:Int
 day:Int
 nano:Int
 off:Int
structure VS where
 kind:Int
 bool:Bool
 num:Dec
 time:Tm
 text:List UInt8
 bytes:List UInt8
inductive V where
 | mk (s:VS) (l:List V) (f:List (List UInt8 × V))

def V.s:V→VS | .mk s _ _=>s
def V.l:V→List V | .mk _ l _=>l
def V.f:V→List (List UInt8 × V) | .mk _ _ f=>f

mutual
def q0g:V→AV
 | .mk s l f=>.agg [.int .i64 s.kind,.bool s.bool,.bool s.num.neg,.str s.num.digits,.int .i64 s.num.exp,.int .i64 s.time.kind,.int .i64 s.time.day,.int .i64 s.time.nano,.int .i64 s.time.off,.str s.text,.tsl 1 (q4O s.bytes),.tsl 13 (qst l),.tsl 14 (qux f)]
def qst:List V→List AV
 | []=>[]
 | v::l=>q0g v::qst l
def qux:List (List UInt8 × V)→List AV
 | []=>[]
 | (k,v)::f=>.agg (.str k::(q0g v).cells)::qux f
end

theorem qh2 : ∀ l,qst l=l.map q0g
 | []=>by simp [qst]
 | v::l=>by simp [qst,qh2 l]
def q0J (x:List UInt8 × V):AV:=.agg (.str x.1::(q0g x.2).cells)
theorem qhd : ∀ l,qux l=l.map q0J
 | []=>by simp [qux]
 | (k,v)::l=>by simp [qux,qhd l,q0J]
theorem q07 (v:V):q0g v = .agg [.int .i64 v.s.kind,.bool v.s.bool,.bool v.s.num.neg,.str v.s.num.digits,.int .i64 v.s.num.exp,.int .i64 v.s.time.kind,.int .i64 v.s.time.day,.int .i64 v.s.time.nano,.int .i64 v.s.time.off,.str v.s.text,.tsl 1 (q4O v.s.bytes),.tsl 13 (v.l.map q0g),.tsl 14 (v.f.map q0J)]:=by
 cases v with
 | mk s l f=>simp [q0g,V.s,V.l,V.f,qh2,qhd]
theorem q17 (x:List UInt8 × V):q0J x = .agg [.str x.1,.int .i64 x.2.s.kind,.bool x.2.s.bool,.bool x.2.s.num.neg,.str x.2.s.num.digits,.int .i64 x.2.s.num.exp,.int .i64 x.2.s.time.kind,.int .i64 x.2.s.time.day,.int .i64 x.2.s.time.nano,.int .i64 x.2.s.time.off,.str x.2.s.text,.tsl 1 (q4O x.2.s.bytes),.tsl 13 (x.2.l.map q0g),.tsl 14 (x.2.f.map q0J)]:=by
 unfold q0J
 rw[q07]
 rfl

def V.bulk (v:V):Nat:=(q0g v).bulk
theorem q3n : ∀ {l:List AV} {x:AV},x∈l→x.bulk≤AV.bulks l
 | [],x,h=>by cases h
 | y::l,x,h=>by
  rcases KA.1 h with rfl | h
  ·simp [AV.bulks]
  ·have:=q3n h; simp [AV.bulks]; omega
theorem q2L : ∀ (l:List AV),l.length≤AV.bulks l
 | []=>by simp [AV.bulks]
 | x::l=>by have:=q2L l; have:=q46 x; simp [AV.bulks]; omega
theorem V.bulk_eq (v:V):v.bulk=v.s.num.digits.length+v.s.text.length+AV.bulks (q4O v.s.bytes)+AV.bulks (v.l.map q0g)+AV.bulks (v.f.map q0J)+14:=by
 unfold V.bulk
 rw[q07]
 simp [AV.bulk,AV.bulks]
 omega
theorem q0o (l:List UInt8):(q4O l).length=l.length:=by simp [q4O]

structure V.Lens (v:V) (N:Nat):Prop where
 digits:v.s.num.digits.length<N
 text:v.s.text.length<N
 bytes:v.s.bytes.length<N
 list:v.l.length<N
 fields:v.f.length<N
 kids : ∀ x,x∈v.l→x.bulk<v.bulk
 fkids : ∀ x,x∈v.f→x.2.bulk<v.bulk∧x.1.length<N
theorem V.lens {v:V} {N:Nat} (h:v.bulk≤N):v.Lens N:=by
 have e:=v.bulk_eq
 have h1:=q2L (q4O v.s.bytes)
 have h2:=q2L (v.l.map q0g)
 have h3:=q2L (v.f.map q0J)
 rw[q0o] at h1
 rw[Ka] at h2 h3
 refine ⟨by omega,by omega,by omega,by omega,by omega,fun x hx=>?_,fun x hx=>?_⟩
 ·have:=q3n (VJ (f:=q0g) hx)
  show (q0g x).bulk<_
  omega
 ·have:=q3n (VJ (f:=q0J) hx)
  have e2:(q0J x).bulk=x.2.bulk+x.1.length+1:=by
   unfold V.bulk q0J
   rw[q07]
   simp [AV.bulk,AV.bulks,AV.cells]
   omega
  omega
def q0B (n b:Nat):List AV→AV
 | []=>.snil n
 | x::l=>.sref n b 0 (l.length+1)
def q0z (n b:Nat):List AV→Heap
 | []=>[]
 | x::l=>[.row n (x::l) false true b]
theorem q0d {α β:Type} {g:α→β} {l:List α} {k:Nat} {x:α} (h:l[k]?=some x):(l.map g)[k]?=some (g x):=by rw[KH,h]; rfl
def q3B:AV:=.agg [.int .i64 0,.bool false,.bool false,.str [],.int .i64 0,.int .i64 0,.int .i64 0,.int .i64 0,.int .i64 0,.str [],.snil 1,.snil 13,.snil 14]
end Ago
set_option maxRecDepth 100000
set_option maxHeartbeats 4000000
namespace Ago
open Go (IntKind)

structure PS where
 op:Int
 lo:Int
 hi:Int
 min:Int
 max:Int
inductive Pat where
 | mk (s:PS) (a:List Pat)
def Pat.s:Pat→PS | .mk s _=>s
def Pat.a:Pat→List Pat | .mk _ a=>a
mutual
def q04:Pat→AV
 | .mk s a=>.agg [.int .i64 s.op,.int .i64 s.lo,.int .i64 s.hi,.int .i64 s.min,.int .i64 s.max,.tsl 6 (qa7 a)]
def qa7:List Pat→List AV
 | []=>[]
 | p::l=>q04 p::qa7 l
end
theorem qaR : ∀ l,qa7 l=l.map q04
 | []=>by simp [qa7]
 | v::l=>by simp [qa7,qaR l]
theorem q0e (p:Pat):q04 p = .agg [.int .i64 p.s.op,.int .i64 p.s.lo,.int .i64 p.s.hi,.int .i64 p.s.min,.int .i64 p.s.max,.tsl 6 (p.a.map q04)]:=by
 cases p with
 | mk s l=>simp [q04,Pat.s,Pat.a,qaR]
def Pat.bulk (p:Pat):Nat:=(q04 p).bulk
theorem Pat.bulk_eq (p:Pat):p.bulk=AV.bulks (p.a.map q04)+7:=by
 unfold Pat.bulk
 rw[q0e]
 simp [AV.bulk,AV.bulks]
 omega
structure Pat.Lens (p:Pat) (N:Nat):Prop where
 args:p.a.length<N
 kids : ∀ x,x∈p.a→x.bulk<p.bulk
theorem Pat.lens {p:Pat} {N:Nat} (h:p.bulk≤N):p.Lens N:=by
 have e:=p.bulk_eq
 have h2:=q2L (p.a.map q04)
 rw[Ka] at h2
 refine ⟨by omega,fun x hx=>?_⟩
 have:=q3n (VJ (f:=q04) hx)
 show (q04 x).bulk<_
 omega

structure Bnd where
 set:Bool
 num:Dec
 opn:Bool
structure Prt where
 lo:Bnd
 hi:Bnd
 sort:Int
def q0p (p:Prt):AV:=.agg [.bool p.lo.set,.bool p.lo.num.neg,.str p.lo.num.digits,.int .i64 p.lo.num.exp,.bool p.lo.opn,.bool p.hi.set,.bool p.hi.num.neg,.str p.hi.num.digits,.int .i64 p.hi.num.exp,.bool p.hi.opn,.int .i64 p.sort]
def qbX (b:Bnd):AV:=.agg [.bool b.set,.bool b.num.neg,.str b.num.digits,.int .i64 b.num.exp,.bool b.opn]
def qhH (l:List Prt):AV:=.agg [.tsl 11 (l.map q0p)]
theorem qal (p:Prt):(q0p p).bulk=p.lo.num.digits.length+p.hi.num.digits.length+12:=by
 simp [q0p,AV.bulk,AV.bulks]
 omega

structure SS where
 op:Int
 mask:Int
 min:Int
 max:Int
 name:List UInt8
 parts:List Prt
 pat:Pat
 vals:List V
structure PK where
 key:List UInt8
 req:Bool
inductive Sch where
 | mk (s:SS) (p:List (PK × Sch)) (a:List Sch)
def Sch.s:Sch→SS | .mk s _ _=>s
def Sch.p:Sch→List (PK × Sch) | .mk _ p _=>p
def Sch.a:Sch→List Sch | .mk _ _ a=>a
def SS.cells (s:SS):List AV:=[.int .i64 s.op,.int .i64 s.mask,.int .i64 s.min,.int .i64 s.max,.str s.name,.tsl 11 (s.parts.map q0p),.int .i64 s.pat.s.op,.int .i64 s.pat.s.lo,.int .i64 s.pat.s.hi,.int .i64 s.pat.s.min,.int .i64 s.pat.s.max,.tsl 6 (s.pat.a.map q04),.tsl 13 (s.vals.map q0g)]
mutual
def q06:Sch→AV
 | .mk s p a=>.agg (s.cells++[.tsl 17 (qaT p),.tsl 15 (q9I a)])
def q9I:List Sch→List AV
 | []=>[]
 | v::l=>q06 v::q9I l
def qaT:List (PK × Sch)→List AV
 | []=>[]
 | (k,v)::f=>.agg (.str k.key :: .bool k.req::(q06 v).cells)::qaT f
end
theorem qaw : ∀ l,q9I l=l.map q06
 | []=>by simp [q9I]
 | v::l=>by simp [q9I,qaw l]
def q1k (x:PK × Sch):AV:=.agg (.str x.1.key :: .bool x.1.req::(q06 x.2).cells)
theorem q9F : ∀ l,qaT l=l.map q1k
 | []=>by simp [qaT]
 | (k,v)::l=>by simp [qaT,q9F l,q1k]
theorem q02 (v:Sch):q06 v = .agg [.int .i64 v.s.op,.int .i64 v.s.mask,.int .i64 v.s.min,.int .i64 v.s.max,.str v.s.name,.tsl 11 (v.s.parts.map q0p),.int .i64 v.s.pat.s.op,.int .i64 v.s.pat.s.lo,.int .i64 v.s.pat.s.hi,.int .i64 v.s.pat.s.min,.int .i64 v.s.pat.s.max,.tsl 6 (v.s.pat.a.map q04),.tsl 13 (v.s.vals.map q0g),.tsl 17 (v.p.map q1k),.tsl 15 (v.a.map q06)]:=by
 cases v with
 | mk s p a=>simp [q06,Sch.s,Sch.p,Sch.a,qaw,q9F,SS.cells]
theorem q2g (x:PK × Sch):q1k x = .agg [.str x.1.key,.bool x.1.req,.int .i64 x.2.s.op,.int .i64 x.2.s.mask,.int .i64 x.2.s.min,.int .i64 x.2.s.max,.str x.2.s.name,.tsl 11 (x.2.s.parts.map q0p),.int .i64 x.2.s.pat.s.op,.int .i64 x.2.s.pat.s.lo,.int .i64 x.2.s.pat.s.hi,.int .i64 x.2.s.pat.s.min,.int .i64 x.2.s.pat.s.max,.tsl 6 (x.2.s.pat.a.map q04),.tsl 13 (x.2.s.vals.map q0g),.tsl 17 (x.2.p.map q1k),.tsl 15 (x.2.a.map q06)]:=by
 show AV.agg (.str x.1.key :: .bool x.1.req::(q06 x.2).cells)=_
 rw[q02]
 simp only[AV.cells]
def Sch.bulk (v:Sch):Nat:=(q06 v).bulk
theorem Sch.bulk_eq (v:Sch):v.bulk=v.s.name.length+AV.bulks (v.s.parts.map q0p)+AV.bulks (v.s.pat.a.map q04)+AV.bulks (v.s.vals.map q0g)+AV.bulks (v.p.map q1k)+AV.bulks (v.a.map q06)+16:=by
 unfold Sch.bulk
 rw[q02]
 simp [AV.bulk,AV.bulks]
 omega
structure Sch.Lens (v:Sch) (N:Nat):Prop where
 name:v.s.name.length<N
 parts:v.s.parts.length<N
 part : ∀ x,x∈v.s.parts→x.lo.num.digits.length<N∧x.hi.num.digits.length<N
 pat:v.s.pat.bulk<v.bulk
 vals:v.s.vals.length<N
 val : ∀ x,x∈v.s.vals→x.bulk<v.bulk
 props:v.p.length<N
 args:v.a.length<N
 kids : ∀ x,x∈v.a→x.bulk<v.bulk
 pkids : ∀ x,x∈v.p→x.2.bulk<v.bulk∧x.1.key.length<N
theorem Sch.lens {v:Sch} {N:Nat} (h:v.bulk≤N):v.Lens N:=by
 have e:=v.bulk_eq
 have h1:=q2L (v.s.parts.map q0p)
 have h2:=q2L (v.s.vals.map q0g)
 have h3:=q2L (v.p.map q1k)
 have h4:=q2L (v.a.map q06)
 have h5:=v.s.pat.bulk_eq
 rw[Ka] at h1 h2 h3 h4
 refine ⟨by omega,by omega,fun x hx=>?_,by omega,by omega,fun x hx=>?_,by omega,by omega,fun x hx=>?_,fun x hx=>?_⟩
 ·have:=q3n (VJ (f:=q0p) hx)
  rw[qal] at this
  omega
 ·have:=q3n (VJ (f:=q0g) hx)
  show (q0g x).bulk<_
  omega
 ·have:=q3n (VJ (f:=q06) hx)
  show (q06 x).bulk<_
  omega
 ·have:=q3n (VJ (f:=q1k) hx)
  have e2:(q1k x).bulk=x.2.bulk+x.1.key.length+2:=by
   unfold Sch.bulk q1k
   rw[q02]
   simp [AV.bulk,AV.bulks,AV.cells]
   omega
  omega
def q0H (x:List UInt8 × Sch):AV:=.agg (.str x.1::(q06 x.2).cells)
theorem q0K (x:List UInt8 × Sch):q0H x = .agg [.str x.1,.int .i64 x.2.s.op,.int .i64 x.2.s.mask,.int .i64 x.2.s.min,.int .i64 x.2.s.max,.str x.2.s.name,.tsl 11 (x.2.s.parts.map q0p),.int .i64 x.2.s.pat.s.op,.int .i64 x.2.s.pat.s.lo,.int .i64 x.2.s.pat.s.hi,.int .i64 x.2.s.pat.s.min,.int .i64 x.2.s.pat.s.max,.tsl 6 (x.2.s.pat.a.map q04),.tsl 13 (x.2.s.vals.map q0g),.tsl 17 (x.2.p.map q1k),.tsl 15 (x.2.a.map q06)]:=by
 show AV.agg (.str x.1::(q06 x.2).cells)=_
 rw[q02]
 simp only[AV.cells]
theorem q2Y (x:List UInt8 × Sch):(q0H x).bulk=x.1.length+x.2.bulk+1:=by
 unfold Sch.bulk q0H
 rw[q02]
 simp [AV.bulk,AV.bulks,AV.cells]
 omega
structure Schs where
 defs:List (List UInt8 × Sch)
 root:Sch
def q0y (s:Schs):AV:=.agg (.tsl 16 (s.defs.map q0H)::(q06 s.root).cells)
theorem q0h (s:Schs):q0y s = .agg [.tsl 16 (s.defs.map q0H),.int .i64 s.root.s.op,.int .i64 s.root.s.mask,.int .i64 s.root.s.min,.int .i64 s.root.s.max,.str s.root.s.name,.tsl 11 (s.root.s.parts.map q0p),.int .i64 s.root.s.pat.s.op,.int .i64 s.root.s.pat.s.lo,.int .i64 s.root.s.pat.s.hi,.int .i64 s.root.s.pat.s.min,.int .i64 s.root.s.pat.s.max,.tsl 6 (s.root.s.pat.a.map q04),.tsl 13 (s.root.s.vals.map q0g),.tsl 17 (s.root.p.map q1k),.tsl 15 (s.root.a.map q06)]:=by
 unfold q0y
 rw[q02]
 simp only[AV.cells]
def Schs.bulk (s:Schs):Nat:=(q0y s).bulk
theorem Schs.bulk_eq (s:Schs):s.bulk=AV.bulks (s.defs.map q0H)+s.root.bulk+1:=by
 unfold Schs.bulk Sch.bulk q0y
 rw[q02]
 simp [AV.bulk,AV.bulks,AV.cells]
 omega
def Sch.kids (v:Sch):List Sch:=v.p.map (·.2)++v.a
theorem Sch.kids_bulk {v:Sch} {x:Sch} (h:x∈v.kids):x.bulk<v.bulk:=by
 have L:=Sch.lens (Kr v.bulk)
 unfold Sch.kids at h
 rcases Kv.1 h with h | h
 ·obtain ⟨y,hy,rfl⟩:=KV.1 h
  exact (L.pkids y hy).1
 ·exact L.kids x h
theorem Sch.kids_sum (v:Sch):AV.bulks (v.kids.map q06)+v.p.length+v.p.length≤AV.bulks (v.p.map q1k)+AV.bulks (v.a.map q06):=by
 unfold Sch.kids
 rw[Va,q2k]
 have : ∀ l:List (PK × Sch),AV.bulks ((l.map (·.2)).map q06)+l.length+l.length≤AV.bulks (l.map q1k):=by
  intro l
  induction l with
  | nil=>simp [AV.bulks]
  | cons x l ih=>
   have e2:(q1k x).bulk=x.2.bulk+x.1.key.length+2:=by
    unfold Sch.bulk q1k
    rw[q02]
    simp [AV.bulk,AV.bulks,AV.cells]
    omega
   simp only[Kd,AV.bulks,List.length_cons]
   have:(q06 x.2).bulk=x.2.bulk:=rfl
   omega
 have:=this v.p
 omega
theorem qiE {α:Type} {l:List α} {k:Nat} {x:α} (hx:l[k]?=some x):l.drop k=x::l.drop (k+1):=by
 obtain ⟨h3,h4⟩:=Ks.1 hx
 rw[VR h3,h4]
end Ago
set_option maxRecDepth 100000
set_option maxHeartbeats 4000000
namespace Ago
open Go (IntKind)
structure Stp where
 byIndex:Bool
 key:List UInt8
 index:Int
 deriving DecidableEq
end Ago
set_option maxRecDepth 100000
set_option maxHeartbeats 4000000
namespace Ago
open Go (IntKind)

def qng (base:Nat) (res:List ResV) (v:AV) (H':Heap) (e:Ex) (s:St):Prop:=(e = .normal∨e = .ret)∧∃ u,results res s=some u∧(q7P base u s.heap).tmps.getD 0 .dead=v∧(q7P base u s.heap).heap=H'
theorem q1D {base:Nat} {res:List ResV} {v:AV} {H':Heap} {e:Ex} {s:St} (he:e = .normal∨e = .ret) (u:AV) (h1:results res s=some u) (h2:(q7P base u s.heap).tmps.getD 0 .dead=v) (h3:(q7P base u s.heap).heap=H'):qng base res v H' e s:=⟨he,u,h1,h2,h3⟩
theorem q1s {C:Ctx} {f:Nat} (fn:AFn) {args:List AV} {H:Heap} {v:AV} {H':Heap} (hf:C.code f=some fn) (h : @q19 (enter fn args H) ⟨aw (q1z C) (q0m C) fn.body (qng H.length fn.res v H')⟩):q1z C f args H v H':=by
 unfold q19 at h
 exact qk0 hf h


theorem q5X {l:List UInt8} {i:Nat} {c:UInt8} (h:l[i]?=some c):(q4O l)[i]?=some (.int .u8 c.toNat):=by simp [q4O,h]
theorem qgi (l:List UInt8) (i:Nat) (c:UInt8):(q4O l).set i (.int .u8 c.toNat)=q4O (l.set i c):=by simp [q4O,List.map_set]
theorem q5i (l:List UInt8):(q4O l).length=l.length:=by simp [q4O]

theorem qg9 (l:List UInt8) (hl:l.length<2^24) (h0:l≠[]):q1z C0 143 [.sref 1 0 0 l.length] [.row 1 (q4O l) false true 0] (.tup []) [.row 1 (q4O l.reverse) false true 0]:=by
 refine q1s qiq rfl ?_
 have hpos:0<l.length:=List.length_pos_iff.2 h0
 simp (disch:=omega) only[go_sem,qiq,enter]
 refine q0a (α:=Nat × List UInt8) (fun a=>{ tmps:=q0i 28 [(0,.sref 1 0 0 l.length),(2,.int .i64 a.1),(3,.int .i64 ((l.length:Int)-1-a.1))],heap:=[.row 1 (q4O a.2) false true 0],base:=1 })
  (fun a=>a.1≤l.length∧a.2.length=l.length∧∀ i,a.2[i]?=if i<a.1∨l.length≤i+a.1 then l.reverse[i]? else l[i]?) (fun a=>l.length-a.1) (0,l) (by simp only[Int.sub_zero,Int.natCast_zero]; rfl) ⟨Kn _,rfl,fun i=>by
   simp only
   split
   ·rename_i h
    rw[KQ (l:=l) (by omega),KQ (by simp; omega)]
   ·rfl⟩ ?_
 rintro ⟨k,m⟩ ⟨hk,hm,hget⟩
 simp only at hk hm hget ⊢
 by_cases hlt:2 * k+1<l.length
 ·obtain ⟨c,hc⟩:=q08 (s:=m) (k:=k) (by omega)
  obtain ⟨d,hd⟩:=q08 (s:=m) (k:=l.length-1-k) (by omega)
  have e1:((l.length:Int)-1-k).toNat=l.length-1-k:=by omega
  have hd2:(m.set k d)[l.length-1-k]?=some d:=by rw[K0 (by omega)]; exact hd
  (repeat' first|simp (disch:=omega) only[go_sem,e1,q5X hc,q5X hd,q5X hd2,qgi,q5i,hm,Kw]|(apply spl<;>intro h<;>try simp (disch:=omega) only[go_sem,e1,q5X hc,q5X hd,q5X hd2,qgi,q5i,hm,Kw,h]))
  refine ⟨(k+1,(m.set k d).set (l.length-1-k) c),?_,⟨by simp only; omega,by simp [hm],fun i=>?_⟩,by simp only; omega⟩
  ·have e3:((l.length:Int)-1-((k+1:Nat):Int))=l.length-1-k-1:=by omega
   simp only[e3]
   rfl
  ·have hkc:l[k]?=some c:=by have:=hget k; rw[if_neg (by omega),hc] at this; exact this.symm
   have hkd:l[l.length-1-k]?=some d:=by have:=hget (l.length-1-k); rw[if_neg (by omega),hd] at this; exact this.symm
   simp only
   by_cases h1:i=l.length-1-k
   ·subst h1
    rw[Ve (by simp; omega),if_pos (by omega),List.getElem?_reverse (by omega),←hkc]
    congr 1
    omega
   ·rw[K0 (Ne.symm h1)]
    by_cases h2:i=k
    ·subst h2
     rw[Ve (by omega),if_pos (by omega),List.getElem?_reverse (by omega),←hkd]
    ·rw[K0 (Ne.symm h2),hget i]
     by_cases h3:i<k∨l.length≤i+k
     ·rw[if_pos h3,if_pos (by omega)]
     ·rw[if_neg h3,if_neg (by omega)]
 ·have hrev:m=l.reverse:=by
   apply Vw
   intro i
   rw[hget i]
   split
   ·rfl
   ·rename_i h
    have hi:i=k:=by omega
    rw[List.getElem?_reverse (by omega)]
    congr 1
    omega
  subst hrev
  (repeat' first|simp (disch:=omega) only[go_sem,q5i,hm]|(apply spl<;>intro h<;>try simp (disch:=omega) only[go_sem,q5i,hm,h]))
  exact q1D (.inl rfl) (.tup []) rfl rfl rfl
theorem qfY:q1z C0 143 [.snil 1] [] (.tup []) []:=by
 refine q1s qiq rfl ?_
 simp (disch:=omega) only[go_sem,qiq,enter]
 refine q0a (α:=Unit) (fun _=>{ tmps:=q0i 28 [(0,.snil 1),(2,.int .i64 0),(3,.int .i64 (-1))],heap:=[],base:=0 }) (fun _=>True) (fun _=>0) () rfl trivial ?_
 rintro _ _
 (repeat' first|simp (disch:=omega) only[go_sem]|(apply spl<;>intro h<;>try simp (disch:=omega) only[go_sem,h]))
 exact q1D (.inl rfl) (.tup []) rfl rfl rfl

def bSl (n b:Nat):List AV→AV
 | []=>.snil n
 | x::l=>.sref n b 0 (l.length+1)
def bHp (n b:Nat):List AV→Heap
 | []=>[]
 | x::l=>[.row n (x::l) false true b]


def q4C:Nat→Nat→List UInt8
 | 0,_=>[]
 | k+1,n=>if n=0 then [] else UInt8.ofNat (48+n % 10)::q4C k (n / 10)
def qcP (n:Nat):List UInt8:=(q4C n n).reverse
theorem q55 : ∀ k,q4C k 0=[]
 | 0=>rfl
 | _+1=>rfl
theorem qc0 : ∀ (k j n:Nat),n≤k→n≤j→q4C k n=q4C j n
 | 0,j,n,h,_=>by
  have:n=0:=by omega
  subst this
  rw[q55,q55]
 | k+1,0,n,_,h=>by
  have:n=0:=by omega
  subst this
  rw[q55,q55]
 | k+1,j+1,n,h,h2=>by
  simp only[q4C]
  split
  ·rfl
  ·rw[qc0 k j (n / 10) (by omega) (by omega)]
theorem q52 {n:Nat} (h:n≠0):q4C n n=UInt8.ofNat (48+n % 10)::q4C (n / 10) (n / 10):=by
 obtain ⟨m,rfl⟩ : ∃ m,n=m+1:=⟨n-1,by omega⟩
 rw[show q4C (m+1) (m+1)=if m+1=0 then [] else UInt8.ofNat (48+(m+1) % 10)::q4C m ((m+1) / 10) from rfl,if_neg h,qc0 m ((m+1) / 10) ((m+1) / 10) (by omega) (Kr _)]

theorem qdT (n:Nat) (hn:n≤2^17):q0m C0 136 [.int .i64 n] (.str (qcP n)):=by
 refine q05 qnc rfl ?_
 simp (disch:=omega) only[go_sem,qnc,enter]
 refine q0a (α:=Nat × List UInt8) (fun a=>{ tmps:=q0i 19 [(0,.int .i64 a.1),(3,bSl 1 0 (q4O a.2))],heap:=bHp 1 0 (q4O a.2),base:=0 }) (fun a=>a.1+a.2.length≤n∧a.2++q4C a.1 a.1=q4C n n) (fun a=>a.1) (n,[]) rfl ⟨by simp,rfl⟩ ?_
 rintro ⟨k,m⟩ ⟨hk,hm⟩
 simp only at hk hm ⊢
 by_cases h0:k=0
 ·subst h0
  rw[q55,Kj] at hm
  have hd:qcP n=m.reverse:=by rw[hm]; rfl
  rw[hd]
  cases m with
  | nil=>
   have hr:=qfY
   (repeat' first|simp (disch:=omega) only[go_sem,q4O,bSl,bHp]|(refine q0b _ _ hr ?_)|(apply spl<;>intro h<;>try simp (disch:=omega) only[go_sem,q4O,bSl,bHp ,h]))
   rfl
  | cons c m=>
   have hr:=qg9 (c::m) (by omega) (by simp)
   simp only[List.length_cons] at hr
   simp only[q4O,Kd] at hr
   have hom:=qaX (c::m).reverse
   simp only[q4O] at hom
   have htk:List.take (m.length+1) (List.map (fun c=>AV.int IntKind.u8 c.toNat) (c::m).reverse)=List.map (fun c=>AV.int IntKind.u8 c.toNat) (c::m).reverse:=Kz (by simp)
   (repeat' first|simp (disch:=omega) only[go_sem,q4O,bSl,bHp,Ka,htk,hom,List.length_reverse]|(refine q0b _ _ hr ?_))
 ·have hmod:(k:Int).tmod 10=((k % 10:Nat):Int):=by rw[Int.tmod_eq_emod_of_nonneg (by omega)]; omega
  have hdiv:(k:Int).tdiv 10=((k / 10:Nat):Int):=by rw[Int.tdiv_eq_ediv_of_nonneg (by omega)]; omega
  have hc8:(48:Int)+((k % 10:Nat):Int)=((UInt8.ofNat (48+k % 10)).toNat:Int):=by
   have:(UInt8.ofNat (48+k % 10)).toNat=48+k % 10:=by
    rw[UInt8.toNat_ofNat']
    omega
   rw[this]
   omega
  have hst:=q52 h0
  rw[hst] at hm
  have hm2:(m++[UInt8.ofNat (48+k % 10)])++q4C (k / 10) (k / 10)=q4C n n:=by simpa using hm
  cases m with
  | nil=>
   (repeat' first|simp (disch:=omega) only[go_sem,q4O,bSl,bHp,hmod,hdiv]|(apply spl<;>intro h<;>try simp (disch:=omega) only[go_sem,q4O,bSl,bHp,hmod,hdiv,h]))
   refine ⟨(k / 10,[UInt8.ofNat (48+k % 10)]),?_,⟨by simp at hk ⊢; omega,hm2⟩,by simp only; omega⟩
   simp only[hc8,Kd,Kl,List.length_nil]
   rfl
  | cons c m=>
   simp only[List.length_cons] at hk
   (repeat' first|simp (disch:=omega) only[go_sem,q4O,bSl,bHp,hmod,hdiv,Ka,Nat.mul_one]|(apply spl<;>intro h<;>try simp (disch:=omega) only[go_sem,q4O,bSl,bHp,hmod,hdiv,Ka,Nat.mul_one,h]))
   refine ⟨(k / 10,(c::m)++[UInt8.ofNat (48+k % 10)]),?_,⟨by simp at hk ⊢; omega,hm2⟩,by simp only; omega⟩
   simp only[hc8,Kd,Kl,Kf,Va,Kb,Ka,List.length_cons,List.length_nil]
   rfl


theorem qh6 {s:List UInt8} {k:Nat} (hk:k≤s.length) (hd:(s.reverse.take k).all (· == 48)=true) (h:k<s.length→∃ c,s.reverse[k]?=some c∧c≠48):q2T s=k:=by
 unfold q2T
 have key : ∀ (l:List UInt8) (k:Nat),(l.take k).all (· == 48)=true→(k<l.length→∃ c,l[k]?=some c∧c≠48)→k≤l.length→(l.takeWhile (· == 48)).length=k:=by
  intro l
  induction l with
  | nil=>intro k _ _ hk; simp at hk; simp [hk]
  | cons x l ih=>
   intro k h1 h2 h3
   cases k with
   | zero=>
    obtain ⟨c,h4,h5⟩:=h2 (by simp)
    simp at h4
    subst h4
    rw[List.takeWhile_cons_of_neg (by simpa using h5)]
    rfl
   | succ k=>
    simp only[K4,Vy,Kk] at h1
    rw[List.takeWhile_cons_of_pos (by simpa using h1.1)]
    simp only[List.length_cons,Nat.add_right_cancel_iff]
    exact ih k h1.2 (fun h=>by simpa using h2 (by simpa using h)) (by simpa using h3)
 exact key s.reverse k hd (fun h2=>h (by simpa using h2)) (by simpa using hk)
theorem qcz (s:List UInt8):q2T s≤s.length:=by
 unfold q2T
 have:=(List.takeWhile_sublist (fun x=>x == (48:UInt8)) (l:=s.reverse)).length_le
 simpa using this

theorem qeR (s:List UInt8) (hs:s.length<2^31):q0m C0 155 [.str s,.int .u8 48] (.str (s.take (s.length-q2T s))):=by
 refine q05 qm0 rfl ?_
 simp (disch:=omega) only[go_sem,qm0,enter]
 refine q0a (α:=Nat) (fun k=>{ tmps:=q0i 23 [(0,.str (s.take (s.length-k))),(1,.int .u8 48)],heap:=[],base:=0 }) (fun k=>k≤s.length∧(s.reverse.take k).all (· == 48)=true) (fun k=>s.length-k) 0 (by rw[Nat.sub_zero,Ky]; rfl) ⟨Kn _,rfl⟩ ?_
 rintro k ⟨hk,hd⟩
 have hlen:(s.take (s.length-k)).length=s.length-k:=by simp
 by_cases hlt:k<s.length
 ·obtain ⟨c,hc⟩:=q08 (s:=s) (k:=s.length-1-k) (by omega)
  have e:(((s.length-k:Nat):Int)-1).toNat=s.length-1-k:=by omega
  have hc2:(s.take (s.length-k))[s.length-1-k]?=some c:=by rw[Vg (by omega)]; exact hc
  have hr:s.reverse[k]?=some c:=by rw[List.getElem?_reverse hlt,←hc]
  have htt:List.take (s.length-1-k) (s.take (s.length-k))=s.take (s.length-(k+1)):=by rw[List.take_take]; congr 1; omega
  by_cases h48:c=48
  ·have h48i:(c.toNat:Int)=48:=(qbu c).2 h48
   (repeat' first|simp (disch:=omega) only[go_sem,hlen,e,hc2,h48i,htt]|(apply spl<;>intro h<;>try simp (disch:=omega) only[go_sem,hlen,e,hc2,h48i,htt,h]))
   refine ⟨k+1,rfl,⟨hlt,q0C hr hd (by simpa using h48)⟩,by omega⟩
  ·have h48i : ¬ (c.toNat:Int)=48:=fun e=>h48 ((qbu c).1 e)
   rw[qh6 hk hd (fun _=>⟨c,hr,h48⟩)]
   (repeat' first|simp (disch:=omega) only[go_sem,hlen,e,hc2,h48i,htt])
 ·rw[qh6 hk hd (fun h=>absurd h hlt)]
  (repeat' first|simp (disch:=omega) only[go_sem,hlen])

theorem q7E (s:List UInt8) (hs:s.length<2^31):q0m C0 148 [.str s,.str [48]] (.str (s.take (s.length-q2T s))):=by
 refine q05 qkc rfl ?_
 by_cases h0:s=[]
 ·subst h0
  (repeat' first|simp (disch:=omega) only[go_sem,qkc,enter])
  all_goals rfl
 ·have hb:(s == ([]:List UInt8))=false:=by simp [h0]
  have hr:=qeR s hs
  have e48:((UInt8.toNat 48:Nat):Int)=48:=rfl
  have en:(([48]:List UInt8) == [])=false:=rfl
  (repeat' first|simp (disch:=omega) only[go_sem,qkc,enter,hb,e48,en]|refine q00 _ (hr) ?_)
end Ago
namespace Ago
def Blk.refam (g:Nat→Nat):Blk→Blk
 | .row n els ro fl fam=>.row n els ro fl (g fam)
 | b=>b
def Blk.isRo:Blk→Bool
 | .row _ _ ro _ _=>ro
 | _=>false
def qpO (b:Blk):Prop:=b.refs=[]∧(∀ f g,Blk.ren f g b=Blk.refam g b)∧b.isRo=false
def Calms (H:Heap):Prop:=∀ b,b∈H→qpO b
theorem q9t (n:Nat) (els:List AV) (fam:Nat):qpO (.row n els false true fam):=⟨rfl,fun _ _=>rfl,rfl⟩
theorem qjB:qpO .gone:=⟨rfl,fun _ _=>rfl,rfl⟩
def q4B (x:AV):Prop:=AV.refsN 6 x=[]∧∀ f,AV.renN f 6 x=x
theorem qh7 {es:List (AV × AV)} (h : ∀ x,x∈es→q4B x.1∧q4B x.2):qpO (.map es):=by
 refine ⟨?_,fun f g=>?_,rfl⟩
 ·show es.flatMap (fun x=>AV.refsN 6 x.1++AV.refsN 6 x.2)=[]
  rw[VN]
  intro x hx
  obtain ⟨h1,h2⟩:=h x hx
  rw[h1.1,h2.1]
  rfl
 ·show Blk.map (es.map fun x=>(AV.renN f 6 x.1,AV.renN f 6 x.2)) = .map es
  congr 1
  rw[V1 (g:=id) (fun x hx=>by rw[(h x hx).1.2,(h x hx).2.2]; rfl),List.map_id]
theorem Calms.nil:Calms []:=fun b h=>by cases h
theorem Calms.cons {b:Blk} {H:Heap} (h1:qpO b) (h2:Calms H):Calms (b::H):=fun x h=>by
 rcases KA.1 h with rfl | h
 ·exact h1
 ·exact h2 x h
theorem qej (s:List UInt8):q4B (.str s):=⟨rfl,fun _=>rfl⟩
theorem qiu (b:Bool):q4B (.bool b):=⟨rfl,fun _=>rfl⟩
theorem q0F (k:Go.IntKind) (n:Int):q4B (.int k n):=⟨rfl,fun _=>rfl⟩
def q8P (n base:Nat):Nat→List Nat→List Nat→List Nat
 | 0,_,seen=>seen
 | _+1,[],seen=>seen
 | k+1,r::todo,seen=>
  if r<base then q8P n base k todo seen
  else if seen.contains r then q8P n base k todo seen
  else if r<n then q8P n base k todo (seen++[r])
  else q8P n base k todo seen
theorem q4P {H:Heap} (hH:Calms H) (base:Nat) : ∀ (k:Nat) (todo seen:List Nat),q1M H base k todo seen=q8P H.length base k todo seen
 | 0,_,_=>rfl
 | _+1,[],_=>rfl
 | k+1,r::todo,seen=>by
  unfold q1M q8P
  split
  ·exact q4P hH base k todo seen
  ·split
   ·exact q4P hH base k todo seen
   ·by_cases hlt:r<H.length
    ·rw[if_pos hlt,Ki hlt]
     simp only
     rw[(hH _ (List.getElem_mem hlt)).1,Kh]
     exact q4P hH base k todo (seen++[r])
    ·rw[if_neg hlt,KQ (by omega)]
     exact q4P hH base k todo seen
theorem q8J (ks:List Nat) : ∀ (E:Heap) (j:Nat),Calms E→q1c ks E j=[]
 | [],_,_=>rfl
 | b::E,j,h=>by
  have ih:=q8J ks E (j+1) fun x hx=>h x (by simp [hx])
  have hb:=(h b (by simp)).2.2
  cases b with
  | row n els ro fl fam=>
   simp only[Blk.isRo] at hb
   subst hb
   exact ih
  | _=>exact ih
def qup (live:List Nat) (tm:List AV) (H:Heap) (m:Nat):St:=
 let L:=q0l live 0 tm
 let ks:=q8P H.length m 4000 (L.flatMap (AV.refsN 6)) []
 { tmps:=L.map (AV.renN (q0V m ks) 6),heap:=(H.take m++ks.map fun r=>H.getD r .gone).map (Blk.refam (q2K H m ks)),base:=m,rb:=0 }
theorem q7q {live:List Nat} {tm:List AV} {H:Heap} {m rb:Nat} (hH:Calms H):St.norm live ⟨tm,H,m,rb⟩=qup live tm H m:=by
 unfold St.norm St.normTm qup
 have hT:Calms (H.take m):=fun b hb=>hH b (KB hb)
 have hr:(H.take m).flatMap Blk.refs=[]:=by
  rw[VN]
  exact fun b hb=>(hT b hb).1
 simp only[hr,Kj]
 rw[q4P hH]
 generalize q8P H.length m 4000 ((q0l live 0 tm).flatMap (AV.refsN 6)) []=ks
 unfold St.normBy
 simp only
 rw[q8J ks (H.drop m) m fun b hb=>hH b (KW hb)]
 have hK:Calms (H.take m++ks.map fun r=>H.getD r .gone):=fun b hb=>by
  rcases Kv.1 hb with hb | hb
  ·exact hT b hb
  ·obtain ⟨r,_,rfl⟩:=KV.1 hb
   rw[Ko]
   cases hx:H[r]? with
   | none=>exact qjB
   | some x=>exact hH x (Kc hx)
 have hc:q1f (q0V m ks) (H.take m++ks.map fun r=>H.getD r .gone)=true:=by
  unfold q1f
  rw[Kp]
  intro b hb
  rw[(hK b hb).1]
  rfl
 simp only[hc,q6U,q3i,V7,q4l]
 congr 1
 exact V1 fun b hb=>(hK b hb).2.1 _ _
end Ago
set_option maxRecDepth 100000
set_option maxHeartbeats 4000000
namespace Ago
open Go (IntKind)

theorem qcE {a:Int} (h0:0≤a) (h:a<9223372036854775808):(BitVec.ofInt (IntKind.bits .i64) a).toNat=a.toNat:=by
 obtain ⟨n,rfl⟩ : ∃ n:Nat,a=n:=⟨a.toNat,by omega⟩
 have e:IntKind.bits .i64=64:=rfl
 rw[e,BitVec.toNat_ofInt]
 simp only[V2]
 omega
theorem qcT {a m:Int} {k:Nat} (h0:0≤a) (h:a<9223372036854775808) (hm:m=2^k-1) (hk:k<60):IntKind.wrap .i64 ((BitVec.ofInt (IntKind.bits .i64) a &&& BitVec.ofInt (IntKind.bits .i64) m).toNat:Int)=a % 2^k:=by
 have hp:(2:Nat)^k<2^60:=Nat.pow_lt_pow_right (by omega) hk
 have hp0:0<(2:Nat)^k:=Nat.pow_pos (by omega)
 have hmn:m=((2^k-1:Nat):Int):=by
  rw[hm]
  have:((2^k:Nat):Int)=(2:Int)^k:=by simp
  omega
 obtain ⟨n,rfl⟩ : ∃ n:Nat,a=n:=⟨a.toNat,by omega⟩
 rw[BitVec.toNat_and,qcE h0 h,qcE (by omega) (by omega),hmn]
 simp only[V2]
 rw[VP]
 have hlt:n % 2^k<2^k:=Nat.mod_lt _ hp0
 rw[w64 (by omega) (by omega)]
 simp
theorem qnm {a:Int} (h0:0≤a) (h:a<9223372036854775808):IntKind.wrap .i64 ((BitVec.ofInt (IntKind.bits .i64) a &&& BitVec.ofInt (IntKind.bits .i64) 7).toNat:Int)=a % 8:=qcT (k:=3) h0 h rfl (by omega)
theorem qcQ {a:Int} (h0:0≤a) (h:a<9223372036854775808):IntKind.wrap .i64 ((BitVec.ofInt (IntKind.bits .i64) a &&& BitVec.ofInt (IntKind.bits .i64) 15).toNat:Int)=a % 16:=qcT (k:=4) h0 h rfl (by omega)
theorem qcB {a:Int} (h0:0≤a) (h:a<9223372036854775808):IntKind.wrap .i64 ((BitVec.ofInt (IntKind.bits .i64) a &&& BitVec.ofInt (IntKind.bits .i64) 31).toNat:Int)=a % 32:=qcT (k:=5) h0 h rfl (by omega)
theorem q5B {a:Int} (h0:0≤a) (h:a<9223372036854775808):IntKind.wrap .i64 ((BitVec.ofInt (IntKind.bits .i64) a &&& BitVec.ofInt (IntKind.bits .i64) 63).toNat:Int)=a % 64:=qcT (k:=6) h0 h rfl (by omega)
theorem qdo {x y:Int} (k:Nat) (hx:0≤x) (hk:k<60) (hy:0≤y) (hyk:y<2^k) (hb:x * 2^k<4611686018427387904):IntKind.wrap .i64 ((BitVec.ofInt (IntKind.bits .i64) (x * 2^k) ||| BitVec.ofInt (IntKind.bits .i64) y).toNat:Int)=x * 2^k+y:=by
 have hp:(2:Nat)^k<2^60:=Nat.pow_lt_pow_right (by omega) hk
 have hpi:((2^k:Nat):Int)=(2:Int)^k:=by simp
 obtain ⟨n,rfl⟩ : ∃ n:Nat,x=n:=⟨x.toNat,by omega⟩
 obtain ⟨m,rfl⟩ : ∃ m:Nat,y=m:=⟨y.toNat,by omega⟩
 rw[←hpi] at hyk hb ⊢
 have hm:m<2^k:=by omega
 have hcast:(n:Int) * ((2^k:Nat):Int)=((n * 2^k:Nat):Int):=by simp
 rw[hcast] at hb ⊢
 rw[BitVec.toNat_or,qcE (by omega) (by omega),qcE (by omega) (by omega)]
 simp only[V2]
 rw[Nat.mul_comm n,←Nat.two_pow_add_eq_or_of_lt hm]
 rw[Nat.mul_comm n] at hb
 rw[w64 (by omega) (by omega)]
 simp
theorem q9m {x y:Int} (hx:0≤x) (hx2:x<72057594037927936) (hy:0≤y) (hyk:y<64):IntKind.wrap .i64 ((BitVec.ofInt (IntKind.bits .i64) (x * 64) ||| BitVec.ofInt (IntKind.bits .i64) y).toNat:Int)=x * 64+y:=qdo 6 hx (by omega) hy hyk (by omega)
theorem qiz {y:Int} (hy:0≤y) (hyk:y<128):IntKind.wrap .i64 ((BitVec.ofInt (IntKind.bits .i64) 128 ||| BitVec.ofInt (IntKind.bits .i64) y).toNat:Int)=128+y:=qdo (x:=1) 7 (by omega) (by omega) hy hyk (by omega)
theorem qic {y:Int} (hy:0≤y) (hyk:y<64):IntKind.wrap .i64 ((BitVec.ofInt (IntKind.bits .i64) 192 ||| BitVec.ofInt (IntKind.bits .i64) y).toNat:Int)=192+y:=qdo (x:=3) 6 (by omega) (by omega) hy hyk (by omega)
theorem qio {y:Int} (hy:0≤y) (hyk:y<32):IntKind.wrap .i64 ((BitVec.ofInt (IntKind.bits .i64) 224 ||| BitVec.ofInt (IntKind.bits .i64) y).toNat:Int)=224+y:=qdo (x:=7) 5 (by omega) (by omega) hy hyk (by omega)
theorem qih {y:Int} (hy:0≤y) (hyk:y<16):IntKind.wrap .i64 ((BitVec.ofInt (IntKind.bits .i64) 240 ||| BitVec.ofInt (IntKind.bits .i64) y).toNat:Int)=240+y:=qdo (x:=15) 4 (by omega) (by omega) hy hyk (by omega)
end Ago
set_option maxRecDepth 100000
set_option maxHeartbeats 4000000
namespace Ago
open Go (IntKind)
theorem q37 (n:Int):q6y (.int .u8 n)=some (UInt8.ofNat n.toNat):=(rfl)
def q4g (r:Int):Bool:=decide (0≤r) && decide (r≤1114111) && (decide (r<55296) || decide (57343<r))
theorem qcu (r:Int):q0m C0 93 [.int .i64 r] (.bool (q4g r)):=by
 refine q05 qsR rfl ?_
 unfold q4g
 (repeat' first|simp (disch:=omega) only[go_sem,qsR,enter]|(apply spl<;>intro h<;>try simp (disch:=omega) only[go_sem,qsR,enter,h]))
 all_goals rfl
def ofI (n:Int):UInt8:=UInt8.ofNat n.toNat
def q6l (r:Int):List UInt8 × Int:=
 if q4g r=false then ([],2)
 else if r<128 then ([ofI r],0)
 else if r<2048 then ([ofI (192+r / 64),ofI (128+r % 64)],0)
 else if r<65536 then ([ofI (224+r / 4096),ofI (128+r / 64 % 64),ofI (128+r % 64)],0)
 else ([ofI (240+r / 262144),ofI (128+r / 4096 % 64),ofI (128+r / 64 % 64),ofI (128+r % 64)],0)
theorem pw6:(2:Int)^min 6 (IntKind.bits .i64)=64:=(rfl)
theorem qrm:(2:Int)^min 12 (IntKind.bits .i64)=4096:=(rfl)
theorem qrs:(2:Int)^min 18 (IntKind.bits .i64)=262144:=(rfl)
theorem qrx (a:Int):Int.fdiv a 64=a / 64:=Int.fdiv_eq_ediv_of_nonneg a (by decide)
theorem qbE (a:Int):Int.fdiv a 4096=a / 4096:=Int.fdiv_eq_ediv_of_nonneg a (by decide)
theorem q6b (a:Int):Int.fdiv a 262144=a / 262144:=Int.fdiv_eq_ediv_of_nonneg a (by decide)
theorem qft {r:Int} (h:q4g r=true):0≤r∧r≤1114111:=by
 unfold q4g at h
 simp only[Kk,decide_eq_true_eq] at h
 omega
theorem q6e (r:Int):q0m C0 83 [.int .i64 r] (.tup [.str (q6l r).1,.int .i64 (q6l r).2]):=by
 have hc:=qcu r
 refine q05 qiV rfl ?_
 cases hb:q4g r with
 | false=>
  rw[hb] at hc
  (repeat' first|simp (disch:=omega) only[go_sem,qiV,enter]|refine q00 _ (hc) ?_|(apply spl<;>intro h<;>try simp (disch:=omega) only[go_sem,qiV,enter ,h]))
  all_goals simp [q6l,hb]
 | true=>
  rw[hb] at hc
  obtain ⟨h0,h1⟩:=qft hb
  by_cases h2:r<128
  ·(repeat' first|simp (disch:=omega) only[go_sem,qiV,enter,q37]|refine q00 _ (hc) ?_|(apply spl<;>intro h<;>try simp (disch:=omega) only[go_sem,qiV,enter,q37 ,h]))
   all_goals simp [q6l,hb,h2,ofI]
  ·by_cases h3:r<2048
   ·(repeat' first|simp (disch:=omega) only[go_sem,qiV,enter,q37,pw6,qrm,qrs,qrx,qbE,q6b,q5B,qiz,qic,qio,qih]|refine q00 _ (hc) ?_|(apply spl<;>intro h<;>try simp (disch:=omega) only[go_sem,qiV,enter,q37,pw6,qrm,qrs,qrx,qbE,q6b,q5B,qiz,qic,qio,qih ,h]))
    all_goals simp [q6l,hb,h2,h3,ofI]
   ·by_cases h4:r<65536
    ·(repeat' first|simp (disch:=omega) only[go_sem,qiV,enter,q37,pw6,qrm,qrs,qrx,qbE,q6b,q5B,qiz,qic,qio,qih]|refine q00 _ (hc) ?_|(apply spl<;>intro h<;>try simp (disch:=omega) only[go_sem,qiV,enter,q37,pw6,qrm,qrs,qrx,qbE,q6b,q5B,qiz,qic,qio,qih ,h]))
     all_goals simp [q6l,hb,h2,h3,h4,ofI]
    ·(repeat' first|simp (disch:=omega) only[go_sem,qiV,enter,q37,pw6,qrm,qrs,qrx,qbE,q6b,q5B,qiz,qic,qio,qih]|refine q00 _ (hc) ?_|(apply spl<;>intro h<;>try simp (disch:=omega) only[go_sem,qiV,enter,q37,pw6,qrm,qrs,qrx,qbE,q6b,q5B,qiz,qic,qio,qih ,h]))
     all_goals simp [q6l,hb,h2,h3,h4,ofI]


def q1U (c:UInt8):Bool:=decide (128≤c.toNat) && decide (c.toNat<192)
def q91 (r:Int):Nat:=if r<128 then 1 else if r<2048 then 2 else if r<65536 then 3 else 4
def q1K (r:Int) (n:Nat):Int × Int:=if q4g r && q91 r == n then (r,n) else (0,0)
def qvc (b:UInt8):Option UInt8→Int × Int
 | some c=>if q1U c then q1K ((b.toNat-192) * 64+(c.toNat-128)) 2 else (0,0)
 | none=>(0,0)
def quU (b:UInt8):Option UInt8→Option UInt8→Int × Int
 | some c,some d=>if q1U c && q1U d then q1K (((b.toNat-224) * 64+(c.toNat-128)) * 64+(d.toNat-128)) 3 else (0,0)
 | _,_=>(0,0)
def qvz (b:UInt8):Option UInt8→Option UInt8→Option UInt8→Int × Int
 | some c,some d,some e=>if q1U c && q1U d && q1U e then q1K ((((b.toNat-240) * 64+(c.toNat-128)) * 64+(d.toNat-128)) * 64+(e.toNat-128)) 4 else (0,0)
 | _,_,_=>(0,0)
def q4D (s:List UInt8) (k:Nat) (b:UInt8):Int × Int:=
 if b.toNat<128 then (b.toNat,1)
 else if b.toNat<192 then (0,0)
 else if b.toNat<224 then qvc b s[k+1]?
 else if b.toNat<240 then quU b s[k+1]? s[k+2]?
 else if b.toNat<248 then qvz b s[k+1]? s[k+2]? s[k+3]?
 else (0,0)
def qgx (s:List UInt8) (k:Nat):Int × Int:=
 match s[k]? with
 | some b=>q4D s k b
 | none=>(0,0)

theorem qj5 {s:List UInt8} {k:Nat} {a:UInt8} (h1:s[k]?=some a):(s.take (k+1)).drop k=[a]:=by
 apply Vw
 intro i
 rw[VB]
 match i with
 | 0=>rw[Vg (by omega)]; exact h1
 | i+1=>rw[List.getElem?_take_eq_none (by omega)]; rfl
theorem qis {s:List UInt8} {k:Nat} {a b:UInt8} (h1:s[k]?=some a) (h2:s[k+1]?=some b):(s.take (k+2)).drop k=[a,b]:=by
 apply Vw
 intro i
 rw[VB]
 match i with
 | 0=>rw[Vg (by omega)]; exact h1
 | 1=>rw[Vg (by omega),h2]; rfl
 | i+2=>rw[List.getElem?_take_eq_none (by omega)]; rfl
theorem qi1 {s:List UInt8} {k:Nat} {a b c:UInt8} (h1:s[k]?=some a) (h2:s[k+1]?=some b) (h3:s[k+2]?=some c):(s.take (k+3)).drop k=[a,b,c]:=by
 apply Vw
 intro i
 rw[VB]
 match i with
 | 0=>rw[Vg (by omega)]; exact h1
 | 1=>rw[Vg (by omega),h2]; rfl
 | 2=>rw[Vg (by omega),h3]; rfl
 | i+3=>rw[List.getElem?_take_eq_none (by omega)]; rfl
theorem qiT {s:List UInt8} {k:Nat} {a b c d:UInt8} (h1:s[k]?=some a) (h2:s[k+1]?=some b) (h3:s[k+2]?=some c) (h4:s[k+3]?=some d):(s.take (k+4)).drop k=[a,b,c,d]:=by
 apply Vw
 intro i
 rw[VB]
 match i with
 | 0=>rw[Vg (by omega)]; exact h1
 | 1=>rw[Vg (by omega),h2]; rfl
 | 2=>rw[Vg (by omega),h3]; rfl
 | 3=>rw[Vg (by omega),h4]; rfl
 | i+4=>rw[List.getElem?_take_eq_none (by omega)]; rfl

theorem q5U {n:Int} {c:UInt8} (h0:0≤n) (h:n<256):ofI n=c↔n=c.toNat:=by
 unfold ofI
 constructor
 ·intro h1
  rw[←h1,UInt8.toNat_ofNat']
  omega
 ·intro h1
  rw[h1]
  simp

def q1j (r:Int) (l:List UInt8) (n:Nat):Int × Int:=if (q6l r).2=0∧(q6l r).1=l then (r,n) else (0,0)
theorem qxe (b:UInt8):q1j b.toNat [b] 1=if b.toNat<128 then ((b.toNat:Int),1) else (0,0):=by
 have hb:=b.toNat_lt
 by_cases h:b.toNat<128
 ·have hc:q4g b.toNat=true:=by unfold q4g; simp; omega
  have h1:(b.toNat:Int)<128:=by omega
  have h2:ofI b.toNat=b:=(q5U (by omega) (by omega)).2 rfl
  simp [q1j,q6l,hc,h1,h,h2]
 ·have hc:q4g b.toNat=true:=by unfold q4g; simp; omega
  have h1 : ¬ (b.toNat:Int)<128:=by omega
  have h2:(b.toNat:Int)<2048:=by omega
  simp [q1j,q6l,hc,h1,h,h2]
theorem qaA (b c:UInt8):qvc b (some c)=if q1U c=true then q1K ((b.toNat-192) * 64+(c.toNat-128)) 2 else (0,0):=rfl
theorem q9N (b c d:UInt8):quU b (some c) (some d)=if (q1U c && q1U d)=true then q1K (((b.toNat-224) * 64+(c.toNat-128)) * 64+(d.toNat-128)) 3 else (0,0):=rfl
theorem qap (b c d e:UInt8):qvz b (some c) (some d) (some e)=if (q1U c && q1U d && q1U e)=true then q1K ((((b.toNat-240) * 64+(c.toNat-128)) * 64+(d.toNat-128)) * 64+(e.toNat-128)) 4 else (0,0):=rfl
theorem q15 {c:UInt8}:q1U c=true↔128≤c.toNat∧c.toNat<192:=by unfold q1U; simp
theorem qxh {b c:UInt8} (hb:192≤b.toNat) (hb2:b.toNat<224):q1j ((b.toNat:Int) % 32 * 64+(c.toNat:Int) % 64) [b,c] 2=qvc b (some c):=by
 have hc:=c.toNat_lt
 obtain ⟨r,hr⟩ : ∃ r:Int,r=(b.toNat:Int) % 32 * 64+(c.toNat:Int) % 64:=⟨_,rfl⟩
 rw[←hr]
 have hcm:q4g r=true:=by unfold q4g; simp; omega
 have e1:ofI (192+r / 64)=b:=(q5U (by omega) (by omega)).2 (by omega)
 have e2:ofI (128+r % 64)=c↔q1U c=true:=by rw[q5U (by omega) (by omega),q15]; omega
 rw[qaA]
 cases hcc:q1U c with
 | true=>
  rw[hcc] at e2
  have hcc':=q15.1 hcc
  have er:((b.toNat:Int)-192) * 64+((c.toNat:Int)-128)=r:=by omega
  rw[er]
  by_cases h1:r<128
  ·simp [q1j,q6l,q1K,q91,hcm,h1]
  ·have h2:r<2048:=by omega
   simp [q1j,q6l,q1K,q91,hcm,h1,h2,e1,e2]
 | false=>
  rw[hcc] at e2
  by_cases h1:r<128
  ·simp [q1j,q6l,hcm,h1]
  ·have h2:r<2048:=by omega
   simp [q1j,q6l,hcm,h1,h2,e1,e2]
theorem qxd {b c d:UInt8} (hb:224≤b.toNat) (hb2:b.toNat<240):q1j (((b.toNat:Int) % 16 * 64+(c.toNat:Int) % 64) * 64+(d.toNat:Int) % 64) [b,c,d] 3=quU b (some c) (some d):=by
 have hc:=c.toNat_lt
 have hd:=d.toNat_lt
 obtain ⟨r,hr⟩ : ∃ r:Int,r=((b.toNat:Int) % 16 * 64+(c.toNat:Int) % 64) * 64+(d.toNat:Int) % 64:=⟨_,rfl⟩
 rw[←hr]
 have e1:ofI (224+r / 4096)=b:=(q5U (by omega) (by omega)).2 (by omega)
 have e2:ofI (128+r / 64 % 64)=c↔q1U c=true:=by rw[q5U (by omega) (by omega),q15]; omega
 have e3:ofI (128+r % 64)=d↔q1U d=true:=by rw[q5U (by omega) (by omega),q15]; omega
 have h65:r<65536:=by omega
 have er:q1U c=true→q1U d=true→(((b.toNat:Int)-224) * 64+((c.toNat:Int)-128)) * 64+((d.toNat:Int)-128)=r:=fun h1 h2=>by
  have:=q15.1 h1
  have:=q15.1 h2
  omega
 rw[q9N]
 cases hcm:q4g r with
 | false=>
  have e0:q1j r [b,c,d] 3=(0,0):=by simp [q1j,q6l,hcm]
  rw[e0]
  split
  ·rename_i h
   simp only[Kk] at h
   rw[er h.1 h.2]
   simp [q1K,hcm]
  ·rfl
 | true=>
  by_cases h1:r<128
  ·have e0:q1j r [b,c,d] 3=(0,0):=by simp [q1j,q6l,hcm,h1]
   rw[e0]
   split
   ·rename_i h
    simp only[Kk] at h
    rw[er h.1 h.2]
    simp [q1K,q91,h1]
   ·rfl
  ·by_cases h2:r<2048
   ·have e0:q1j r [b,c,d] 3=(0,0):=by simp [q1j,q6l,hcm,h1,h2]
    rw[e0]
    split
    ·rename_i h
     simp only[Kk] at h
     rw[er h.1 h.2]
     simp [q1K,q91,h1,h2]
    ·rfl
   ·split
    ·rename_i h
     simp only[Kk] at h
     rw[er h.1 h.2]
     rw[h.1] at e2
     rw[h.2] at e3
     simp [q1j,q6l,q1K,q91,hcm,h1,h2,h65,e1,e2,e3]
    ·rename_i h
     simp only[Kk] at h
     have hne : ¬ (ofI (128+r / 64 % 64)=c∧ofI (128+r % 64)=d):=fun h3=>h ⟨e2.1 h3.1,e3.1 h3.2⟩
     simp only[q1j,q6l,hcm,h1,h2,h65,if_true,if_false,e1,List.cons.injEq,true_and,and_true,Vb,hne]
theorem qxi {b c d e:UInt8} (hb:240≤b.toNat) (hb2:b.toNat<248):q1j ((((b.toNat:Int) % 8 * 64+(c.toNat:Int) % 64) * 64+(d.toNat:Int) % 64) * 64+(e.toNat:Int) % 64) [b,c,d,e] 4=qvz b (some c) (some d) (some e):=by
 have hc:=c.toNat_lt
 have hd:=d.toNat_lt
 have he:=e.toNat_lt
 obtain ⟨r,hr⟩ : ∃ r:Int,r=(((b.toNat:Int) % 8 * 64+(c.toNat:Int) % 64) * 64+(d.toNat:Int) % 64) * 64+(e.toNat:Int) % 64:=⟨_,rfl⟩
 rw[←hr]
 have e1:ofI (240+r / 262144)=b:=(q5U (by omega) (by omega)).2 (by omega)
 have e2:ofI (128+r / 4096 % 64)=c↔q1U c=true:=by rw[q5U (by omega) (by omega),q15]; omega
 have e3:ofI (128+r / 64 % 64)=d↔q1U d=true:=by rw[q5U (by omega) (by omega),q15]; omega
 have e4:ofI (128+r % 64)=e↔q1U e=true:=by rw[q5U (by omega) (by omega),q15]; omega
 have er:q1U c=true→q1U d=true→q1U e=true→((((b.toNat:Int)-240) * 64+((c.toNat:Int)-128)) * 64+((d.toNat:Int)-128)) * 64+((e.toNat:Int)-128)=r:=fun h1 h2 h3=>by
  have:=q15.1 h1
  have:=q15.1 h2
  have:=q15.1 h3
  omega
 rw[qap]
 cases hcm:q4g r with
 | false=>
  have e0:q1j r [b,c,d,e] 4=(0,0):=by simp [q1j,q6l,hcm]
  rw[e0]
  split
  ·rename_i h
   simp only[Kk] at h
   rw[er h.1.1 h.1.2 h.2]
   simp [q1K,hcm]
  ·rfl
 | true=>
  by_cases h1:r<65536
  ·have e0:q1j r [b,c,d,e] 4=(0,0):=by
    by_cases h2:r<128
    ·simp [q1j,q6l,hcm,h2]
    ·by_cases h3:r<2048
     ·simp [q1j,q6l,hcm,h2,h3]
     ·simp [q1j,q6l,hcm,h1,h2,h3]
   rw[e0]
   have hw : ¬ q91 r=4:=by
    unfold q91
    split
    ·decide
    ·split
     ·decide
     ·decide
   split
   ·rename_i h
    simp only[Kk] at h
    rw[er h.1.1 h.1.2 h.2]
    simp [q1K,hw]
   ·rfl
  ·have h2 : ¬ r<128:=by omega
   have h3 : ¬ r<2048:=by omega
   split
   ·rename_i h
    simp only[Kk] at h
    rw[er h.1.1 h.1.2 h.2]
    rw[h.1.1] at e2
    rw[h.1.2] at e3
    rw[h.2] at e4
    simp [q1j,q6l,q1K,q91,hcm,h1,h2,h3,e1,e2,e3,e4]
   ·rename_i h
    simp only[Kk] at h
    have hne : ¬ (ofI (128+r / 4096 % 64)=c∧ofI (128+r / 64 % 64)=d∧ofI (128+r % 64)=e):=fun h4=>h ⟨⟨e2.1 h4.1,e3.1 h4.2.1⟩,e4.1 h4.2.2⟩
    simp only[q1j,q6l,hcm,h1,h2,h3,if_true,if_false,e1,List.cons.injEq,true_and,and_true,Vb,hne]
theorem qwZ {b c d e:UInt8} (hb:248≤b.toNat) (r:Int) (h0:0≤r) (h:r<2097152):q1j r [b,c,d,e] 4=(0,0):=by
 have e1:ofI (240+r / 262144)≠b:=fun e=>by
  rw[q5U (by omega) (by omega)] at e
  omega
 have hne : ¬ ((q6l r).2=0∧(q6l r).1=[b,c,d,e]):=fun h2=>by
  unfold q6l at h2
  split at h2
  ·exact absurd h2.1 (by decide)
  ·split at h2
   ·exact absurd h2.2 (by simp)
   ·split at h2
    ·exact absurd h2.2 (by simp)
    ·split at h2
     ·exact absurd h2.2 (by simp)
     ·have h3:=h2.2
      simp only[List.cons.injEq] at h3
      exact e1 h3.1
 unfold q1j
 rw[if_neg hne]
end Ago
set_option maxRecDepth 100000
set_option maxHeartbeats 4000000
namespace Ago
open Go (IntKind)
def q2h (a b c d:Int) (i:Nat):Int:=if i=1 then a else if i=2 then b else if i=3 then c else d
theorem c1':((1:Nat):Int)=1:=rfl
theorem c2':((2:Nat):Int)=2:=rfl
theorem c3':((3:Nat):Int)=3:=rfl
theorem c4':((4:Nat):Int)=4:=rfl
theorem qiF (s:List UInt8) (k:Nat) (hs:s.length<2^31) (hk:k<s.length):q0m C0 60 [.str s,.int .i64 k] (.tup [.int .i64 (qgx s k).1,.int .i64 (qgx s k).2]):=by
 obtain ⟨b,hb⟩:=q08 hk
 have hbt:=b.toNat_lt
 have hdm:qgx s k=q4D s k b:=by unfold qgx; rw[hb]
 have hkn:(k:Int).toNat=k:=rfl
 rw[hdm]
 refine q05 qhl rfl ?_
 by_cases h1:b.toNat<192
 ·have hi1:(b.toNat:Int)<192:=by omega
  (repeat' first|simp (disch:=omega) only[go_sem,qhl,enter,hb,hkn]|(apply spl<;>intro h<;>try simp (disch:=omega) only[go_sem,qhl,enter,hb,hkn,h]))
  refine q0a (α:=Unit) (fun _=>{ tmps:=q0i 80 [(0,.str s),(1,.int .i64 k),(7,.int .i64 1),(8,.int .i64 b.toNat),(9,.int .i64 1)],heap:=[],base:=0 }) (fun _=>True) (fun _=>0) () rfl trivial ?_
  rintro _ _
  obtain ⟨r,hr⟩ : ∃ r:Int,r=(b.toNat:Int):=⟨_,rfl⟩
  obtain ⟨l,hl⟩ : ∃ l:List UInt8,l=[b]:=⟨_,rfl⟩
  have hsl:=qj5 hb
  have hkn2:((k:Int)+1).toNat=k+1:=by omega
  have hfin:q4D s k b=q1j r l 1:=by
   rw[hr,hl,qxe]
   unfold q4D
   repeat' split
   all_goals first | rfl | omega
  unfold q1j at hfin
  have he:=q6e r
  rw[←hr]
  generalize q6l r=te at he hfin
  obtain ⟨t,e0⟩:=te
  simp only at he hfin
  by_cases h1:e0=0
  ·by_cases h2:t=l
   ·have hb2:(t == l)=true:=by simpa using h2
    subst h1
    rw[if_pos ⟨rfl,h2⟩] at hfin
    rw[hfin]
    rw[hl] at hb2
    (repeat' first|simp (disch:=omega) only[go_sem,hkn,hkn2,hsl,hb2]|refine q00 _ (he) ?_)
   ·have hb2:(t == l)=false:=by simpa using h2
    subst h1
    rw[if_neg (fun h=>h2 h.2)] at hfin
    rw[hfin]
    rw[hl] at hb2
    (repeat' first|simp (disch:=omega) only[go_sem,hkn,hkn2,hsl,hb2]|refine q00 _ (he) ?_)
  ·rw[if_neg (fun h=>h1 h.1)] at hfin
   rw[hfin]
   (repeat' first|simp (disch:=omega) only[go_sem,hkn,h1]|refine q00 _ (he) ?_)
 by_cases g2:192≤b.toNat∧b.toNat<224
 ·obtain ⟨g1,g2⟩:=g2
  have gi1:192≤(b.toNat:Int):=by omega
  have gi2:(b.toNat:Int)<224:=by omega
  by_cases hlen:s.length<k+2
  ·have hnone:s[k+1]?=none:=KQ (by omega)
   have hdec:q4D s k b=(0,0):=by
    unfold q4D
    repeat' split
    all_goals first | rfl | omega | (rw[hnone]; first | rfl | (cases s[k+1]?<;>first | rfl | (cases s[k+2]?<;>rfl)))
   rw[hdec]
   (repeat' first|simp (disch:=omega) only[go_sem,qhl,enter,hb,hkn,qnm,qcQ,qcB])
  ·obtain ⟨c,hc⟩:=q08 (s:=s) (k:=k+1) (by omega)
   have ct:=c.toNat_lt
   have kn1:((k:Int)+1).toNat=k+1:=by omega
   (repeat' first|simp (disch:=omega) only[go_sem,qhl,enter,hb,hkn,qnm,qcQ,qcB]|(apply spl<;>intro h<;>try simp (disch:=omega) only[go_sem,qhl,enter,hb,hkn,qnm,qcQ,qcB,h]))
   refine q0a (α:=Nat) (fun i=>{ tmps:=q0i 80 [(0,.str s),(1,.int .i64 k),(7,.int .i64 2),(8,.int .i64 (q2h ((b.toNat:Int) % 32) (((b.toNat:Int) % 32) * 64+(c.toNat:Int) % 64) 0 0 i)),(9,.int .i64 i)],heap:=[],base:=0 }) (fun i=>1≤i∧i≤2) (fun i=>2-i) 1 rfl (by omega) ?_
   rintro i ⟨hi1,hi2⟩
   rcases (by omega:i=1∨i=2) with rfl | rfl
   ·have hp:q2h ((b.toNat:Int) % 32) (((b.toNat:Int) % 32) * 64+(c.toNat:Int) % 64) 0 0 1=((b.toNat:Int) % 32):=rfl
    have hq:q2h ((b.toNat:Int) % 32) (((b.toNat:Int) % 32) * 64+(c.toNat:Int) % 64) 0 0 2=(((b.toNat:Int) % 32) * 64+(c.toNat:Int) % 64):=rfl
    rw[hp]
    (repeat' first|simp (disch:=omega) only[go_sem,hkn,kn1,hc,pw6,q5B,q9m,c1',c2',c3',c4']|(apply spl<;>intro h<;>try simp (disch:=omega) only[go_sem,hkn,kn1,hc,pw6,q5B,q9m,c1',c2',c3',c4',h]))
    exact ⟨2,by rw[hq]; rfl,by omega,by omega⟩
   ·have hp:q2h ((b.toNat:Int) % 32) (((b.toNat:Int) % 32) * 64+(c.toNat:Int) % 64) 0 0 2=(((b.toNat:Int) % 32) * 64+(c.toNat:Int) % 64):=rfl
    rw[hp]
    obtain ⟨r,hr⟩ : ∃ r:Int,r=(((b.toNat:Int) % 32) * 64+(c.toNat:Int) % 64):=⟨_,rfl⟩
    obtain ⟨l,hl⟩ : ∃ l:List UInt8,l=[b,c]:=⟨_,rfl⟩
    have hsl:=qis hb hc
    have hkn2:((k:Int)+2).toNat=k+2:=by omega
    have hfin:q4D s k b=q1j r l 2:=by
     rw[hr,hl]
     rw[qxh g1 g2]
     unfold q4D
     repeat' split
     all_goals first | omega | (rw[hc])
    unfold q1j at hfin
    have he:=q6e r
    rw[←hr]
    generalize q6l r=te at he hfin
    obtain ⟨t,e0⟩:=te
    simp only at he hfin
    by_cases h1:e0=0
    ·by_cases h2:t=l
     ·have hb2:(t == l)=true:=by simpa using h2
      subst h1
      rw[if_pos ⟨rfl,h2⟩] at hfin
      rw[hfin]
      rw[hl] at hb2
      (repeat' first|simp (disch:=omega) only[go_sem,hkn,hkn2,hsl,hb2]|refine q00 _ (he) ?_)
     ·have hb2:(t == l)=false:=by simpa using h2
      subst h1
      rw[if_neg (fun h=>h2 h.2)] at hfin
      rw[hfin]
      rw[hl] at hb2
      (repeat' first|simp (disch:=omega) only[go_sem,hkn,hkn2,hsl,hb2]|refine q00 _ (he) ?_)
    ·rw[if_neg (fun h=>h1 h.1)] at hfin
     rw[hfin]
     (repeat' first|simp (disch:=omega) only[go_sem,hkn,h1]|refine q00 _ (he) ?_)
 by_cases g3:224≤b.toNat∧b.toNat<240
 ·obtain ⟨g1,g2⟩:=g3
  have gi1:224≤(b.toNat:Int):=by omega
  have gi2:(b.toNat:Int)<240:=by omega
  by_cases hlen:s.length<k+3
  ·have hnone:s[k+2]?=none:=KQ (by omega)
   have hdec:q4D s k b=(0,0):=by
    unfold q4D
    repeat' split
    all_goals first | rfl | omega | (rw[hnone]; first | rfl | (cases s[k+1]?<;>first | rfl | (cases s[k+2]?<;>rfl)))
   rw[hdec]
   (repeat' first|simp (disch:=omega) only[go_sem,qhl,enter,hb,hkn,qnm,qcQ,qcB])
  ·obtain ⟨c,hc⟩:=q08 (s:=s) (k:=k+1) (by omega)
   have ct:=c.toNat_lt
   have kn1:((k:Int)+1).toNat=k+1:=by omega
   obtain ⟨d,hd⟩:=q08 (s:=s) (k:=k+2) (by omega)
   have dt:=d.toNat_lt
   have kn2:((k:Int)+2).toNat=k+2:=by omega
   (repeat' first|simp (disch:=omega) only[go_sem,qhl,enter,hb,hkn,qnm,qcQ,qcB]|(apply spl<;>intro h<;>try simp (disch:=omega) only[go_sem,qhl,enter,hb,hkn,qnm,qcQ,qcB,h]))
   refine q0a (α:=Nat) (fun i=>{ tmps:=q0i 80 [(0,.str s),(1,.int .i64 k),(7,.int .i64 3),(8,.int .i64 (q2h ((b.toNat:Int) % 16) (((b.toNat:Int) % 16) * 64+(c.toNat:Int) % 64) ((((b.toNat:Int) % 16) * 64+(c.toNat:Int) % 64) * 64+(d.toNat:Int) % 64) 0 i)),(9,.int .i64 i)],heap:=[],base:=0 }) (fun i=>1≤i∧i≤3) (fun i=>3-i) 1 rfl (by omega) ?_
   rintro i ⟨hi1,hi2⟩
   rcases (by omega:i=1∨i=2∨i=3) with rfl | rfl | rfl
   ·have hp:q2h ((b.toNat:Int) % 16) (((b.toNat:Int) % 16) * 64+(c.toNat:Int) % 64) ((((b.toNat:Int) % 16) * 64+(c.toNat:Int) % 64) * 64+(d.toNat:Int) % 64) 0 1=((b.toNat:Int) % 16):=rfl
    have hq:q2h ((b.toNat:Int) % 16) (((b.toNat:Int) % 16) * 64+(c.toNat:Int) % 64) ((((b.toNat:Int) % 16) * 64+(c.toNat:Int) % 64) * 64+(d.toNat:Int) % 64) 0 2=(((b.toNat:Int) % 16) * 64+(c.toNat:Int) % 64):=rfl
    rw[hp]
    (repeat' first|simp (disch:=omega) only[go_sem,hkn,kn1,hc,pw6,q5B,q9m,c1',c2',c3',c4']|(apply spl<;>intro h<;>try simp (disch:=omega) only[go_sem,hkn,kn1,hc,pw6,q5B,q9m,c1',c2',c3',c4',h]))
    exact ⟨2,by rw[hq]; rfl,by omega,by omega⟩
   ·have hp:q2h ((b.toNat:Int) % 16) (((b.toNat:Int) % 16) * 64+(c.toNat:Int) % 64) ((((b.toNat:Int) % 16) * 64+(c.toNat:Int) % 64) * 64+(d.toNat:Int) % 64) 0 2=(((b.toNat:Int) % 16) * 64+(c.toNat:Int) % 64):=rfl
    have hq:q2h ((b.toNat:Int) % 16) (((b.toNat:Int) % 16) * 64+(c.toNat:Int) % 64) ((((b.toNat:Int) % 16) * 64+(c.toNat:Int) % 64) * 64+(d.toNat:Int) % 64) 0 3=((((b.toNat:Int) % 16) * 64+(c.toNat:Int) % 64) * 64+(d.toNat:Int) % 64):=rfl
    rw[hp]
    (repeat' first|simp (disch:=omega) only[go_sem,hkn,kn2,hd,pw6,q5B,q9m,c1',c2',c3',c4']|(apply spl<;>intro h<;>try simp (disch:=omega) only[go_sem,hkn,kn2,hd,pw6,q5B,q9m,c1',c2',c3',c4',h]))
    exact ⟨3,by rw[hq]; rfl,by omega,by omega⟩
   ·have hp:q2h ((b.toNat:Int) % 16) (((b.toNat:Int) % 16) * 64+(c.toNat:Int) % 64) ((((b.toNat:Int) % 16) * 64+(c.toNat:Int) % 64) * 64+(d.toNat:Int) % 64) 0 3=((((b.toNat:Int) % 16) * 64+(c.toNat:Int) % 64) * 64+(d.toNat:Int) % 64):=rfl
    rw[hp]
    obtain ⟨r,hr⟩ : ∃ r:Int,r=((((b.toNat:Int) % 16) * 64+(c.toNat:Int) % 64) * 64+(d.toNat:Int) % 64):=⟨_,rfl⟩
    obtain ⟨l,hl⟩ : ∃ l:List UInt8,l=[b,c,d]:=⟨_,rfl⟩
    have hsl:=qi1 hb hc hd
    have hkn2:((k:Int)+3).toNat=k+3:=by omega
    have hfin:q4D s k b=q1j r l 3:=by
     rw[hr,hl]
     rw[qxd g1 g2]
     unfold q4D
     repeat' split
     all_goals first | omega | (rw[hc,hd])
    unfold q1j at hfin
    have he:=q6e r
    rw[←hr]
    generalize q6l r=te at he hfin
    obtain ⟨t,e0⟩:=te
    simp only at he hfin
    by_cases h1:e0=0
    ·by_cases h2:t=l
     ·have hb2:(t == l)=true:=by simpa using h2
      subst h1
      rw[if_pos ⟨rfl,h2⟩] at hfin
      rw[hfin]
      rw[hl] at hb2
      (repeat' first|simp (disch:=omega) only[go_sem,hkn,hkn2,hsl,hb2]|refine q00 _ (he) ?_)
     ·have hb2:(t == l)=false:=by simpa using h2
      subst h1
      rw[if_neg (fun h=>h2 h.2)] at hfin
      rw[hfin]
      rw[hl] at hb2
      (repeat' first|simp (disch:=omega) only[go_sem,hkn,hkn2,hsl,hb2]|refine q00 _ (he) ?_)
    ·rw[if_neg (fun h=>h1 h.1)] at hfin
     rw[hfin]
     (repeat' first|simp (disch:=omega) only[go_sem,hkn,h1]|refine q00 _ (he) ?_)
 by_cases g4:240≤b.toNat∧b.toNat<256
 ·obtain ⟨g1,g2⟩:=g4
  have gi1:240≤(b.toNat:Int):=by omega
  have gi2:(b.toNat:Int)<256:=by omega
  by_cases hlen:s.length<k+4
  ·have hnone:s[k+3]?=none:=KQ (by omega)
   have hdec:q4D s k b=(0,0):=by
    unfold q4D
    repeat' split
    all_goals first | rfl | omega | (rw[hnone]; first | rfl | (cases s[k+1]?<;>first | rfl | (cases s[k+2]?<;>rfl)))
   rw[hdec]
   (repeat' first|simp (disch:=omega) only[go_sem,qhl,enter,hb,hkn,qnm,qcQ,qcB])
  ·obtain ⟨c,hc⟩:=q08 (s:=s) (k:=k+1) (by omega)
   have ct:=c.toNat_lt
   have kn1:((k:Int)+1).toNat=k+1:=by omega
   obtain ⟨d,hd⟩:=q08 (s:=s) (k:=k+2) (by omega)
   have dt:=d.toNat_lt
   have kn2:((k:Int)+2).toNat=k+2:=by omega
   obtain ⟨e,he⟩:=q08 (s:=s) (k:=k+3) (by omega)
   have et:=e.toNat_lt
   have kn3:((k:Int)+3).toNat=k+3:=by omega
   (repeat' first|simp (disch:=omega) only[go_sem,qhl,enter,hb,hkn,qnm,qcQ,qcB]|(apply spl<;>intro h<;>try simp (disch:=omega) only[go_sem,qhl,enter,hb,hkn,qnm,qcQ,qcB,h]))
   refine q0a (α:=Nat) (fun i=>{ tmps:=q0i 80 [(0,.str s),(1,.int .i64 k),(7,.int .i64 4),(8,.int .i64 (q2h ((b.toNat:Int) % 8) (((b.toNat:Int) % 8) * 64+(c.toNat:Int) % 64) ((((b.toNat:Int) % 8) * 64+(c.toNat:Int) % 64) * 64+(d.toNat:Int) % 64) (((((b.toNat:Int) % 8) * 64+(c.toNat:Int) % 64) * 64+(d.toNat:Int) % 64) * 64+(e.toNat:Int) % 64) i)),(9,.int .i64 i)],heap:=[],base:=0 }) (fun i=>1≤i∧i≤4) (fun i=>4-i) 1 rfl (by omega) ?_
   rintro i ⟨hi1,hi2⟩
   rcases (by omega:i=1∨i=2∨i=3∨i=4) with rfl | rfl | rfl | rfl
   ·have hp:q2h ((b.toNat:Int) % 8) (((b.toNat:Int) % 8) * 64+(c.toNat:Int) % 64) ((((b.toNat:Int) % 8) * 64+(c.toNat:Int) % 64) * 64+(d.toNat:Int) % 64) (((((b.toNat:Int) % 8) * 64+(c.toNat:Int) % 64) * 64+(d.toNat:Int) % 64) * 64+(e.toNat:Int) % 64) 1=((b.toNat:Int) % 8):=rfl
    have hq:q2h ((b.toNat:Int) % 8) (((b.toNat:Int) % 8) * 64+(c.toNat:Int) % 64) ((((b.toNat:Int) % 8) * 64+(c.toNat:Int) % 64) * 64+(d.toNat:Int) % 64) (((((b.toNat:Int) % 8) * 64+(c.toNat:Int) % 64) * 64+(d.toNat:Int) % 64) * 64+(e.toNat:Int) % 64) 2=(((b.toNat:Int) % 8) * 64+(c.toNat:Int) % 64):=rfl
    rw[hp]
    (repeat' first|simp (disch:=omega) only[go_sem,hkn,kn1,hc,pw6,q5B,q9m,c1',c2',c3',c4']|(apply spl<;>intro h<;>try simp (disch:=omega) only[go_sem,hkn,kn1,hc,pw6,q5B,q9m,c1',c2',c3',c4',h]))
    exact ⟨2,by rw[hq]; rfl,by omega,by omega⟩
   ·have hp:q2h ((b.toNat:Int) % 8) (((b.toNat:Int) % 8) * 64+(c.toNat:Int) % 64) ((((b.toNat:Int) % 8) * 64+(c.toNat:Int) % 64) * 64+(d.toNat:Int) % 64) (((((b.toNat:Int) % 8) * 64+(c.toNat:Int) % 64) * 64+(d.toNat:Int) % 64) * 64+(e.toNat:Int) % 64) 2=(((b.toNat:Int) % 8) * 64+(c.toNat:Int) % 64):=rfl
    have hq:q2h ((b.toNat:Int) % 8) (((b.toNat:Int) % 8) * 64+(c.toNat:Int) % 64) ((((b.toNat:Int) % 8) * 64+(c.toNat:Int) % 64) * 64+(d.toNat:Int) % 64) (((((b.toNat:Int) % 8) * 64+(c.toNat:Int) % 64) * 64+(d.toNat:Int) % 64) * 64+(e.toNat:Int) % 64) 3=((((b.toNat:Int) % 8) * 64+(c.toNat:Int) % 64) * 64+(d.toNat:Int) % 64):=rfl
    rw[hp]
    (repeat' first|simp (disch:=omega) only[go_sem,hkn,kn2,hd,pw6,q5B,q9m,c1',c2',c3',c4']|(apply spl<;>intro h<;>try simp (disch:=omega) only[go_sem,hkn,kn2,hd,pw6,q5B,q9m,c1',c2',c3',c4',h]))
    exact ⟨3,by rw[hq]; rfl,by omega,by omega⟩
   ·have hp:q2h ((b.toNat:Int) % 8) (((b.toNat:Int) % 8) * 64+(c.toNat:Int) % 64) ((((b.toNat:Int) % 8) * 64+(c.toNat:Int) % 64) * 64+(d.toNat:Int) % 64) (((((b.toNat:Int) % 8) * 64+(c.toNat:Int) % 64) * 64+(d.toNat:Int) % 64) * 64+(e.toNat:Int) % 64) 3=((((b.toNat:Int) % 8) * 64+(c.toNat:Int) % 64) * 64+(d.toNat:Int) % 64):=rfl
    have hq:q2h ((b.toNat:Int) % 8) (((b.toNat:Int) % 8) * 64+(c.toNat:Int) % 64) ((((b.toNat:Int) % 8) * 64+(c.toNat:Int) % 64) * 64+(d.toNat:Int) % 64) (((((b.toNat:Int) % 8) * 64+(c.toNat:Int) % 64) * 64+(d.toNat:Int) % 64) * 64+(e.toNat:Int) % 64) 4=(((((b.toNat:Int) % 8) * 64+(c.toNat:Int) % 64) * 64+(d.toNat:Int) % 64) * 64+(e.toNat:Int) % 64):=rfl
    rw[hp]
    (repeat' first|simp (disch:=omega) only[go_sem,hkn,kn3,he,pw6,q5B,q9m,c1',c2',c3',c4']|(apply spl<;>intro h<;>try simp (disch:=omega) only[go_sem,hkn,kn3,he,pw6,q5B,q9m,c1',c2',c3',c4',h]))
    exact ⟨4,by rw[hq]; rfl,by omega,by omega⟩
   ·have hp:q2h ((b.toNat:Int) % 8) (((b.toNat:Int) % 8) * 64+(c.toNat:Int) % 64) ((((b.toNat:Int) % 8) * 64+(c.toNat:Int) % 64) * 64+(d.toNat:Int) % 64) (((((b.toNat:Int) % 8) * 64+(c.toNat:Int) % 64) * 64+(d.toNat:Int) % 64) * 64+(e.toNat:Int) % 64) 4=(((((b.toNat:Int) % 8) * 64+(c.toNat:Int) % 64) * 64+(d.toNat:Int) % 64) * 64+(e.toNat:Int) % 64):=rfl
    rw[hp]
    obtain ⟨r,hr⟩ : ∃ r:Int,r=(((((b.toNat:Int) % 8) * 64+(c.toNat:Int) % 64) * 64+(d.toNat:Int) % 64) * 64+(e.toNat:Int) % 64):=⟨_,rfl⟩
    obtain ⟨l,hl⟩ : ∃ l:List UInt8,l=[b,c,d,e]:=⟨_,rfl⟩
    have hsl:=qiT hb hc hd he
    have hkn2:((k:Int)+4).toNat=k+4:=by omega
    have hfin:q4D s k b=q1j r l 4:=by
     rw[hr,hl]
     by_cases g5:b.toNat<248
     ·rw[qxi g1 g5]
      unfold q4D
      repeat' split
      all_goals first | omega | (rw[hc,hd,he])
     ·rw[qwZ (by omega) _ (by omega) (by omega)]
      unfold q4D
      repeat' split
      all_goals first | omega | rfl
    unfold q1j at hfin
    have he:=q6e r
    rw[←hr]
    generalize q6l r=te at he hfin
    obtain ⟨t,e0⟩:=te
    simp only at he hfin
    by_cases h1:e0=0
    ·by_cases h2:t=l
     ·have hb2:(t == l)=true:=by simpa using h2
      subst h1
      rw[if_pos ⟨rfl,h2⟩] at hfin
      rw[hfin]
      rw[hl] at hb2
      (repeat' first|simp (disch:=omega) only[go_sem,hkn,hkn2,hsl,hb2]|refine q00 _ (he) ?_)
     ·have hb2:(t == l)=false:=by simpa using h2
      subst h1
      rw[if_neg (fun h=>h2 h.2)] at hfin
      rw[hfin]
      rw[hl] at hb2
      (repeat' first|simp (disch:=omega) only[go_sem,hkn,hkn2,hsl,hb2]|refine q00 _ (he) ?_)
    ·rw[if_neg (fun h=>h1 h.1)] at hfin
     rw[hfin]
     (repeat' first|simp (disch:=omega) only[go_sem,hkn,h1]|refine q00 _ (he) ?_)
 omega
end Ago
set_option maxRecDepth 100000
set_option maxHeartbeats 4000000
namespace Ago
open Go (IntKind)
theorem qfH {r:Int} {n:Nat}:(q1K r n).2=0∨(q1K r n).2=n:=by
 unfold q1K
 split
 ·exact .inr rfl
 ·exact .inl rfl
theorem q9T (s:List UInt8) (k:Nat) : ∃ n:Nat,(qgx s k).2=n∧(n=0∨k+n≤s.length):=by
 have get_lt : ∀ {j:Nat} {c:UInt8},s[j]?=some c→j<s.length:=fun h=>(Ks.1 h).1
 have zero : ∃ n:Nat,(((0,0):Int × Int)).2=n∧(n=0∨k+n≤s.length):=⟨0,rfl,.inl rfl⟩
 have fin : ∀ (r:Int) (m:Nat),k+m≤s.length→∃ n:Nat,(q1K r m).2=n∧(n=0∨k+n≤s.length):=fun r m h=>by
  rcases qfH (r:=r) (n:=m) with e | e
  ·exact ⟨0,e,.inl rfl⟩
  ·exact ⟨m,e,.inr h⟩
 unfold qgx
 cases hb:s[k]? with
 | none=>exact zero
 | some b=>
  have:=get_lt hb
  simp only
  unfold q4D
  split
  ·exact ⟨1,rfl,.inr (by omega)⟩
  ·split
   ·exact zero
   ·split
    ·cases hc:s[k+1]? with
     | none=>exact zero
     | some c=>
      have:=get_lt hc
      rw[qaA]
      split
      ·exact fin _ _ (by omega)
      ·exact zero
    ·split
     ·cases hc:s[k+1]? with
      | none=>exact zero
      | some c=>
       cases hd:s[k+2]? with
       | none=>exact zero
       | some d=>
        have:=get_lt hd
        rw[q9N]
        split
        ·exact fin _ _ (by omega)
        ·exact zero
     ·split
      ·cases hc:s[k+1]? with
       | none=>exact zero
       | some c=>
        cases hd:s[k+2]? with
        | none=>exact zero
        | some d=>
         cases he:s[k+3]? with
         | none=>exact zero
         | some e=>
          have:=get_lt he
          rw[qap]
          split
          ·exact fin _ _ (by omega)
          ·exact zero
      ·exact zero

def q79 (s:List UInt8):Nat→Nat→Bool
 | 0,_=>true
 | f+1,k=>if s.length≤k then true else if (qgx s k).2=0 then false else q79 s f (k+(qgx s k).2.toNat)
def utf (s:List UInt8):Bool:=q79 s (s.length+1) 0
theorem qbA (s:List UInt8) : ∀ (f g k:Nat),s.length-k<f→s.length-k<g→q79 s f k=q79 s g k
 | 0,_,_,h,_=>by omega
 | _,0,_,_,h=>by omega
 | f+1,g+1,k,h1,h2=>by
  obtain ⟨n,hn,h⟩:=q9T s k
  simp only[q79]
  split
  ·rfl
  ·split
   ·rfl
   ·exact qbA s f g _ (by omega) (by omega)
theorem qht {s:List UInt8} {k:Nat} (h:s.length≤k):q79 s (s.length-k+1) k=true:=by
 simp only[q79]
 rw[if_pos h]
theorem qdQ {s:List UInt8} {k:Nat} (h:k<s.length) (h0:(qgx s k).2=0):q79 s (s.length-k+1) k=false:=by
 simp only[q79]
 rw[if_neg (by omega),if_pos h0]
theorem qee {s:List UInt8} {k n:Nat} (h:k<s.length) (hn:(qgx s k).2=n) (h0:n≠0):q79 s (s.length-k+1) k=q79 s (s.length-(k+n)+1) (k+n):=by
 conv=>lhs; simp only[q79]
 rw[if_neg (by omega),if_neg (by omega),hn]
 exact qbA s _ _ _ (by simp; omega) (by simp)

theorem qcU (s:List UInt8) (hs:s.length<2^30) : ∃ l,q0m C0 42 [.str s] (.tup [.tsl 1 l,.bool (utf s)]):=by
 have h:=q4I (C:=C0) (f:=42) (ts:=[.str s]) (k:=fun v=>∃ l,v = .tup [.tsl 1 l,.bool (utf s)]) qtc rfl (by
  (repeat' first|simp (disch:=omega) only[go_sem,qtc,enter]|(apply spl<;>intro h<;>try simp (disch:=omega) only[go_sem,qtc,enter,h]))
  refine q0a (α:=Nat × List AV) (fun a=>{ tmps:=q0i 30 [(0,.str s),(4,.sref 1 0 0 a.2.length),(5,.int .i64 a.1)],heap:=[.row 1 a.2 false true 0],base:=0 }) (fun a=>a.1≤s.length∧a.2.length≤a.1+1∧utf s=q79 s (s.length-a.1+1) a.1) (fun a=>s.length-a.1) (0,[.int .i64 0]) rfl ⟨by simp,by simp,rfl⟩ ?_
  rintro ⟨k,els⟩ ⟨hk,hl,hw⟩
  simp only at hk hl hw
  by_cases hlt:k<s.length
  ·have hd:=qiF s k (by omega) hlt
   obtain ⟨m,hm,hsz⟩:=q9T s k
   rw[hm] at hd
   by_cases h0:m=0
   ·subst h0
    rw[qdQ hlt hm] at hw
    rw[hw]
    (repeat' first|simp (disch:=omega) only[go_sem]|refine q00 _ (hd) ?_|(apply spl<;>intro h<;>try simp (disch:=omega) only[go_sem,h]))
    exact ⟨_,rfl⟩
   ·rw[qee hlt hm h0] at hw
    (repeat' first|simp (disch:=omega) only[go_sem]|refine q00 _ (hd) ?_|(apply spl<;>intro h<;>try simp (disch:=omega) only[go_sem,h]))
    have e:(els++[AV.int .i64 ((k:Int)+m)]).length=els.length+1:=by simp
    refine ⟨(k+m,els++[.int .i64 ((k:Int)+m)]),?_,⟨by simp only; omega,by simp only[e]; omega,hw⟩,by simp only; omega⟩
    simp only[e]
    rfl
  ·rw[qht (by omega)] at hw
   rw[hw]
   (repeat' first|simp (disch:=omega) only[go_sem]|(apply spl<;>intro h<;>try simp (disch:=omega) only[go_sem,h]))
   exact ⟨_,rfl⟩)
 obtain ⟨v,h1,l,rfl⟩:=h
 exact ⟨l,h1⟩

theorem qcS (s:List UInt8) (hs:s.length<2^30):q0m C0 24 [.str s] (.bool (utf s)):=by
 obtain ⟨l,hb⟩:=qcU s hs
 refine q05 qv6 rfl ?_
 (repeat' first|simp (disch:=omega) only[go_sem,qv6,enter]|refine q00 _ (hb) ?_)
end Ago
