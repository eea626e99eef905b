/- Layers 1 and 2 of the references: numerals and decimals. -/
import Derived.Test.YtjeahlpkonkjiaaGreatDoorOCodeZ
import Derived.Test.YtjeahlpkonkjiaaGreatDoorOMachE
import GoSem.Core.Utf8
set_option linter.unusedSimpArgs false
set_option linter.unusedVariables false
set_option maxRecDepth 100000
namespace Ago
def q64 (b:UInt8):Bool:=decide (48≤b.toNat∧b.toNat≤57)
def digits (s:List UInt8):Bool:=s.all q64
theorem q0M {α:Type} {s:List α} {k:Nat} {c:α} {p:α→Bool} (hc:s[k]?=some c) (h:(s.take k).all p=true) (hp:p c=true):(s.take (k+1)).all p=true:=by
 rw[KG,hc]
 simp_all
theorem q7j {α:Type} {s:List α} {k:Nat} {c:α} {p:α→Bool} (hc:s[k]?=some c) (hp:p c=false):s.all p=false:=by
 rw[List.all_eq_false]
 exact ⟨c,Kc hc,by simp [hp]⟩
theorem q06 {α:Type} {s:List α} {k:Nat} (h:k<s.length) : ∃ c,s[k]?=some c:=⟨_,Kh h⟩

def q7m (s:List UInt8):Bool:=decide (s.length≤600) && digits s && decide (s[0]?≠some 48)

theorem q9x (c:UInt8):(c.toNat:Int)=48↔c=48:=by
 constructor
 ·intro h
  have:c.toNat=48:=by omega
  exact UInt8.toNat_inj.1 this
 ·rintro rfl; rfl

theorem e00:(0:Int).toNat=0:=(rfl)
def q40 (l:List UInt8):List AV:=l.map fun c=>.int .u8 c.toNat
theorem q6L : ∀ l,q1y qaB (q40 l)=some l
 | []=>rfl
 | c::l=>by simp [q40,q1y,qaB] at *; have:=q6L l; simp [q40] at this; simp [this]

def q0H (s:List UInt8):Nat:=(s.reverse.takeWhile (· == 48)).length

theorem qlc (s:List UInt8) (hs:s.length<2^31):q0k C0 90 [.str s] (.int .i64 (q0H s)):=by
 refine q04 qvH rfl ?_
 simp (disch:=omega) only[go_sem,qvH,enter]
 refine q07 (α:=Nat) (fun k=>{ tmps:=q0q 21 [(0,.str s),(3,.int .i64 k)],heap:=[],base:=0 }) (fun k=>k≤s.length∧(s.reverse.take k).all (· == 48)=true) (fun k=>s.length-k) 0 rfl ⟨Kp _,rfl⟩ ?_
 rintro k ⟨hk,hd⟩
 have fin:(k<s.length→∃ c,s.reverse[k]?=some c∧c≠48)→q0H s=k:=fun h=>by
  unfold q0H
  have key : ∀ (l:List UInt8) (k:Nat),(l.take k).all (· == 48)=true→(k<l.length→∃ c,l[k]?=some c∧c≠48)→k≤l.length→(l.takeWhile (· == 48)).length=k:=by
   intro l
   induction l with
   | nil=>intro k _ _ hk; simp at hk; simp [hk]
   | cons x l ih=>
    intro k h1 h2 h3
    cases k with
    | zero=>
     obtain ⟨c,h4,h5⟩:=h2 (by simp)
     simp at h4
     subst h4
     rw[List.takeWhile_cons_of_neg (by simpa using h5)]
     rfl
    | succ k=>
     simp only[List.take_succ_cons,K7,Kd] at h1
     rw[List.takeWhile_cons_of_pos (by simpa using h1.1)]
     simp only[Kb,Nat.add_right_cancel_iff]
     exact ih k h1.2 (fun h=>by simpa using h2 (by simpa using h)) (by simpa using h3)
  exact key s.reverse k hd (fun h2=>h (by simpa using h2)) (by simpa using hk)
 by_cases hlt:k<s.length
 ·obtain ⟨c,hc⟩:=q06 (s:=s) (k:=s.length-1-k) (by omega)
  have e:((s.length:Int)-1-k).toNat=s.length-1-k:=by omega
  have hr:s.reverse[k]?=some c:=by rw[List.getElem?_reverse hlt,hc]
  (repeat' first|simp (disch:=omega) only[go_sem,e,hc]|(apply spl<;>intro h<;>try simp (disch:=omega) only[go_sem,e,hc,h]))
  ·refine ⟨k+1,rfl,⟨hlt,q0M hr hd ?_⟩,by omega⟩
   simpa using (q9x c).1 h
  ·rw[fin fun _=>⟨c,hr,fun e=>h ((q9x c).2 e)⟩]
 ·(repeat' first|simp (disch:=omega) only[go_sem]|(apply spl<;>intro h<;>try simp (disch:=omega) only[go_sem,h]))
  rw[fin fun h=>absurd h hlt]

def q09 (s:List UInt8):Int:=s.foldl (fun n c=>10 * n+c.toNat-48) 0
theorem qeh {s:List UInt8} {k:Nat} {c:UInt8} (h:s[k]?=some c):q09 (s.take (k+1))=10 * q09 (s.take k)+c.toNat-48:=by
 unfold q09
 rw[KG,h]
 simp
theorem q0w (s:List UInt8) (hd:digits s=true):0≤q09 s∧q09 s<10^s.length:=by
 have key : ∀ k,k≤s.length→0≤q09 (s.take k)∧q09 (s.take k)<10^k:=by
  intro k
  induction k with
  | zero=>intro _; simp [q09]
  | succ k ih=>
   intro hk
   obtain ⟨h1,h2⟩:=ih (by omega)
   obtain ⟨c,hc⟩:=q06 (s:=s) (k:=k) (by omega)
   have hcd:q64 c=true:=Ki.1 hd c (Kc hc)
   simp only[q64,decide_eq_true_eq] at hcd
   rw[qeh hc,V9]
   omega
 have:=key s.length (Ko _)
 rwa [Kz] at this

theorem qbG : ∀ (s:List UInt8) (a:Int),s.foldl (fun n c=>10 * n+(c.toNat:Int)-48) a=a * 10^s.length+q09 s
 | [],a=>by simp [q09]
 | c::s,a=>by
  unfold q09
  simp only[VD,Kb]
  rw[qbG s,qbG s,V9]
  generalize (10:Int)^s.length=p
  generalize q09 s=q
  generalize (c.toNat:Int)=x
  rw[show (10 * a+x-48) * p=10 * a * p+x * p-48 * p by rw[Int.sub_mul,Int.add_mul],show (10 * 0+x-48) * p=x * p-48 * p by rw[Int.sub_mul]; simp,show a * (p * 10)=10 * a * p by rw[VW p 10,←VP,VW a 10]]
  omega
theorem q1z (c:UInt8) (s:List UInt8):q09 (c::s)=(c.toNat-48) * 10^s.length+q09 s:=by
 have:=qbG s (10 * 0+(c.toNat:Int)-48)
 unfold q09
 rw[VD,this]
 simp [q09]

theorem qi6 : ∀ (a b:List UInt8),digits a=true→digits b=true→a.length=b.length→(Go.Op.bytesLess a b=true↔q09 a<q09 b)
 | [],[],_,_,_=>by simp [Go.Op.bytesLess,q09]
 | [],_::_,_,_,h=>by simp at h
 | _::_,[],_,_,h=>by simp at h
 | x::a,y::b,ha,hb,h=>by
  simp only[digits,K7,Kd] at ha hb
  have ih:=qi6 a b ha.2 hb.2 (by simpa using h)
  have l1:=q0w a ha.2
  have l2:=q0w b hb.2
  have hl:a.length=b.length:=by simpa using h
  have hx:=ha.1
  have hy:=hb.1
  simp only[q64,decide_eq_true_eq] at hx hy
  rw[q1z,q1z]
  rw[hl] at l1 ⊢
  generalize hp:(10:Int)^b.length=p at l1 l2 ⊢
  have step : ∀ u v:Int,u<v→(u-48) * p+p≤(v-48) * p:=fun u v huv=>by
   have h1:=Int.mul_le_mul_of_nonneg_right (show u-48+1≤v-48 by omega) (show 0≤p by omega)
   rw[Int.add_mul,Int.one_mul] at h1
   exact h1
  have e1:(Go.Op.bytesLess (x::a) (y::b)=true)↔(x.toNat<y.toNat∨(x.toNat=y.toNat∧Go.Op.bytesLess a b=true)):=by
   simp only[Go.Op.bytesLess,KM,decide_eq_true_eq,Kd,beq_iff_eq,UInt8.lt_iff_toNat_lt]
   rw[←UInt8.toNat_inj]
  rw[e1]
  rcases Nat.lt_trichotomy x.toNat y.toNat with hlt | heq | hgt
  ·have:=step x.toNat y.toNat (by omega)
   constructor
   ·intro _; omega
   ·intro _; exact .inl hlt
  ·rw[heq,ih]
   constructor
   ·rintro (h | ⟨_,h⟩)
    ·omega
    ·omega
   ·intro h; exact .inr ⟨rfl,by omega⟩
  ·have:=step y.toNat x.toNat (by omega)
   constructor
   ·rintro (h | ⟨h,_⟩)<;>omega
   ·intro h; omega

end Ago
set_option maxRecDepth 100000
namespace Ago
theorem q42 {a b:Nat} (h:a≤b):(10:Int)^a≤10^b:=by
 have:=Nat.pow_le_pow_right (n:=10) (by omega) h
 have e : ∀ k:Nat,(10:Int)^k=((10^k:Nat):Int):=fun k=>by simp
 rw[e,e]
 omega
theorem q1j {α:Type} {s:List α} {k:Nat} (h : ¬ k<s.length) (h2:k≤s.length):s.take k=s:=KJ (by omega)

structure Dec where
 neg:Bool
 digits:List UInt8
 exp:Int
def q0h (d:Dec):AV:=.agg [.bool d.neg,.str d.digits,.int .i64 d.exp]

def q0a (d:Dec):Bool:=
 if d.digits=[] then !d.neg && d.exp == 0
 else decide (d.digits.length≤120) && q7m d.digits && decide (q0H d.digits=0) && decide (-400≤d.exp) && decide (d.exp≤400)

theorem q6T {a b:List UInt8} (h:digits a=true) (h':digits b=true):digits (a++b)=true:=by simp_all [digits]
theorem q9Y (n:Nat):digits (List.replicate n 48)=true:=by
 refine Ki.2 fun x hx=>?_
 rw[(VO.1 hx).2]
 rfl

end Ago
set_option maxRecDepth 100000
namespace Ago
open Go (IntKind)

structure Tm where
 kind:Int
 day:Int
 nano:Int
 off:Int
structure VS where
 kind:Int
 bool:Bool
 num:Dec
 time:Tm
 text:List UInt8
 bytes:List UInt8
inductive V where
 | mk (s:VS) (l:List V) (f:List (List UInt8 × V))

def V.s:V→VS | .mk s _ _=>s
def V.l:V→List V | .mk _ l _=>l
def V.f:V→List (List UInt8 × V) | .mk _ _ f=>f

mutual
def q0u:V→AV
 | .mk s l f=>.agg [.int .i64 s.kind,.bool s.bool,.bool s.num.neg,.str s.num.digits,.int .i64 s.num.exp,.int .i64 s.time.kind,.int .i64 s.time.day,.int .i64 s.time.nano,.int .i64 s.time.off,.str s.text,.tsl 1 (q40 s.bytes),.tsl 13 (qs5 l),.tsl 14 (qtD f)]
def qs5:List V→List AV
 | []=>[]
 | v::l=>q0u v::qs5 l
def qtD:List (List UInt8 × V)→List AV
 | []=>[]
 | (k,v)::f=>.agg (.str k::(q0u v).cells)::qtD f
end

theorem qg5 : ∀ l,qs5 l=l.map q0u
 | []=>by simp [qs5]
 | v::l=>by simp [qs5,qg5 l]
def q10 (x:List UInt8 × V):AV:=.agg (.str x.1::(q0u x.2).cells)
theorem qgg : ∀ l,qtD l=l.map q10
 | []=>by simp [qtD]
 | (k,v)::l=>by simp [qtD,qgg l,q10]
theorem q08 (v:V):q0u v = .agg [.int .i64 v.s.kind,.bool v.s.bool,.bool v.s.num.neg,.str v.s.num.digits,.int .i64 v.s.num.exp,.int .i64 v.s.time.kind,.int .i64 v.s.time.day,.int .i64 v.s.time.nano,.int .i64 v.s.time.off,.str v.s.text,.tsl 1 (q40 v.s.bytes),.tsl 13 (v.l.map q0u),.tsl 14 (v.f.map q10)]:=by
 cases v with
 | mk s l f=>simp [q0u,V.s,V.l,V.f,qg5,qgg]
theorem q2a (x:List UInt8 × V):q10 x = .agg [.str x.1,.int .i64 x.2.s.kind,.bool x.2.s.bool,.bool x.2.s.num.neg,.str x.2.s.num.digits,.int .i64 x.2.s.num.exp,.int .i64 x.2.s.time.kind,.int .i64 x.2.s.time.day,.int .i64 x.2.s.time.nano,.int .i64 x.2.s.time.off,.str x.2.s.text,.tsl 1 (q40 x.2.s.bytes),.tsl 13 (x.2.l.map q0u),.tsl 14 (x.2.f.map q10)]:=by
 unfold q10
 rw[q08]
 rfl

def V.bulk (v:V):Nat:=(q0u v).bulk
theorem q1L : ∀ {l:List AV} {x:AV},x∈l→x.bulk≤AV.bulks l
 | [],x,h=>by cases h
 | y::l,x,h=>by
  rcases Ks.1 h with rfl | h
  ·simp [AV.bulks]
  ·have:=q1L h; simp [AV.bulks]; omega
theorem q1s : ∀ (l:List AV),l.length≤AV.bulks l
 | []=>by simp [AV.bulks]
 | x::l=>by have:=q1s l; have:=q1B x; simp [AV.bulks]; omega
theorem V.bulk_eq (v:V):v.bulk=v.s.num.digits.length+v.s.text.length+AV.bulks (q40 v.s.bytes)+AV.bulks (v.l.map q0u)+AV.bulks (v.f.map q10)+14:=by
 unfold V.bulk
 rw[q08]
 simp [AV.bulk,AV.bulks]
 omega
theorem q0x (l:List UInt8):(q40 l).length=l.length:=by simp [q40]

structure V.Lens (v:V) (N:Nat):Prop where
 digits:v.s.num.digits.length<N
 text:v.s.text.length<N
 bytes:v.s.bytes.length<N
 list:v.l.length<N
 fields:v.f.length<N
 kids : ∀ x,x∈v.l→x.bulk<v.bulk
 fkids : ∀ x,x∈v.f→x.2.bulk<v.bulk∧x.1.length<N
theorem V.lens {v:V} {N:Nat} (h:v.bulk≤N):v.Lens N:=by
 have e:=v.bulk_eq
 have h1:=q1s (q40 v.s.bytes)
 have h2:=q1s (v.l.map q0u)
 have h3:=q1s (v.f.map q10)
 rw[q0x] at h1
 rw[Ka] at h2 h3
 refine ⟨by omega,by omega,by omega,by omega,by omega,fun x hx=>?_,fun x hx=>?_⟩
 ·have:=q1L (Va (f:=q0u) hx)
  show (q0u x).bulk<_
  omega
 ·have:=q1L (Va (f:=q10) hx)
  have e2:(q10 x).bulk=x.2.bulk+x.1.length+1:=by
   unfold V.bulk q10
   rw[q08]
   simp [AV.bulk,AV.bulks,AV.cells]
   omega
  omega
def q1e (n b:Nat):List AV→AV
 | []=>.snil n
 | x::l=>.sref n b 0 (l.length+1)
def q1d (n b:Nat):List AV→Heap
 | []=>[]
 | x::l=>[.row n (x::l) false true b]
theorem q0c {α β:Type} {g:α→β} {l:List α} {k:Nat} {x:α} (h:l[k]?=some x):(l.map g)[k]?=some (g x):=by rw[KB,h]; rfl
def q30:AV:=.agg [.int .i64 0,.bool false,.bool false,.str [],.int .i64 0,.int .i64 0,.int .i64 0,.int .i64 0,.int .i64 0,.str [],.snil 1,.snil 13,.snil 14]
end Ago
set_option maxRecDepth 100000
set_option maxHeartbeats 4000000
namespace Ago
open Go (IntKind)

structure PS where
 op:Int
 lo:Int
 hi:Int
 min:Int
 max:Int
inductive Pat where
 | mk (s:PS) (a:List Pat)
def Pat.s:Pat→PS | .mk s _=>s
def Pat.a:Pat→List Pat | .mk _ a=>a
mutual
def q0G:Pat→AV
 | .mk s a=>.agg [.int .i64 s.op,.int .i64 s.lo,.int .i64 s.hi,.int .i64 s.min,.int .i64 s.max,.tsl 6 (q8C a)]
def q8C:List Pat→List AV
 | []=>[]
 | p::l=>q0G p::q8C l
end
theorem q9C : ∀ l,q8C l=l.map q0G
 | []=>by simp [q8C]
 | v::l=>by simp [q8C,q9C l]
theorem q0r (p:Pat):q0G p = .agg [.int .i64 p.s.op,.int .i64 p.s.lo,.int .i64 p.s.hi,.int .i64 p.s.min,.int .i64 p.s.max,.tsl 6 (p.a.map q0G)]:=by
 cases p with
 | mk s l=>simp [q0G,Pat.s,Pat.a,q9C]
def Pat.bulk (p:Pat):Nat:=(q0G p).bulk
theorem Pat.bulk_eq (p:Pat):p.bulk=AV.bulks (p.a.map q0G)+7:=by
 unfold Pat.bulk
 rw[q0r]
 simp [AV.bulk,AV.bulks]
 omega
structure Pat.Lens (p:Pat) (N:Nat):Prop where
 args:p.a.length<N
 kids : ∀ x,x∈p.a→x.bulk<p.bulk
theorem Pat.lens {p:Pat} {N:Nat} (h:p.bulk≤N):p.Lens N:=by
 have e:=p.bulk_eq
 have h2:=q1s (p.a.map q0G)
 rw[Ka] at h2
 refine ⟨by omega,fun x hx=>?_⟩
 have:=q1L (Va (f:=q0G) hx)
 show (q0G x).bulk<_
 omega

structure Bnd where
 set:Bool
 num:Dec
 opn:Bool
structure Prt where
 lo:Bnd
 hi:Bnd
 sort:Int
def q0m (p:Prt):AV:=.agg [.bool p.lo.set,.bool p.lo.num.neg,.str p.lo.num.digits,.int .i64 p.lo.num.exp,.bool p.lo.opn,.bool p.hi.set,.bool p.hi.num.neg,.str p.hi.num.digits,.int .i64 p.hi.num.exp,.bool p.hi.opn,.int .i64 p.sort]
def q5j (b:Bnd):AV:=.agg [.bool b.set,.bool b.num.neg,.str b.num.digits,.int .i64 b.num.exp,.bool b.opn]
def q81 (l:List Prt):AV:=.agg [.tsl 11 (l.map q0m)]
theorem q9r (p:Prt):(q0m p).bulk=p.lo.num.digits.length+p.hi.num.digits.length+12:=by
 simp [q0m,AV.bulk,AV.bulks]
 omega

structure SS where
 op:Int
 mask:Int
 min:Int
 max:Int
 name:List UInt8
 parts:List Prt
 pat:Pat
 vals:List V
structure PK where
 key:List UInt8
 req:Bool
inductive Sch where
 | mk (s:SS) (p:List (PK × Sch)) (a:List Sch)
def Sch.s:Sch→SS | .mk s _ _=>s
def Sch.p:Sch→List (PK × Sch) | .mk _ p _=>p
def Sch.a:Sch→List Sch | .mk _ _ a=>a
def SS.cells (s:SS):List AV:=[.int .i64 s.op,.int .i64 s.mask,.int .i64 s.min,.int .i64 s.max,.str s.name,.tsl 11 (s.parts.map q0m),.int .i64 s.pat.s.op,.int .i64 s.pat.s.lo,.int .i64 s.pat.s.hi,.int .i64 s.pat.s.min,.int .i64 s.pat.s.max,.tsl 6 (s.pat.a.map q0G),.tsl 13 (s.vals.map q0u)]
mutual
def q03:Sch→AV
 | .mk s p a=>.agg (s.cells++[.tsl 17 (q97 p),.tsl 15 (q8B a)])
def q8B:List Sch→List AV
 | []=>[]
 | v::l=>q03 v::q8B l
def q97:List (PK × Sch)→List AV
 | []=>[]
 | (k,v)::f=>.agg (.str k.key :: .bool k.req::(q03 v).cells)::q97 f
end
theorem q9d : ∀ l,q8B l=l.map q03
 | []=>by simp [q8B]
 | v::l=>by simp [q8B,q9d l]
def q0i (x:PK × Sch):AV:=.agg (.str x.1.key :: .bool x.1.req::(q03 x.2).cells)
theorem q9P : ∀ l,q97 l=l.map q0i
 | []=>by simp [q97]
 | (k,v)::l=>by simp [q97,q9P l,q0i]
theorem q02 (v:Sch):q03 v = .agg [.int .i64 v.s.op,.int .i64 v.s.mask,.int .i64 v.s.min,.int .i64 v.s.max,.str v.s.name,.tsl 11 (v.s.parts.map q0m),.int .i64 v.s.pat.s.op,.int .i64 v.s.pat.s.lo,.int .i64 v.s.pat.s.hi,.int .i64 v.s.pat.s.min,.int .i64 v.s.pat.s.max,.tsl 6 (v.s.pat.a.map q0G),.tsl 13 (v.s.vals.map q0u),.tsl 17 (v.p.map q0i),.tsl 15 (v.a.map q03)]:=by
 cases v with
 | mk s p a=>simp [q03,Sch.s,Sch.p,Sch.a,q9d,q9P,SS.cells]
theorem q0o (x:PK × Sch):q0i x = .agg [.str x.1.key,.bool x.1.req,.int .i64 x.2.s.op,.int .i64 x.2.s.mask,.int .i64 x.2.s.min,.int .i64 x.2.s.max,.str x.2.s.name,.tsl 11 (x.2.s.parts.map q0m),.int .i64 x.2.s.pat.s.op,.int .i64 x.2.s.pat.s.lo,.int .i64 x.2.s.pat.s.hi,.int .i64 x.2.s.pat.s.min,.int .i64 x.2.s.pat.s.max,.tsl 6 (x.2.s.pat.a.map q0G),.tsl 13 (x.2.s.vals.map q0u),.tsl 17 (x.2.p.map q0i),.tsl 15 (x.2.a.map q03)]:=by
 show AV.agg (.str x.1.key :: .bool x.1.req::(q03 x.2).cells)=_
 rw[q02]
 simp only[AV.cells]
def Sch.bulk (v:Sch):Nat:=(q03 v).bulk
theorem Sch.bulk_eq (v:Sch):v.bulk=v.s.name.length+AV.bulks (v.s.parts.map q0m)+AV.bulks (v.s.pat.a.map q0G)+AV.bulks (v.s.vals.map q0u)+AV.bulks (v.p.map q0i)+AV.bulks (v.a.map q03)+16:=by
 unfold Sch.bulk
 rw[q02]
 simp [AV.bulk,AV.bulks]
 omega
structure Sch.Lens (v:Sch) (N:Nat):Prop where
 name:v.s.name.length<N
 parts:v.s.parts.length<N
 part : ∀ x,x∈v.s.parts→x.lo.num.digits.length<N∧x.hi.num.digits.length<N
 pat:v.s.pat.bulk<v.bulk
 vals:v.s.vals.length<N
 val : ∀ x,x∈v.s.vals→x.bulk<v.bulk
 props:v.p.length<N
 args:v.a.length<N
 kids : ∀ x,x∈v.a→x.bulk<v.bulk
 pkids : ∀ x,x∈v.p→x.2.bulk<v.bulk∧x.1.key.length<N
theorem Sch.lens {v:Sch} {N:Nat} (h:v.bulk≤N):v.Lens N:=by
 have e:=v.bulk_eq
 have h1:=q1s (v.s.parts.map q0m)
 have h2:=q1s (v.s.vals.map q0u)
 have h3:=q1s (v.p.map q0i)
 have h4:=q1s (v.a.map q03)
 have h5:=v.s.pat.bulk_eq
 rw[Ka] at h1 h2 h3 h4
 refine ⟨by omega,by omega,fun x hx=>?_,by omega,by omega,fun x hx=>?_,by omega,by omega,fun x hx=>?_,fun x hx=>?_⟩
 ·have:=q1L (Va (f:=q0m) hx)
  rw[q9r] at this
  omega
 ·have:=q1L (Va (f:=q0u) hx)
  show (q0u x).bulk<_
  omega
 ·have:=q1L (Va (f:=q03) hx)
  show (q03 x).bulk<_
  omega
 ·have:=q1L (Va (f:=q0i) hx)
  have e2:(q0i x).bulk=x.2.bulk+x.1.key.length+2:=by
   unfold Sch.bulk q0i
   rw[q02]
   simp [AV.bulk,AV.bulks,AV.cells]
   omega
  omega
def q2j (x:List UInt8 × Sch):AV:=.agg (.str x.1::(q03 x.2).cells)
theorem q4v (x:List UInt8 × Sch):q2j x = .agg [.str x.1,.int .i64 x.2.s.op,.int .i64 x.2.s.mask,.int .i64 x.2.s.min,.int .i64 x.2.s.max,.str x.2.s.name,.tsl 11 (x.2.s.parts.map q0m),.int .i64 x.2.s.pat.s.op,.int .i64 x.2.s.pat.s.lo,.int .i64 x.2.s.pat.s.hi,.int .i64 x.2.s.pat.s.min,.int .i64 x.2.s.pat.s.max,.tsl 6 (x.2.s.pat.a.map q0G),.tsl 13 (x.2.s.vals.map q0u),.tsl 17 (x.2.p.map q0i),.tsl 15 (x.2.a.map q03)]:=by
 show AV.agg (.str x.1::(q03 x.2).cells)=_
 rw[q02]
 simp only[AV.cells]
theorem q9w (x:List UInt8 × Sch):(q2j x).bulk=x.1.length+x.2.bulk+1:=by
 unfold Sch.bulk q2j
 rw[q02]
 simp [AV.bulk,AV.bulks,AV.cells]
 omega
structure Schs where
 defs:List (List UInt8 × Sch)
 root:Sch
def q2P (s:Schs):AV:=.agg (.tsl 16 (s.defs.map q2j)::(q03 s.root).cells)
theorem q19 (s:Schs):q2P s = .agg [.tsl 16 (s.defs.map q2j),.int .i64 s.root.s.op,.int .i64 s.root.s.mask,.int .i64 s.root.s.min,.int .i64 s.root.s.max,.str s.root.s.name,.tsl 11 (s.root.s.parts.map q0m),.int .i64 s.root.s.pat.s.op,.int .i64 s.root.s.pat.s.lo,.int .i64 s.root.s.pat.s.hi,.int .i64 s.root.s.pat.s.min,.int .i64 s.root.s.pat.s.max,.tsl 6 (s.root.s.pat.a.map q0G),.tsl 13 (s.root.s.vals.map q0u),.tsl 17 (s.root.p.map q0i),.tsl 15 (s.root.a.map q03)]:=by
 unfold q2P
 rw[q02]
 simp only[AV.cells]
def Schs.bulk (s:Schs):Nat:=(q2P s).bulk
theorem Schs.bulk_eq (s:Schs):s.bulk=AV.bulks (s.defs.map q2j)+s.root.bulk+1:=by
 unfold Schs.bulk Sch.bulk q2P
 rw[q02]
 simp [AV.bulk,AV.bulks,AV.cells]
 omega
def Sch.kids (v:Sch):List Sch:=v.p.map (·.2)++v.a
theorem Sch.kids_bulk {v:Sch} {x:Sch} (h:x∈v.kids):x.bulk<v.bulk:=by
 have L:=Sch.lens (Ko v.bulk)
 unfold Sch.kids at h
 rcases K9.1 h with h | h
 ·obtain ⟨y,hy,rfl⟩:=KQ.1 h
  exact (L.pkids y hy).1
 ·exact L.kids x h
theorem Sch.kids_sum (v:Sch):AV.bulks (v.kids.map q03)+v.p.length+v.p.length≤AV.bulks (v.p.map q0i)+AV.bulks (v.a.map q03):=by
 unfold Sch.kids
 rw[VX,q3l]
 have : ∀ l:List (PK × Sch),AV.bulks ((l.map (·.2)).map q03)+l.length+l.length≤AV.bulks (l.map q0i):=by
  intro l
  induction l with
  | nil=>simp [AV.bulks]
  | cons x l ih=>
   have e2:(q0i x).bulk=x.2.bulk+x.1.key.length+2:=by
    unfold Sch.bulk q0i
    rw[q02]
    simp [AV.bulk,AV.bulks,AV.cells]
    omega
   simp only[Km,AV.bulks,Kb]
   have:(q03 x.2).bulk=x.2.bulk:=rfl
   omega
 have:=this v.p
 omega
theorem q8S {α:Type} {l:List α} {k:Nat} {x:α} (hx:l[k]?=some x):l.drop k=x::l.drop (k+1):=by
 obtain ⟨h3,h4⟩:=Ky.1 hx
 rw[Vt h3,h4]
end Ago
set_option maxRecDepth 100000
set_option maxHeartbeats 4000000
namespace Ago
open Go (IntKind)
theorem qfd : ∀ a:List UInt8,Go.Op.bytesLess a a=false
 | []=>by simp [Go.Op.bytesLess]
 | x::a=>by simp [Go.Op.bytesLess,qfd a]
theorem qaN : ∀ a b:List UInt8,Go.Op.bytesLess a b=false→Go.Op.bytesLess b a=false→a=b
 | [],[],_,_=>rfl
 | [],_::_,h,_=>by simp [Go.Op.bytesLess] at h
 | _::_,[],_,h=>by simp [Go.Op.bytesLess] at h
 | x::a,y::b,h1,h2=>by
  simp only[Go.Op.bytesLess,Bool.or_eq_false_iff,Bool.and_eq_false_iff,decide_eq_false_iff_not,beq_eq_false_iff_ne,ne_eq] at h1 h2
  have e:x=y:=by
   have k1:=h1.1
   have k2:=h2.1
   have k3 : ¬ x.toNat<y.toNat:=k1
   have k4 : ¬ y.toNat<x.toNat:=k2
   exact UInt8.toNat_inj.1 (by omega)
  subst e
  have h3:Go.Op.bytesLess a b=false:=by
   rcases h1.2 with h | h
   ·exact absurd rfl h
   ·exact h
  have h4:Go.Op.bytesLess b a=false:=by
   rcases h2.2 with h | h
   ·exact absurd rfl h
   ·exact h
  rw[qaN a b h3 h4]
theorem qbm : ∀ a b:List UInt8,Go.Op.bytesLess a b=true→Go.Op.bytesLess b a=false
 | [],[],h=>by simp [Go.Op.bytesLess] at h
 | [],_::_,_=>by simp [Go.Op.bytesLess]
 | _::_,[],h=>by simp [Go.Op.bytesLess] at h
 | x::a,y::b,h=>by
  simp only[Go.Op.bytesLess,KM,Kd,decide_eq_true_eq,beq_iff_eq] at h
  simp only[Go.Op.bytesLess,Bool.or_eq_false_iff,Bool.and_eq_false_iff,decide_eq_false_iff_not,beq_eq_false_iff_ne,ne_eq]
  rcases h with h | ⟨rfl,h⟩
  ·have k:x.toNat<y.toNat:=h
   refine ⟨fun h2=>?_,.inl fun h2=>?_⟩
   ·have k2:y.toNat<x.toNat:=h2
    omega
   ·rw[h2] at k
    omega
  ·refine ⟨fun h2=>?_,.inr (qbm a b h)⟩
   have k2:x.toNat<x.toNat:=h2
   omega
theorem q8g : ∀ a b c:List UInt8,Go.Op.bytesLess a b=true→Go.Op.bytesLess b c=true→Go.Op.bytesLess a c=true
 | _,[],_,h,_=>by
  rename_i x _
  cases x<;>simp [Go.Op.bytesLess] at h
 | _,_::_,[],_,h=>by simp [Go.Op.bytesLess] at h
 | [],_::_,_::_,_,_=>by simp [Go.Op.bytesLess]
 | x::a,y::b,z::c,h1,h2=>by
  simp only[Go.Op.bytesLess,KM,Kd,decide_eq_true_eq,beq_iff_eq] at h1 h2 ⊢
  rcases h1 with h1 | ⟨rfl,h1⟩
  ·rcases h2 with h2 | ⟨rfl,h2⟩
   ·have k1:x.toNat<y.toNat:=h1
    have k2:y.toNat<z.toNat:=h2
    exact .inl (show x.toNat<z.toNat by omega)
   ·exact .inl h1
  ·rcases h2 with h2 | ⟨rfl,h2⟩
   ·exact .inl h2
   ·exact .inr ⟨rfl,q8g a b c h1 h2⟩
def leB (a b:List UInt8):Bool:=!Go.Op.bytesLess b a
theorem qie {a b c:List UInt8} (h1:leB a b=true) (h2:leB b c=true):leB a c=true:=by
 unfold leB at *
 simp only[V0] at *
 cases h:Go.Op.bytesLess c a with
 | false=>rfl
 | true=>
  cases h3:Go.Op.bytesLess b a with
  | true=>rw[h3] at h1; cases h1
  | false=>
   cases h4:Go.Op.bytesLess a b with
   | true=>
    have:=q8g _ _ _ h h4
    rw[this] at h2
    cases h2
   | false=>
    have:=qaN _ _ h3 h4
    subst this
    rw[h] at h2
    cases h2
theorem qrl {a b:List UInt8} (h:leB a b=false):leB b a=true:=by
 unfold leB at *
 simp only[Bool.not_eq_false'] at h
 rw[qbm _ _ h]
 rfl
section
variable {α:Type}
def qlw (x:List UInt8 × α) (l:List (List UInt8 × α)):List (List UInt8 × α):=l.takeWhile (fun y=>leB y.1 x.1)++x::l.dropWhile fun y=>leB y.1 x.1
def qgr (l:List (List UInt8 × α)):List (List UInt8 × α):=l.foldl (fun out x=>qlw x out) []
theorem qdq (x:List UInt8 × α) (l:List (List UInt8 × α)):(qlw x l).Perm (x::l):=by
 unfold qlw
 refine (List.perm_middle).trans ?_
 rw[List.takeWhile_append_dropWhile]
theorem q3h (l:List (List UInt8 × α)):(qgr l).Perm l:=by
 have : ∀ (l out:List (List UInt8 × α)),(l.foldl (fun out x=>qlw x out) out).Perm (out++l):=by
  intro l
  induction l with
  | nil=>intro out; simp
  | cons x l ih=>
   intro out
   rw[VD]
   refine (ih _).trans ?_
   refine ((qdq x out).append_right l).trans ?_
   rw[Kr]
   exact List.perm_middle.symm
 exact this l []
def qnr (l:List (List UInt8 × α)):Prop:=l.Pairwise fun a b=>leB a.1 b.1=true
theorem qg6 (x:List UInt8 × α) : ∀ {l:List (List UInt8 × α)},qnr l→qnr (qlw x l)
 | [],_=>by simp [qlw,qnr]
 | y::l,h=>by
  unfold qnr at h
  rw[Vl] at h
  have ih:=qg6 x h.2
  unfold qlw at *
  rw[List.takeWhile_cons,List.dropWhile_cons]
  cases hy:leB y.1 x.1 with
  | true=>
   rw[if_pos rfl,if_pos rfl,Kr]
   unfold qnr at *
   rw[Vl]
   refine ⟨fun z hz=>?_,ih⟩
   have hz2:=(qdq x l).mem_iff.1 (show z∈qlw x l from hz)
   rcases Ks.1 hz2 with rfl | hz2
   ·exact hy
   ·exact h.1 z hz2
  | false=>
   rw[if_neg (by simp),if_neg (by simp),Kv]
   unfold qnr
   have hx:=qrl hy
   rw[Vl,Vl]
   refine ⟨fun z hz=>?_,h.1,h.2⟩
   rcases Ks.1 hz with rfl | hz
   ·exact hx
   ·exact qie hx (h.1 z hz)
theorem qfH (l:List (List UInt8 × α)):qnr (qgr l):=by
 have : ∀ (l out:List (List UInt8 × α)),qnr out→qnr (l.foldl (fun out x=>qlw x out) out):=by
  intro l
  induction l with
  | nil=>intro out h; exact h
  | cons x l ih=>intro out h; exact ih _ (qg6 x h)
 exact this l [] List.Pairwise.nil
end
def qkT:Nat→V→V
 | 0,v=>v
 | n+1,v=>.mk v.s (v.l.map (qkT n)) ((qgr v.f).map fun y=>(y.1,qkT n y.2))
theorem q7y {l m:List AV} (h:l.Perm m):AV.bulks l=AV.bulks m:=by
 induction h with
 | nil=>rfl
 | cons x _ ih=>simp [AV.bulks,ih]
 | swap x y l=>simp [AV.bulks]; omega
 | trans _ _ ih1 ih2=>exact ih1.trans ih2
theorem qgK (x:List UInt8 × V):(q10 x).bulk=x.2.bulk+x.1.length+1:=by
 unfold V.bulk q10
 rw[q08]
 simp [AV.bulk,AV.bulks,AV.cells]
 omega
def q5O (n r:Nat) (E:List AV):AV:=if E.isEmpty then .snil n else .sref n r 0 E.length
def q5Q (n r:Nat) (E:List AV):Heap:=if E.isEmpty then [] else [.row n E false true r]
theorem q1h {α β:Type} (g:α→β) (l:List α):(l.map g).take l.length=l.map g:=KJ (by rw[Ka]; exact Ko _)
end Ago
set_option maxRecDepth 100000
set_option maxHeartbeats 4000000
namespace Ago
open Go (IntKind)
def qgh (a b:List UInt8):Int:=if Go.Op.bytesLess a b then -1 else if a == b then 0 else 1
theorem qga (x:List UInt8):q0k C0 75 [.str x] (.bool false):=by
 refine q04 qvE rfl ?_
 (repeat' first|simp (disch:=omega) only[go_sem,qvE,enter])
theorem qgd (x y:List UInt8):q0k C0 51 [.str x,.str y] (.int .i64 (qgh x y)):=by
 have h1:=qga x
 have h2:=qga y
 refine q04 qrn rfl ?_
 unfold qgh
 cases h:Go.Op.bytesLess x y with
 | true=>
  rw[if_pos rfl]
  (repeat' first|simp (disch:=omega) only[go_sem,qrn,enter,h]|refine q00 _ (h1) ?_|refine q00 _ (h2) ?_)
 | false=>
  rw[if_neg (by simp)]
  cases h':(x == y) with
  | true=>
   rw[if_pos rfl]
   (repeat' first|simp (disch:=omega) only[go_sem,qrn,enter,h,h',Bool.or_true,V4]|refine q00 _ (h1) ?_|refine q00 _ (h2) ?_)
  | false=>
   rw[if_neg (by simp)]
   (repeat' first|simp (disch:=omega) only[go_sem,qrn,enter,h,h',Bool.or_false,VM]|refine q00 _ (h1) ?_|refine q00 _ (h2) ?_)
theorem qqZ {a b:List UInt8} (h:Go.Op.bytesLess a b=true):qgh a b = -1:=by
 unfold qgh
 rw[if_pos h]
theorem qqM {a b:List UInt8} (h:Go.Op.bytesLess b a=true):qgh a b=1:=by
 unfold qgh
 rw[qbm _ _ h,if_neg (by simp)]
 have:(a == b)=false:=by
  by_cases e:a=b
  ·subst e
   rw[qfd] at h
   cases h
  ·simpa using e
 rw[this]
 rfl
theorem qpv {a b:List UInt8} (h1:Go.Op.bytesLess a b=false) (h2:Go.Op.bytesLess b a=false):qgh a b=0:=by
 unfold qgh
 rw[h1,if_neg (by simp),qaN a b h1 h2]
 simp
end Ago
set_option maxRecDepth 100000
set_option maxHeartbeats 4000000
namespace Ago
open Go (IntKind)
structure Stp where
 byIndex:Bool
 key:List UInt8
 index:Int
 deriving DecidableEq
end Ago
set_option maxRecDepth 100000
set_option maxHeartbeats 4000000
namespace Ago
open Go (IntKind)

def qr9 (base:Nat) (res:List ResV) (v:AV) (H':Heap) (e:Ex) (s:St):Prop:=(e = .normal∨e = .ret)∧∃ u,results res s=some u∧(q9T base u s.heap).tmps.getD 0 .dead=v∧(q9T base u s.heap).heap=H'
theorem q2d {base:Nat} {res:List ResV} {v:AV} {H':Heap} {e:Ex} {s:St} (he:e = .normal∨e = .ret) (u:AV) (h1:results res s=some u) (h2:(q9T base u s.heap).tmps.getD 0 .dead=v) (h3:(q9T base u s.heap).heap=H'):qr9 base res v H' e s:=⟨he,u,h1,h2,h3⟩
theorem q1o {C:Ctx} {f:Nat} (fn:AFn) {args:List AV} {H:Heap} {v:AV} {H':Heap} (hf:C.code f=some fn) (h : @q0N (enter fn args H) ⟨aw (q1u C) (q0k C) fn.body (qr9 H.length fn.res v H')⟩):q1u C f args H v H':=by
 unfold q0N at h
 exact qkC hf h


theorem qn5 {l:List UInt8} {i:Nat} {c:UInt8} (h:l[i]?=some c):(q40 l)[i]?=some (.int .u8 c.toNat):=by simp [q40,h]
theorem qlC (l:List UInt8) (i:Nat) (c:UInt8):(q40 l).set i (.int .u8 c.toNat)=q40 (l.set i c):=by simp [q40,List.map_set]
theorem q4X (l:List UInt8):(q40 l).length=l.length:=by simp [q40]


def q9W:Nat→Nat→List UInt8
 | 0,_=>[]
 | k+1,n=>if n=0 then [] else UInt8.ofNat (48+n % 10)::q9W k (n / 10)
def qlm (n:Nat):List UInt8:=(q9W n n).reverse
theorem q5K : ∀ k,q9W k 0=[]
 | 0=>rfl
 | _+1=>rfl
theorem qav : ∀ (k j n:Nat),n≤k→n≤j→q9W k n=q9W j n
 | 0,j,n,h,_=>by
  have:n=0:=by omega
  subst this
  rw[q5K,q5K]
 | k+1,0,n,_,h=>by
  have:n=0:=by omega
  subst this
  rw[q5K,q5K]
 | k+1,j+1,n,h,h2=>by
  simp only[q9W]
  split
  ·rfl
  ·rw[qav k j (n / 10) (by omega) (by omega)]
theorem qhu {n:Nat} (h:n≠0):q9W n n=UInt8.ofNat (48+n % 10)::q9W (n / 10) (n / 10):=by
 obtain ⟨m,rfl⟩ : ∃ m,n=m+1:=⟨n-1,by omega⟩
 rw[show q9W (m+1) (m+1)=if m+1=0 then [] else UInt8.ofNat (48+(m+1) % 10)::q9W m ((m+1) / 10) from rfl,if_neg h,qav m ((m+1) / 10) ((m+1) / 10) (by omega) (Ko _)]


theorem qfu {s:List UInt8} {k:Nat} (hk:k≤s.length) (hd:(s.reverse.take k).all (· == 48)=true) (h:k<s.length→∃ c,s.reverse[k]?=some c∧c≠48):q0H s=k:=by
 unfold q0H
 have key : ∀ (l:List UInt8) (k:Nat),(l.take k).all (· == 48)=true→(k<l.length→∃ c,l[k]?=some c∧c≠48)→k≤l.length→(l.takeWhile (· == 48)).length=k:=by
  intro l
  induction l with
  | nil=>intro k _ _ hk; simp at hk; simp [hk]
  | cons x l ih=>
   intro k h1 h2 h3
   cases k with
   | zero=>
    obtain ⟨c,h4,h5⟩:=h2 (by simp)
    simp at h4
    subst h4
    rw[List.takeWhile_cons_of_neg (by simpa using h5)]
    rfl
   | succ k=>
    simp only[List.take_succ_cons,K7,Kd] at h1
    rw[List.takeWhile_cons_of_pos (by simpa using h1.1)]
    simp only[Kb,Nat.add_right_cancel_iff]
    exact ih k h1.2 (fun h=>by simpa using h2 (by simpa using h)) (by simpa using h3)
 exact key s.reverse k hd (fun h2=>h (by simpa using h2)) (by simpa using hk)
theorem qbb (s:List UInt8):q0H s≤s.length:=by
 unfold q0H
 have:=(List.takeWhile_sublist (fun x=>x == (48:UInt8)) (l:=s.reverse)).length_le
 simpa using this

theorem qcB (s:List UInt8) (hs:s.length<2^31):q0k C0 155 [.str s,.int .u8 48] (.str (s.take (s.length-q0H s))):=by
 refine q04 qmC rfl ?_
 simp (disch:=omega) only[go_sem,qmC,enter]
 refine q07 (α:=Nat) (fun k=>{ tmps:=q0q 23 [(0,.str (s.take (s.length-k))),(1,.int .u8 48)],heap:=[],base:=0 }) (fun k=>k≤s.length∧(s.reverse.take k).all (· == 48)=true) (fun k=>s.length-k) 0 (by rw[Nat.sub_zero,Kz]; rfl) ⟨Kp _,rfl⟩ ?_
 rintro k ⟨hk,hd⟩
 have hlen:(s.take (s.length-k)).length=s.length-k:=by simp
 by_cases hlt:k<s.length
 ·obtain ⟨c,hc⟩:=q06 (s:=s) (k:=s.length-1-k) (by omega)
  have e:(((s.length-k:Nat):Int)-1).toNat=s.length-1-k:=by omega
  have hc2:(s.take (s.length-k))[s.length-1-k]?=some c:=by rw[List.getElem?_take_of_lt (by omega)]; exact hc
  have hr:s.reverse[k]?=some c:=by rw[List.getElem?_reverse hlt,←hc]
  have htt:List.take (s.length-1-k) (s.take (s.length-k))=s.take (s.length-(k+1)):=by rw[List.take_take]; congr 1; omega
  by_cases h48:c=48
  ·have h48i:(c.toNat:Int)=48:=(q9x c).2 h48
   (repeat' first|simp (disch:=omega) only[go_sem,hlen,e,hc2,h48i,htt]|(apply spl<;>intro h<;>try simp (disch:=omega) only[go_sem,hlen,e,hc2,h48i,htt,h]))
   refine ⟨k+1,rfl,⟨hlt,q0M hr hd (by simpa using h48)⟩,by omega⟩
  ·have h48i : ¬ (c.toNat:Int)=48:=fun e=>h48 ((q9x c).1 e)
   rw[qfu hk hd (fun _=>⟨c,hr,h48⟩)]
   (repeat' first|simp (disch:=omega) only[go_sem,hlen,e,hc2,h48i,htt])
 ·rw[qfu hk hd (fun h=>absurd h hlt)]
  (repeat' first|simp (disch:=omega) only[go_sem,hlen])

theorem q6z (s:List UInt8) (hs:s.length<2^31):q0k C0 148 [.str s,.str [48]] (.str (s.take (s.length-q0H s))):=by
 refine q04 qjj rfl ?_
 by_cases h0:s=[]
 ·subst h0
  (repeat' first|simp (disch:=omega) only[go_sem,qjj,enter])
  all_goals rfl
 ·have hb:(s == ([]:List UInt8))=false:=by simp [h0]
  have hr:=qcB s hs
  have e48:((UInt8.toNat 48:Nat):Int)=48:=rfl
  have en:(([48]:List UInt8) == [])=false:=rfl
  (repeat' first|simp (disch:=omega) only[go_sem,qjj,enter,hb,e48,en]|refine q00 _ (hr) ?_)
end Ago
namespace Ago
def Blk.refam (g:Nat→Nat):Blk→Blk
 | .row n els ro fl fam=>.row n els ro fl (g fam)
 | b=>b
def Blk.isRo:Blk→Bool
 | .row _ _ ro _ _=>ro
 | _=>false
def qqx (b:Blk):Prop:=b.refs=[]∧(∀ f g,Blk.ren f g b=Blk.refam g b)∧b.isRo=false
def Calms (H:Heap):Prop:=∀ b,b∈H→qqx b
theorem q87 (n:Nat) (els:List AV) (fam:Nat):qqx (.row n els false true fam):=⟨rfl,fun _ _=>rfl,rfl⟩
theorem qiz:qqx .gone:=⟨rfl,fun _ _=>rfl,rfl⟩
def qb3 (x:AV):Prop:=AV.refsN 6 x=[]∧∀ f,AV.renN f 6 x=x
theorem qgf {es:List (AV × AV)} (h : ∀ x,x∈es→qb3 x.1∧qb3 x.2):qqx (.map es):=by
 refine ⟨?_,fun f g=>?_,rfl⟩
 ·show es.flatMap (fun x=>AV.refsN 6 x.1++AV.refsN 6 x.2)=[]
  rw[List.flatMap_eq_nil_iff]
  intro x hx
  obtain ⟨h1,h2⟩:=h x hx
  rw[h1.1,h2.1]
  rfl
 ·show Blk.map (es.map fun x=>(AV.renN f 6 x.1,AV.renN f 6 x.2)) = .map es
  congr 1
  rw[List.map_congr_left (g:=id) (fun x hx=>by rw[(h x hx).1.2,(h x hx).2.2]; rfl),List.map_id]
theorem Calms.nil:Calms []:=fun b h=>by cases h
theorem Calms.cons {b:Blk} {H:Heap} (h1:qqx b) (h2:Calms H):Calms (b::H):=fun x h=>by
 rcases Ks.1 h with rfl | h
 ·exact h1
 ·exact h2 x h
theorem qcz (s:List UInt8):qb3 (.str s):=⟨rfl,fun _=>rfl⟩
theorem qhI (b:Bool):qb3 (.bool b):=⟨rfl,fun _=>rfl⟩
theorem q0z (k:Go.IntKind) (n:Int):qb3 (.int k n):=⟨rfl,fun _=>rfl⟩
def q7T (n base:Nat):Nat→List Nat→List Nat→List Nat
 | 0,_,seen=>seen
 | _+1,[],seen=>seen
 | k+1,r::todo,seen=>
  if r<base then q7T n base k todo seen
  else if seen.contains r then q7T n base k todo seen
  else if r<n then q7T n base k todo (seen++[r])
  else q7T n base k todo seen
theorem q4k {H:Heap} (hH:Calms H) (base:Nat) : ∀ (k:Nat) (todo seen:List Nat),q54 H base k todo seen=q7T H.length base k todo seen
 | 0,_,_=>rfl
 | _+1,[],_=>rfl
 | k+1,r::todo,seen=>by
  unfold q54 q7T
  split
  ·exact q4k hH base k todo seen
  ·split
   ·exact q4k hH base k todo seen
   ·by_cases hlt:r<H.length
    ·rw[if_pos hlt,Kh hlt]
     simp only
     rw[(hH _ (V3 hlt)).1,Kv]
     exact q4k hH base k todo (seen++[r])
    ·rw[if_neg hlt,Vh (by omega)]
     exact q4k hH base k todo seen
theorem q7M (ks:List Nat) : ∀ (E:Heap) (j:Nat),Calms E→q23 ks E j=[]
 | [],_,_=>rfl
 | b::E,j,h=>by
  have ih:=q7M ks E (j+1) fun x hx=>h x (by simp [hx])
  have hb:=(h b (by simp)).2.2
  cases b with
  | row n els ro fl fam=>
   simp only[Blk.isRo] at hb
   subst hb
   exact ih
  | _=>exact ih
def qs1 (live:List Nat) (tm:List AV) (H:Heap) (m:Nat):St:=
 let L:=q3u live 0 tm
 let ks:=q7T H.length m 4000 (L.flatMap (AV.refsN 6)) []
 { tmps:=L.map (AV.renN (q4e m ks) 6),heap:=(H.take m++ks.map fun r=>H.getD r .gone).map (Blk.refam (q9h H m ks)),base:=m,rb:=0 }
theorem q6Q {live:List Nat} {tm:List AV} {H:Heap} {m rb:Nat} (hH:Calms H):St.norm live ⟨tm,H,m,rb⟩=qs1 live tm H m:=by
 unfold St.norm St.normTm qs1
 have hT:Calms (H.take m):=fun b hb=>hH b (Kt hb)
 have hr:(H.take m).flatMap Blk.refs=[]:=by
  rw[List.flatMap_eq_nil_iff]
  exact fun b hb=>(hT b hb).1
 simp only[hr,KY]
 rw[q4k hH]
 generalize q7T H.length m 4000 ((q3u live 0 tm).flatMap (AV.refsN 6)) []=ks
 unfold St.normBy
 simp only
 rw[q7M ks (H.drop m) m fun b hb=>hH b (KT hb)]
 have hK:Calms (H.take m++ks.map fun r=>H.getD r .gone):=fun b hb=>by
  rcases K9.1 hb with hb | hb
  ·exact hT b hb
  ·obtain ⟨r,_,rfl⟩:=KQ.1 hb
   rw[KE]
   cases hx:H[r]? with
   | none=>exact qiz
   | some x=>exact hH x (Kc hx)
 have hc:q3w (q4e m ks) (H.take m++ks.map fun r=>H.getD r .gone)=true:=by
  unfold q3w
  rw[Ki]
  intro b hb
  rw[(hK b hb).1]
  rfl
 simp only[hc,qcO,q90,Bool.and_self,q9J]
 congr 1
 exact List.map_congr_left fun b hb=>(hK b hb).2.1 _ _
end Ago
set_option maxRecDepth 100000
set_option maxHeartbeats 4000000
namespace Ago
open Go (IntKind)

theorem qiW {a:Int} (h0:0≤a) (h:a<9223372036854775808):(BitVec.ofInt (IntKind.bits .i64) a).toNat=a.toNat:=by
 obtain ⟨n,rfl⟩ : ∃ n:Nat,a=n:=⟨a.toNat,by omega⟩
 have e:IntKind.bits .i64=64:=rfl
 rw[e,BitVec.toNat_ofInt]
 simp only[Int.toNat_natCast]
 omega
theorem quq {x y:Int} (k:Nat) (hx:0≤x) (hk:k<60) (hy:0≤y) (hyk:y<2^k) (hb:x * 2^k<4611686018427387904):IntKind.wrap .i64 ((BitVec.ofInt (IntKind.bits .i64) (x * 2^k) ||| BitVec.ofInt (IntKind.bits .i64) y).toNat:Int)=x * 2^k+y:=by
 have hp:(2:Nat)^k<2^60:=Nat.pow_lt_pow_right (by omega) hk
 have hpi:((2^k:Nat):Int)=(2:Int)^k:=by simp
 obtain ⟨n,rfl⟩ : ∃ n:Nat,x=n:=⟨x.toNat,by omega⟩
 obtain ⟨m,rfl⟩ : ∃ m:Nat,y=m:=⟨y.toNat,by omega⟩
 rw[←hpi] at hyk hb ⊢
 have hm:m<2^k:=by omega
 have hcast:(n:Int) * ((2^k:Nat):Int)=((n * 2^k:Nat):Int):=by simp
 rw[hcast] at hb ⊢
 rw[BitVec.toNat_or,qiW (by omega) (by omega),qiW (by omega) (by omega)]
 simp only[Int.toNat_natCast]
 rw[Nat.mul_comm n,←Nat.two_pow_add_eq_or_of_lt hm]
 rw[Nat.mul_comm n] at hb
 rw[w64 (by omega) (by omega)]
 simp
theorem qi4 {x y:Int} (hx:0≤x) (hx2:x<72057594037927936) (hy:0≤y) (hyk:y<64):IntKind.wrap .i64 ((BitVec.ofInt (IntKind.bits .i64) (x * 64) ||| BitVec.ofInt (IntKind.bits .i64) y).toNat:Int)=x * 64+y:=quq 6 hx (by omega) hy hyk (by omega)
end Ago
set_option maxRecDepth 100000
set_option maxHeartbeats 4000000
namespace Ago
open Go (IntKind)
theorem qhl (n:Int):qaB (.int .u8 n)=some (UInt8.ofNat n.toNat):=(rfl)
def qbB (r:Int):Bool:=decide (0≤r) && decide (r≤1114111) && (decide (r<55296) || decide (57343<r))
theorem pw6:(2:Int)^min 6 (IntKind.bits .i64)=64:=(rfl)

def q2M (c:UInt8):Bool:=decide (128≤c.toNat) && decide (c.toNat<192)
def qci (r:Int):Nat:=if r<128 then 1 else if r<2048 then 2 else if r<65536 then 3 else 4
def q2H (r:Int) (n:Nat):Int × Int:=if qbB r && qci r == n then (r,n) else (0,0)
def qwS (b:UInt8):Option UInt8→Int × Int
 | some c=>if q2M c then q2H ((b.toNat-192) * 64+(c.toNat-128)) 2 else (0,0)
 | none=>(0,0)
def qwL (b:UInt8):Option UInt8→Option UInt8→Int × Int
 | some c,some d=>if q2M c && q2M d then q2H (((b.toNat-224) * 64+(c.toNat-128)) * 64+(d.toNat-128)) 3 else (0,0)
 | _,_=>(0,0)
def qwK (b:UInt8):Option UInt8→Option UInt8→Option UInt8→Int × Int
 | some c,some d,some e=>if q2M c && q2M d && q2M e then q2H ((((b.toNat-240) * 64+(c.toNat-128)) * 64+(d.toNat-128)) * 64+(e.toNat-128)) 4 else (0,0)
 | _,_,_=>(0,0)
def q75 (s:List UInt8) (k:Nat) (b:UInt8):Int × Int:=
 if b.toNat<128 then (b.toNat,1)
 else if b.toNat<192 then (0,0)
 else if b.toNat<224 then qwS b s[k+1]?
 else if b.toNat<240 then qwL b s[k+1]? s[k+2]?
 else if b.toNat<248 then qwK b s[k+1]? s[k+2]? s[k+3]?
 else (0,0)
def qln (s:List UInt8) (k:Nat):Int × Int:=
 match s[k]? with
 | some b=>q75 s k b
 | none=>(0,0)

theorem qdc (b c:UInt8):qwS b (some c)=if q2M c=true then q2H ((b.toNat-192) * 64+(c.toNat-128)) 2 else (0,0):=rfl
theorem qcy (b c d:UInt8):qwL b (some c) (some d)=if (q2M c && q2M d)=true then q2H (((b.toNat-224) * 64+(c.toNat-128)) * 64+(d.toNat-128)) 3 else (0,0):=rfl
theorem qdI (b c d e:UInt8):qwK b (some c) (some d) (some e)=if (q2M c && q2M d && q2M e)=true then q2H ((((b.toNat-240) * 64+(c.toNat-128)) * 64+(d.toNat-128)) * 64+(e.toNat-128)) 4 else (0,0):=rfl
theorem q3i {c:UInt8}:q2M c=true↔128≤c.toNat∧c.toNat<192:=by unfold q2M; simp
end Ago
set_option maxRecDepth 100000
set_option maxHeartbeats 4000000
namespace Ago
open Go (IntKind)
def q55 (a b c d:Int) (i:Nat):Int:=if i=1 then a else if i=2 then b else if i=3 then c else d
theorem c1':((1:Nat):Int)=1:=rfl
theorem c2':((2:Nat):Int)=2:=rfl
theorem c3':((3:Nat):Int)=3:=rfl
theorem c4':((4:Nat):Int)=4:=rfl
end Ago
set_option maxRecDepth 100000
set_option maxHeartbeats 4000000
namespace Ago
open Go (IntKind)
theorem qes {r:Int} {n:Nat}:(q2H r n).2=0∨(q2H r n).2=n:=by
 unfold q2H
 split
 ·exact .inr rfl
 ·exact .inl rfl
theorem qcQ (s:List UInt8) (k:Nat) : ∃ n:Nat,(qln s k).2=n∧(n=0∨k+n≤s.length):=by
 have get_lt : ∀ {j:Nat} {c:UInt8},s[j]?=some c→j<s.length:=fun h=>(Ky.1 h).1
 have zero : ∃ n:Nat,(((0,0):Int × Int)).2=n∧(n=0∨k+n≤s.length):=⟨0,rfl,.inl rfl⟩
 have fin : ∀ (r:Int) (m:Nat),k+m≤s.length→∃ n:Nat,(q2H r m).2=n∧(n=0∨k+n≤s.length):=fun r m h=>by
  rcases qes (r:=r) (n:=m) with e | e
  ·exact ⟨0,e,.inl rfl⟩
  ·exact ⟨m,e,.inr h⟩
 unfold qln
 cases hb:s[k]? with
 | none=>exact zero
 | some b=>
  have:=get_lt hb
  simp only
  unfold q75
  split
  ·exact ⟨1,rfl,.inr (by omega)⟩
  ·split
   ·exact zero
   ·split
    ·cases hc:s[k+1]? with
     | none=>exact zero
     | some c=>
      have:=get_lt hc
      rw[qdc]
      split
      ·exact fin _ _ (by omega)
      ·exact zero
    ·split
     ·cases hc:s[k+1]? with
      | none=>exact zero
      | some c=>
       cases hd:s[k+2]? with
       | none=>exact zero
       | some d=>
        have:=get_lt hd
        rw[qcy]
        split
        ·exact fin _ _ (by omega)
        ·exact zero
     ·split
      ·cases hc:s[k+1]? with
       | none=>exact zero
       | some c=>
        cases hd:s[k+2]? with
        | none=>exact zero
        | some d=>
         cases he:s[k+3]? with
         | none=>exact zero
         | some e=>
          have:=get_lt he
          rw[qdI]
          split
          ·exact fin _ _ (by omega)
          ·exact zero
      ·exact zero

def q76 (s:List UInt8):Nat→Nat→Bool
 | 0,_=>true
 | f+1,k=>if s.length≤k then true else if (qln s k).2=0 then false else q76 s f (k+(qln s k).2.toNat)
def utf (s:List UInt8):Bool:=q76 s (s.length+1) 0
theorem qat (s:List UInt8) : ∀ (f g k:Nat),s.length-k<f→s.length-k<g→q76 s f k=q76 s g k
 | 0,_,_,h,_=>by omega
 | _,0,_,_,h=>by omega
 | f+1,g+1,k,h1,h2=>by
  obtain ⟨n,hn,h⟩:=qcQ s k
  simp only[q76]
  split
  ·rfl
  ·split
   ·rfl
   ·exact qat s f g _ (by omega) (by omega)
theorem qlK {s:List UInt8} {k:Nat} (h:s.length≤k):q76 s (s.length-k+1) k=true:=by
 simp only[q76]
 rw[if_pos h]
theorem qkl {s:List UInt8} {k:Nat} (h:k<s.length) (h0:(qln s k).2=0):q76 s (s.length-k+1) k=false:=by
 simp only[q76]
 rw[if_neg (by omega),if_pos h0]
theorem qiU {s:List UInt8} {k n:Nat} (h:k<s.length) (hn:(qln s k).2=n) (h0:n≠0):q76 s (s.length-k+1) k=q76 s (s.length-(k+n)+1) (k+n):=by
 conv=>lhs; simp only[q76]
 rw[if_neg (by omega),if_neg (by omega),hn]
 exact qat s _ _ _ (by simp; omega) (by simp)

end Ago
set_option maxRecDepth 100000
set_option maxHeartbeats 4000000
namespace Ago
open Go (IntKind)
def qmj (s:List UInt8):Nat→Nat→Nat
 | 0,_=>0
 | f+1,k=>if k<s.length then 1+qmj s f (k+(Go.Utf8.decode ⟨s.toArray⟩ k).2) else 0
def qpj (s:List UInt8):Nat:=qmj s s.length 0
end Ago
