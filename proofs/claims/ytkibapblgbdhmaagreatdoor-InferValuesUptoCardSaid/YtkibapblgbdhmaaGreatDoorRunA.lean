/- Layers 1 and 2 of the references: numerals and decimals. -/
import Derived.Test.YtkibapblgbdhmaaGreatDoorCodeZ
import Derived.Test.YtkibapblgbdhmaaGreatDoorMachE
import GoSem.Core.Utf8
set_option linter.unusedSimpArgs false
set_option linter.unusedVariables false
set_option maxRecDepth 100000
namespace Ago
def qbi (b:UInt8):Bool:=decide (48≤b.toNat∧b.toNat≤57)
def digits (s:List UInt8):Bool:=s.all qbi
theorem q0A {α:Type} {s:List α} {k:Nat} {c:α} {p:α→Bool} (hc:s[k]?=some c) (h:(s.take k).all p=true) (hp:p c=true):(s.take (k+1)).all p=true:=by
 rw[List.take_add_one,hc]
 simp_all
theorem q3o {α:Type} {s:List α} {k:Nat} {c:α} {p:α→Bool} (hc:s[k]?=some c) (hp:p c=false):s.all p=false:=by
 rw[List.all_eq_false]
 exact ⟨c,List.mem_of_getElem? hc,by simp [hp]⟩
theorem q06 {α:Type} {s:List α} {k:Nat} (h:k<s.length) : ∃ c,s[k]?=some c:=⟨_,List.getElem?_eq_getElem h⟩

theorem q9k (s:List UInt8) (hs:s.length<2^31):q0f C0 82 [.str s] (.bool (digits s)):=by
 refine q04 qqd rfl ?_
 simp (disch:=omega) only[go_sem,qqd,enter]
 refine q08 (α:=Nat) (fun k=>{ tmps:=q0i 20 [(0,.str s),(3,.int .i64 k)],heap:=[],base:=0 }) (fun k=>k≤s.length∧(s.take k).all qbi=true) (fun k=>s.length-k) 0 rfl ⟨Nat.zero_le _,rfl⟩ ?_
 rintro k ⟨hk,hd⟩
 by_cases hlt:k<s.length
 ·obtain ⟨c,hc⟩:=q06 hlt
  (repeat' first|simp (disch:=omega) only[go_sem,hc]|(apply spl<;>intro h<;>try simp (disch:=omega) only[go_sem,hc,h]))
  ·rw[digits,q3o hc (by simp [qbi]; omega)]
  ·exact ⟨k+1,rfl,⟨hlt,q0A hc hd (by simp [qbi]; omega)⟩,by omega⟩
  ·rw[digits,q3o hc (by simp [qbi]; omega)]
 ·(repeat' first|simp (disch:=omega) only[go_sem]|(apply spl<;>intro h<;>try simp (disch:=omega) only[go_sem,h]))
  have:k=s.length:=by omega
  subst this
  simpa [digits] using hd

def q6o (s:List UInt8):Bool:=decide (s.length≤600) && digits s && decide (s[0]?≠some 48)

theorem q9q (c:UInt8):(c.toNat:Int)=48↔c=48:=by
 constructor
 ·intro h
  have:c.toNat=48:=by omega
  exact UInt8.toNat_inj.1 this
 ·rintro rfl; rfl

theorem e00:(0:Int).toNat=0:=(rfl)
theorem qdg (s:List UInt8) (hs:s.length<2^31):q0f C0 59 [.str s] (.bool (q6o s)):=by
 refine q04 qlR rfl ?_
 by_cases h0:s.length=0
 ·have hn:s=[]:=List.eq_nil_of_length_eq_zero h0
  (repeat' first|simp (disch:=omega) only[go_sem,qlR,enter,h0]|refine q00 _ (q9k _ hs) ?_|(apply spl<;>intro h<;>try simp (disch:=omega) only[go_sem,qlR,enter,h0 ,h]))
  all_goals simp_all [q6o]
 ·obtain ⟨c,hc⟩:=q06 (s:=s) (k:=0) (by omega)
  (repeat' first|simp (disch:=omega) only[go_sem,qlR,enter,hc,e00]|refine q00 _ (q9k _ hs) ?_|(apply spl<;>intro h<;>try simp (disch:=omega) only[go_sem,qlR,enter,hc,e00 ,h]))
  all_goals simp_all [q6o,bne,q9q,q7t,q6B]
  all_goals omega

def q7D (l:List UInt8):List AV:=l.map fun c=>.int .u8 c.toNat
theorem q5J : ∀ l,q1v q9o (q7D l)=some l
 | []=>rfl
 | c::l=>by simp [q7D,q1v,q9o] at *; have:=q5J l; simp [q7D] at this; simp [this]

theorem q7P (n:Nat) (hn:n<2^24):q0f C0 40 [.int .i64 n] (.str (List.replicate n 48)):=by
 refine q04 qnQ rfl ?_
 by_cases h0:n=0
 ·subst h0
  simp (disch:=omega) only[go_sem,qnQ,enter]
  refine q08 (α:=Unit) (fun _=>{ tmps:=q0i 17 [(0,.int .i64 0),(3,.snil 1),(4,.int .i64 0)],heap:=[],base:=0 }) (fun _=>True) (fun _=>0) () rfl trivial ?_
  rintro _ _
  (repeat' first|simp (disch:=omega) only[go_sem]|(apply spl<;>intro h<;>try simp (disch:=omega) only[go_sem,h]))
 ·have e2 : ¬ (n:Int)=0:=by omega
  simp (disch:=omega) only[go_sem,qnQ,enter,e2]
  refine q08 (α:=Nat) (fun k=>{ tmps:=q0i 17 [(0,.int .i64 n),(3,.sref 1 0 0 n),(4,.int .i64 k)],heap:=[.row 1 (List.replicate k (.int .u8 48)++List.replicate (n-k) (.int .u8 0)) false true 0],base:=0 }) (fun k=>k≤n) (fun k=>n-k) 0 (by simp only[List.replicate_zero,List.nil_append,Nat.sub_zero]; rfl) (Nat.zero_le _) ?_
  rintro k hk
  by_cases hlt:k<n
  ·have hx:(List.replicate k (AV.int .u8 48)++List.replicate (n-k) (.int .u8 0))[k]?=some (.int .u8 0):=by
    rw[List.getElem?_append_right (by simp),List.length_replicate,Nat.sub_self,List.getElem?_replicate,if_pos (by omega)]
   (repeat' first|simp (disch:=omega) only[go_sem,hx]|(apply spl<;>intro h<;>try simp (disch:=omega) only[go_sem,hx,h]))
   refine ⟨k+1,?_,hlt,by omega⟩
   have:(List.replicate k (AV.int .u8 48)++List.replicate (n-k) (AV.int .u8 0)).set k (.int .u8 48)=List.replicate (k+1) (AV.int .u8 48)++List.replicate (n-(k+1)) (AV.int .u8 0):=by
    rw[List.set_append_right _ _ (by simp),List.replicate_succ',show n-k=(n-(k+1))+1 by omega]
    simp [List.replicate_succ]
   rw[this]
   rfl
  ·have hkn:k=n:=by omega
   subst hkn
   have hl:(List.replicate k (AV.int .u8 48)++List.replicate (k-k) (AV.int .u8 0)).length=k:=by simp
   have e:List.take k (List.replicate k (AV.int .u8 48)++List.replicate (k-k) (AV.int .u8 0))=q7D (List.replicate k 48):=by simp [q7D]
   (repeat' first|simp (disch:=omega) only[go_sem,hl,e,q5J]|(apply spl<;>intro h<;>try simp (disch:=omega) only[go_sem,hl,e,q5J,h]))

def q4d (s:List UInt8):Nat:=(s.reverse.takeWhile (· == 48)).length

theorem qaT (s:List UInt8) (hs:s.length<2^31):q0f C0 90 [.str s] (.int .i64 (q4d s)):=by
 refine q04 qpN rfl ?_
 simp (disch:=omega) only[go_sem,qpN,enter]
 refine q08 (α:=Nat) (fun k=>{ tmps:=q0i 21 [(0,.str s),(3,.int .i64 k)],heap:=[],base:=0 }) (fun k=>k≤s.length∧(s.reverse.take k).all (· == 48)=true) (fun k=>s.length-k) 0 rfl ⟨Nat.zero_le _,rfl⟩ ?_
 rintro k ⟨hk,hd⟩
 have fin:(k<s.length→∃ c,s.reverse[k]?=some c∧c≠48)→q4d s=k:=fun h=>by
  unfold q4d
  have key : ∀ (l:List UInt8) (k:Nat),(l.take k).all (· == 48)=true→(k<l.length→∃ c,l[k]?=some c∧c≠48)→k≤l.length→(l.takeWhile (· == 48)).length=k:=by
   intro l
   induction l with
   | nil=>intro k _ _ hk; simp at hk; simp [hk]
   | cons x l ih=>
    intro k h1 h2 h3
    cases k with
    | zero=>
     obtain ⟨c,h4,h5⟩:=h2 (by simp)
     simp at h4
     subst h4
     rw[List.takeWhile_cons_of_neg (by simpa using h5)]
     rfl
    | succ k=>
     simp only[List.take_succ_cons,List.all_cons,Bool.and_eq_true] at h1
     rw[List.takeWhile_cons_of_pos (by simpa using h1.1)]
     simp only[List.length_cons,Nat.add_right_cancel_iff]
     exact ih k h1.2 (fun h=>by simpa using h2 (by simpa using h)) (by simpa using h3)
  exact key s.reverse k hd (fun h2=>h (by simpa using h2)) (by simpa using hk)
 by_cases hlt:k<s.length
 ·obtain ⟨c,hc⟩:=q06 (s:=s) (k:=s.length-1-k) (by omega)
  have e:((s.length:Int)-1-k).toNat=s.length-1-k:=by omega
  have hr:s.reverse[k]?=some c:=by rw[List.getElem?_reverse hlt,hc]
  (repeat' first|simp (disch:=omega) only[go_sem,e,hc]|(apply spl<;>intro h<;>try simp (disch:=omega) only[go_sem,e,hc,h]))
  ·refine ⟨k+1,rfl,⟨hlt,q0A hr hd ?_⟩,by omega⟩
   simpa using (q9q c).1 h
  ·rw[fin fun _=>⟨c,hr,fun e=>h ((q9q c).2 e)⟩]
 ·(repeat' first|simp (disch:=omega) only[go_sem]|(apply spl<;>intro h<;>try simp (disch:=omega) only[go_sem,h]))
  rw[fin fun h=>absurd h hlt]

end Ago
set_option maxRecDepth 100000
namespace Ago
theorem q0C {α:Type} {s:List α} {k:Nat} (h : ¬ k<s.length) (h2:k≤s.length):s.take k=s:=List.take_of_length_le (by omega)

structure Dec where
 neg:Bool
 digits:List UInt8
 exp:Int
def q11 (d:Dec):AV:=.agg [.bool d.neg,.str d.digits,.int .i64 d.exp]

def q0Q (d:Dec):Bool:=
 if d.digits=[] then !d.neg && d.exp == 0
 else decide (d.digits.length≤120) && q6o d.digits && decide (q4d d.digits=0) && decide (-400≤d.exp) && decide (d.exp≤400)

theorem qbh (d:Dec) (hs:d.digits.length<2^31):q0f C0 79 [q11 d] (.bool (q0Q d)):=by
 refine q04 qn8 rfl ?_
 obtain ⟨neg,ds,exp⟩:=d
 simp only[q11] at *
 by_cases h0:ds=[]
 ·subst h0
  (repeat' first|simp (disch:=omega) only[go_sem,qn8,enter]|(apply spl<;>intro h<;>try simp (disch:=omega) only[go_sem,qn8,enter,h]))
  all_goals simp [q0Q]
 ·have hb:(ds == ([]:List UInt8))=false:=by simp [h0]
  have hz:=qaT ds hs
  (repeat' first|simp (disch:=omega) only[go_sem,qn8,enter,hb]|refine q00 _ (qdg _ hs) ?_|refine q00 _ (hz) ?_|(apply spl<;>intro h<;>try simp (disch:=omega) only[go_sem,qn8,enter,hb ,h]))
  all_goals simp [q0Q,h0]
  all_goals first | omega | (intros; omega) | (simp_all; done) | skip
  all_goals (have:(q4d ds:Int)=0↔q4d ds=0:=by omega)
  all_goals simp_all
  all_goals omega

end Ago
set_option maxRecDepth 100000
namespace Ago
open Go (IntKind)

structure Tm where
 kind:Int
 day:Int
 nano:Int
 off:Int
structure VS where
 kind:Int
 bool:Bool
 num:Dec
 time:Tm
 text:List UInt8
 bytes:List UInt8
inductive V where
 | mk (s:VS) (l:List V) (f:List (List UInt8 × V))

def V.s:V→VS | .mk s _ _=>s
def V.l:V→List V | .mk _ l _=>l
def V.f:V→List (List UInt8 × V) | .mk _ _ f=>f

mutual
def q0j:V→AV
 | .mk s l f=>.agg [.int .i64 s.kind,.bool s.bool,.bool s.num.neg,.str s.num.digits,.int .i64 s.num.exp,.int .i64 s.time.kind,.int .i64 s.time.day,.int .i64 s.time.nano,.int .i64 s.time.off,.str s.text,.tsl 1 (q7D s.bytes),.tsl 13 (qnL l),.tsl 14 (qnN f)]
def qnL:List V→List AV
 | []=>[]
 | v::l=>q0j v::qnL l
def qnN:List (List UInt8 × V)→List AV
 | []=>[]
 | (k,v)::f=>.agg (.str k::(q0j v).cells)::qnN f
end

theorem qei : ∀ l,qnL l=l.map q0j
 | []=>by simp [qnL]
 | v::l=>by simp [qnL,qei l]
def q0r (x:List UInt8 × V):AV:=.agg (.str x.1::(q0j x.2).cells)
theorem qeI : ∀ l,qnN l=l.map q0r
 | []=>by simp [qnN]
 | (k,v)::l=>by simp [qnN,qeI l,q0r]
theorem q07 (v:V):q0j v = .agg [.int .i64 v.s.kind,.bool v.s.bool,.bool v.s.num.neg,.str v.s.num.digits,.int .i64 v.s.num.exp,.int .i64 v.s.time.kind,.int .i64 v.s.time.day,.int .i64 v.s.time.nano,.int .i64 v.s.time.off,.str v.s.text,.tsl 1 (q7D v.s.bytes),.tsl 13 (v.l.map q0j),.tsl 14 (v.f.map q0r)]:=by
 cases v with
 | mk s l f=>simp [q0j,V.s,V.l,V.f,qei,qeI]
theorem q0D (x:List UInt8 × V):q0r x = .agg [.str x.1,.int .i64 x.2.s.kind,.bool x.2.s.bool,.bool x.2.s.num.neg,.str x.2.s.num.digits,.int .i64 x.2.s.num.exp,.int .i64 x.2.s.time.kind,.int .i64 x.2.s.time.day,.int .i64 x.2.s.time.nano,.int .i64 x.2.s.time.off,.str x.2.s.text,.tsl 1 (q7D x.2.s.bytes),.tsl 13 (x.2.l.map q0j),.tsl 14 (x.2.f.map q0r)]:=by
 unfold q0r
 rw[q07]
 rfl

def V.bulk (v:V):Nat:=(q0j v).bulk
theorem q1r : ∀ {l:List AV} {x:AV},x∈l→x.bulk≤AV.bulks l
 | [],x,h=>by cases h
 | y::l,x,h=>by
  rcases List.mem_cons.1 h with rfl | h
  ·simp [AV.bulks]
  ·have:=q1r h; simp [AV.bulks]; omega
theorem q1g : ∀ (l:List AV),l.length≤AV.bulks l
 | []=>by simp [AV.bulks]
 | x::l=>by have:=q1g l; have:=q1b x; simp [AV.bulks]; omega
theorem V.bulk_eq (v:V):v.bulk=v.s.num.digits.length+v.s.text.length+AV.bulks (q7D v.s.bytes)+AV.bulks (v.l.map q0j)+AV.bulks (v.f.map q0r)+14:=by
 unfold V.bulk
 rw[q07]
 simp [AV.bulk,AV.bulks]
 omega
theorem q0d (l:List UInt8):(q7D l).length=l.length:=by simp [q7D]

structure V.Lens (v:V) (N:Nat):Prop where
 digits:v.s.num.digits.length<N
 text:v.s.text.length<N
 bytes:v.s.bytes.length<N
 list:v.l.length<N
 fields:v.f.length<N
 kids : ∀ x,x∈v.l→x.bulk<v.bulk
 fkids : ∀ x,x∈v.f→x.2.bulk<v.bulk∧x.1.length<N
theorem V.lens {v:V} {N:Nat} (h:v.bulk≤N):v.Lens N:=by
 have e:=v.bulk_eq
 have h1:=q1g (q7D v.s.bytes)
 have h2:=q1g (v.l.map q0j)
 have h3:=q1g (v.f.map q0r)
 rw[q0d] at h1
 rw[List.length_map] at h2 h3
 refine ⟨by omega,by omega,by omega,by omega,by omega,fun x hx=>?_,fun x hx=>?_⟩
 ·have:=q1r (List.mem_map_of_mem (f:=q0j) hx)
  show (q0j x).bulk<_
  omega
 ·have:=q1r (List.mem_map_of_mem (f:=q0r) hx)
  have e2:(q0r x).bulk=x.2.bulk+x.1.length+1:=by
   unfold V.bulk q0r
   rw[q07]
   simp [AV.bulk,AV.bulks,AV.cells]
   omega
  omega
def q0x (n b:Nat):List AV→AV
 | []=>.snil n
 | x::l=>.sref n b 0 (l.length+1)
def q0y (n b:Nat):List AV→Heap
 | []=>[]
 | x::l=>[.row n (x::l) false true b]
theorem q09 {α β:Type} {g:α→β} {l:List α} {k:Nat} {x:α} (h:l[k]?=some x):(l.map g)[k]?=some (g x):=by rw[List.getElem?_map,h]; rfl
def q2G:AV:=.agg [.int .i64 0,.bool false,.bool false,.str [],.int .i64 0,.int .i64 0,.int .i64 0,.int .i64 0,.int .i64 0,.str [],.snil 1,.snil 13,.snil 14]
end Ago
set_option maxRecDepth 100000
set_option maxHeartbeats 4000000
namespace Ago
open Go (IntKind)

structure PS where
 op:Int
 lo:Int
 hi:Int
 min:Int
 max:Int
inductive Pat where
 | mk (s:PS) (a:List Pat)
def Pat.s:Pat→PS | .mk s _=>s
def Pat.a:Pat→List Pat | .mk _ a=>a
mutual
def q0v:Pat→AV
 | .mk s a=>.agg [.int .i64 s.op,.int .i64 s.lo,.int .i64 s.hi,.int .i64 s.min,.int .i64 s.max,.tsl 6 (q8t a)]
def q8t:List Pat→List AV
 | []=>[]
 | p::l=>q0v p::q8t l
end
theorem q7B : ∀ l,q8t l=l.map q0v
 | []=>by simp [q8t]
 | v::l=>by simp [q8t,q7B l]
theorem q0e (p:Pat):q0v p = .agg [.int .i64 p.s.op,.int .i64 p.s.lo,.int .i64 p.s.hi,.int .i64 p.s.min,.int .i64 p.s.max,.tsl 6 (p.a.map q0v)]:=by
 cases p with
 | mk s l=>simp [q0v,Pat.s,Pat.a,q7B]
def Pat.bulk (p:Pat):Nat:=(q0v p).bulk
theorem Pat.bulk_eq (p:Pat):p.bulk=AV.bulks (p.a.map q0v)+7:=by
 unfold Pat.bulk
 rw[q0e]
 simp [AV.bulk,AV.bulks]
 omega
structure Pat.Lens (p:Pat) (N:Nat):Prop where
 args:p.a.length<N
 kids : ∀ x,x∈p.a→x.bulk<p.bulk
theorem Pat.lens {p:Pat} {N:Nat} (h:p.bulk≤N):p.Lens N:=by
 have e:=p.bulk_eq
 have h2:=q1g (p.a.map q0v)
 rw[List.length_map] at h2
 refine ⟨by omega,fun x hx=>?_⟩
 have:=q1r (List.mem_map_of_mem (f:=q0v) hx)
 show (q0v x).bulk<_
 omega

structure Bnd where
 set:Bool
 num:Dec
 opn:Bool
structure Prt where
 lo:Bnd
 hi:Bnd
 sort:Int
def q0p (p:Prt):AV:=.agg [.bool p.lo.set,.bool p.lo.num.neg,.str p.lo.num.digits,.int .i64 p.lo.num.exp,.bool p.lo.opn,.bool p.hi.set,.bool p.hi.num.neg,.str p.hi.num.digits,.int .i64 p.hi.num.exp,.bool p.hi.opn,.int .i64 p.sort]
def q9C (b:Bnd):AV:=.agg [.bool b.set,.bool b.num.neg,.str b.num.digits,.int .i64 b.num.exp,.bool b.opn]
def q5N (l:List Prt):AV:=.agg [.tsl 11 (l.map q0p)]
theorem q7I (p:Prt):(q0p p).bulk=p.lo.num.digits.length+p.hi.num.digits.length+12:=by
 simp [q0p,AV.bulk,AV.bulks]
 omega

structure SS where
 op:Int
 mask:Int
 min:Int
 max:Int
 name:List UInt8
 parts:List Prt
 pat:Pat
 vals:List V
structure PK where
 key:List UInt8
 req:Bool
inductive Sch where
 | mk (s:SS) (p:List (PK × Sch)) (a:List Sch)
def Sch.s:Sch→SS | .mk s _ _=>s
def Sch.p:Sch→List (PK × Sch) | .mk _ p _=>p
def Sch.a:Sch→List Sch | .mk _ _ a=>a
def SS.cells (s:SS):List AV:=[.int .i64 s.op,.int .i64 s.mask,.int .i64 s.min,.int .i64 s.max,.str s.name,.tsl 11 (s.parts.map q0p),.int .i64 s.pat.s.op,.int .i64 s.pat.s.lo,.int .i64 s.pat.s.hi,.int .i64 s.pat.s.min,.int .i64 s.pat.s.max,.tsl 6 (s.pat.a.map q0v),.tsl 13 (s.vals.map q0j)]
mutual
def q03:Sch→AV
 | .mk s p a=>.agg (s.cells++[.tsl 17 (q7y p),.tsl 15 (q7S a)])
def q7S:List Sch→List AV
 | []=>[]
 | v::l=>q03 v::q7S l
def q7y:List (PK × Sch)→List AV
 | []=>[]
 | (k,v)::f=>.agg (.str k.key :: .bool k.req::(q03 v).cells)::q7y f
end
theorem q8x : ∀ l,q7S l=l.map q03
 | []=>by simp [q7S]
 | v::l=>by simp [q7S,q8x l]
def q0h (x:PK × Sch):AV:=.agg (.str x.1.key :: .bool x.1.req::(q03 x.2).cells)
theorem q8o : ∀ l,q7y l=l.map q0h
 | []=>by simp [q7y]
 | (k,v)::l=>by simp [q7y,q8o l,q0h]
theorem q01 (v:Sch):q03 v = .agg [.int .i64 v.s.op,.int .i64 v.s.mask,.int .i64 v.s.min,.int .i64 v.s.max,.str v.s.name,.tsl 11 (v.s.parts.map q0p),.int .i64 v.s.pat.s.op,.int .i64 v.s.pat.s.lo,.int .i64 v.s.pat.s.hi,.int .i64 v.s.pat.s.min,.int .i64 v.s.pat.s.max,.tsl 6 (v.s.pat.a.map q0v),.tsl 13 (v.s.vals.map q0j),.tsl 17 (v.p.map q0h),.tsl 15 (v.a.map q03)]:=by
 cases v with
 | mk s p a=>simp [q03,Sch.s,Sch.p,Sch.a,q8x,q8o,SS.cells]
theorem q0m (x:PK × Sch):q0h x = .agg [.str x.1.key,.bool x.1.req,.int .i64 x.2.s.op,.int .i64 x.2.s.mask,.int .i64 x.2.s.min,.int .i64 x.2.s.max,.str x.2.s.name,.tsl 11 (x.2.s.parts.map q0p),.int .i64 x.2.s.pat.s.op,.int .i64 x.2.s.pat.s.lo,.int .i64 x.2.s.pat.s.hi,.int .i64 x.2.s.pat.s.min,.int .i64 x.2.s.pat.s.max,.tsl 6 (x.2.s.pat.a.map q0v),.tsl 13 (x.2.s.vals.map q0j),.tsl 17 (x.2.p.map q0h),.tsl 15 (x.2.a.map q03)]:=by
 show AV.agg (.str x.1.key :: .bool x.1.req::(q03 x.2).cells)=_
 rw[q01]
 simp only[AV.cells]
def Sch.bulk (v:Sch):Nat:=(q03 v).bulk
theorem Sch.bulk_eq (v:Sch):v.bulk=v.s.name.length+AV.bulks (v.s.parts.map q0p)+AV.bulks (v.s.pat.a.map q0v)+AV.bulks (v.s.vals.map q0j)+AV.bulks (v.p.map q0h)+AV.bulks (v.a.map q03)+16:=by
 unfold Sch.bulk
 rw[q01]
 simp [AV.bulk,AV.bulks]
 omega
structure Sch.Lens (v:Sch) (N:Nat):Prop where
 name:v.s.name.length<N
 parts:v.s.parts.length<N
 part : ∀ x,x∈v.s.parts→x.lo.num.digits.length<N∧x.hi.num.digits.length<N
 pat:v.s.pat.bulk<v.bulk
 vals:v.s.vals.length<N
 val : ∀ x,x∈v.s.vals→x.bulk<v.bulk
 props:v.p.length<N
 args:v.a.length<N
 kids : ∀ x,x∈v.a→x.bulk<v.bulk
 pkids : ∀ x,x∈v.p→x.2.bulk<v.bulk∧x.1.key.length<N
theorem Sch.lens {v:Sch} {N:Nat} (h:v.bulk≤N):v.Lens N:=by
 have e:=v.bulk_eq
 have h1:=q1g (v.s.parts.map q0p)
 have h2:=q1g (v.s.vals.map q0j)
 have h3:=q1g (v.p.map q0h)
 have h4:=q1g (v.a.map q03)
 have h5:=v.s.pat.bulk_eq
 rw[List.length_map] at h1 h2 h3 h4
 refine ⟨by omega,by omega,fun x hx=>?_,by omega,by omega,fun x hx=>?_,by omega,by omega,fun x hx=>?_,fun x hx=>?_⟩
 ·have:=q1r (List.mem_map_of_mem (f:=q0p) hx)
  rw[q7I] at this
  omega
 ·have:=q1r (List.mem_map_of_mem (f:=q0j) hx)
  show (q0j x).bulk<_
  omega
 ·have:=q1r (List.mem_map_of_mem (f:=q03) hx)
  show (q03 x).bulk<_
  omega
 ·have:=q1r (List.mem_map_of_mem (f:=q0h) hx)
  have e2:(q0h x).bulk=x.2.bulk+x.1.key.length+2:=by
   unfold Sch.bulk q0h
   rw[q01]
   simp [AV.bulk,AV.bulks,AV.cells]
   omega
  omega
def q1C (x:List UInt8 × Sch):AV:=.agg (.str x.1::(q03 x.2).cells)
theorem q1P (x:List UInt8 × Sch):q1C x = .agg [.str x.1,.int .i64 x.2.s.op,.int .i64 x.2.s.mask,.int .i64 x.2.s.min,.int .i64 x.2.s.max,.str x.2.s.name,.tsl 11 (x.2.s.parts.map q0p),.int .i64 x.2.s.pat.s.op,.int .i64 x.2.s.pat.s.lo,.int .i64 x.2.s.pat.s.hi,.int .i64 x.2.s.pat.s.min,.int .i64 x.2.s.pat.s.max,.tsl 6 (x.2.s.pat.a.map q0v),.tsl 13 (x.2.s.vals.map q0j),.tsl 17 (x.2.p.map q0h),.tsl 15 (x.2.a.map q03)]:=by
 show AV.agg (.str x.1::(q03 x.2).cells)=_
 rw[q01]
 simp only[AV.cells]
theorem q8w (x:List UInt8 × Sch):(q1C x).bulk=x.1.length+x.2.bulk+1:=by
 unfold Sch.bulk q1C
 rw[q01]
 simp [AV.bulk,AV.bulks,AV.cells]
 omega
structure Schs where
 defs:List (List UInt8 × Sch)
 root:Sch
def q0Z (s:Schs):AV:=.agg (.tsl 16 (s.defs.map q1C)::(q03 s.root).cells)
theorem q0n (s:Schs):q0Z s = .agg [.tsl 16 (s.defs.map q1C),.int .i64 s.root.s.op,.int .i64 s.root.s.mask,.int .i64 s.root.s.min,.int .i64 s.root.s.max,.str s.root.s.name,.tsl 11 (s.root.s.parts.map q0p),.int .i64 s.root.s.pat.s.op,.int .i64 s.root.s.pat.s.lo,.int .i64 s.root.s.pat.s.hi,.int .i64 s.root.s.pat.s.min,.int .i64 s.root.s.pat.s.max,.tsl 6 (s.root.s.pat.a.map q0v),.tsl 13 (s.root.s.vals.map q0j),.tsl 17 (s.root.p.map q0h),.tsl 15 (s.root.a.map q03)]:=by
 unfold q0Z
 rw[q01]
 simp only[AV.cells]
def Schs.bulk (s:Schs):Nat:=(q0Z s).bulk
theorem Schs.bulk_eq (s:Schs):s.bulk=AV.bulks (s.defs.map q1C)+s.root.bulk+1:=by
 unfold Schs.bulk Sch.bulk q0Z
 rw[q01]
 simp [AV.bulk,AV.bulks,AV.cells]
 omega
def Sch.kids (v:Sch):List Sch:=v.p.map (·.2)++v.a
theorem Sch.kids_bulk {v:Sch} {x:Sch} (h:x∈v.kids):x.bulk<v.bulk:=by
 have L:=Sch.lens (Nat.le_refl v.bulk)
 unfold Sch.kids at h
 rcases List.mem_append.1 h with h | h
 ·obtain ⟨y,hy,rfl⟩:=List.mem_map.1 h
  exact (L.pkids y hy).1
 ·exact L.kids x h
theorem Sch.kids_sum (v:Sch):AV.bulks (v.kids.map q03)+v.p.length+v.p.length≤AV.bulks (v.p.map q0h)+AV.bulks (v.a.map q03):=by
 unfold Sch.kids
 rw[List.map_append,q2Q]
 have : ∀ l:List (PK × Sch),AV.bulks ((l.map (·.2)).map q03)+l.length+l.length≤AV.bulks (l.map q0h):=by
  intro l
  induction l with
  | nil=>simp [AV.bulks]
  | cons x l ih=>
   have e2:(q0h x).bulk=x.2.bulk+x.1.key.length+2:=by
    unfold Sch.bulk q0h
    rw[q01]
    simp [AV.bulk,AV.bulks,AV.cells]
    omega
   simp only[List.map_cons,AV.bulks,List.length_cons]
   have:(q03 x.2).bulk=x.2.bulk:=rfl
   omega
 have:=this v.p
 omega
theorem q70 {α:Type} {l:List α} {k:Nat} {x:α} (hx:l[k]?=some x):l.drop k=x::l.drop (k+1):=by
 obtain ⟨h3,h4⟩:=List.getElem?_eq_some_iff.1 hx
 rw[List.drop_eq_getElem_cons h3,h4]
end Ago
set_option maxRecDepth 100000
set_option maxHeartbeats 4000000
namespace Ago
open Go (IntKind)
theorem qeJ : ∀ a:List UInt8,Go.Op.bytesLess a a=false
 | []=>by simp [Go.Op.bytesLess]
 | x::a=>by simp [Go.Op.bytesLess,qeJ a]
theorem qbf : ∀ a b:List UInt8,Go.Op.bytesLess a b=false→Go.Op.bytesLess b a=false→a=b
 | [],[],_,_=>rfl
 | [],_::_,h,_=>by simp [Go.Op.bytesLess] at h
 | _::_,[],_,h=>by simp [Go.Op.bytesLess] at h
 | x::a,y::b,h1,h2=>by
  simp only[Go.Op.bytesLess,Bool.or_eq_false_iff,Bool.and_eq_false_iff,decide_eq_false_iff_not,beq_eq_false_iff_ne,ne_eq] at h1 h2
  have e:x=y:=by
   have k1:=h1.1
   have k2:=h2.1
   have k3 : ¬ x.toNat<y.toNat:=k1
   have k4 : ¬ y.toNat<x.toNat:=k2
   exact UInt8.toNat_inj.1 (by omega)
  subst e
  have h3:Go.Op.bytesLess a b=false:=by
   rcases h1.2 with h | h
   ·exact absurd rfl h
   ·exact h
  have h4:Go.Op.bytesLess b a=false:=by
   rcases h2.2 with h | h
   ·exact absurd rfl h
   ·exact h
  rw[qbf a b h3 h4]
theorem qa3 : ∀ a b:List UInt8,Go.Op.bytesLess a b=true→Go.Op.bytesLess b a=false
 | [],[],h=>by simp [Go.Op.bytesLess] at h
 | [],_::_,_=>by simp [Go.Op.bytesLess]
 | _::_,[],h=>by simp [Go.Op.bytesLess] at h
 | x::a,y::b,h=>by
  simp only[Go.Op.bytesLess,Bool.or_eq_true,Bool.and_eq_true,decide_eq_true_eq,beq_iff_eq] at h
  simp only[Go.Op.bytesLess,Bool.or_eq_false_iff,Bool.and_eq_false_iff,decide_eq_false_iff_not,beq_eq_false_iff_ne,ne_eq]
  rcases h with h | ⟨rfl,h⟩
  ·have k:x.toNat<y.toNat:=h
   refine ⟨fun h2=>?_,.inl fun h2=>?_⟩
   ·have k2:y.toNat<x.toNat:=h2
    omega
   ·rw[h2] at k
    omega
  ·refine ⟨fun h2=>?_,.inr (qa3 a b h)⟩
   have k2:x.toNat<x.toNat:=h2
   omega
theorem q9V : ∀ a b c:List UInt8,Go.Op.bytesLess a b=true→Go.Op.bytesLess b c=true→Go.Op.bytesLess a c=true
 | _,[],_,h,_=>by
  rename_i x _
  cases x<;>simp [Go.Op.bytesLess] at h
 | _,_::_,[],_,h=>by simp [Go.Op.bytesLess] at h
 | [],_::_,_::_,_,_=>by simp [Go.Op.bytesLess]
 | x::a,y::b,z::c,h1,h2=>by
  simp only[Go.Op.bytesLess,Bool.or_eq_true,Bool.and_eq_true,decide_eq_true_eq,beq_iff_eq] at h1 h2 ⊢
  rcases h1 with h1 | ⟨rfl,h1⟩
  ·rcases h2 with h2 | ⟨rfl,h2⟩
   ·have k1:x.toNat<y.toNat:=h1
    have k2:y.toNat<z.toNat:=h2
    exact .inl (show x.toNat<z.toNat by omega)
   ·exact .inl h1
  ·rcases h2 with h2 | ⟨rfl,h2⟩
   ·exact .inl h2
   ·exact .inr ⟨rfl,q9V a b c h1 h2⟩
def leB (a b:List UInt8):Bool:=!Go.Op.bytesLess b a
theorem qhC {a b c:List UInt8} (h1:leB a b=true) (h2:leB b c=true):leB a c=true:=by
 unfold leB at *
 simp only[Bool.not_eq_true'] at *
 cases h:Go.Op.bytesLess c a with
 | false=>rfl
 | true=>
  cases h3:Go.Op.bytesLess b a with
  | true=>rw[h3] at h1; cases h1
  | false=>
   cases h4:Go.Op.bytesLess a b with
   | true=>
    have:=q9V _ _ _ h h4
    rw[this] at h2
    cases h2
   | false=>
    have:=qbf _ _ h3 h4
    subst this
    rw[h] at h2
    cases h2
theorem qmy {a b:List UInt8} (h:leB a b=false):leB b a=true:=by
 unfold leB at *
 simp only[Bool.not_eq_false'] at h
 rw[qa3 _ _ h]
 rfl
theorem qcH (a b:List UInt8):(Go.Op.bytesLess a b || a == b)=leB a b:=by
 unfold leB
 cases h1:Go.Op.bytesLess a b with
 | true=>rw[qa3 _ _ h1]; rfl
 | false=>
  cases h2:Go.Op.bytesLess b a with
  | true=>
   have:(a == b)=false:=by
    by_cases e:a=b
    ·subst e
     rw[qeJ] at h2
     cases h2
    ·simpa using e
   rw[this]
   rfl
  | false=>
   rw[qbf _ _ h1 h2]
   simp
section
variable {α:Type}
def q9s (x:List UInt8 × α) (l:List (List UInt8 × α)):List (List UInt8 × α):=l.takeWhile (fun y=>leB y.1 x.1)++x::l.dropWhile fun y=>leB y.1 x.1
def q30 (l:List (List UInt8 × α)):List (List UInt8 × α):=l.foldl (fun out x=>q9s x out) []
theorem qhm (l:List (List UInt8 × α)) (x:List UInt8 × α):q30 (l++[x])=q9s x (q30 l):=by
 unfold q30
 rw[List.foldl_append]
 rfl
theorem qbp (x:List UInt8 × α) (l:List (List UInt8 × α)):(q9s x l).Perm (x::l):=by
 unfold q9s
 refine (List.perm_middle).trans ?_
 rw[List.takeWhile_append_dropWhile]
theorem q2q (l:List (List UInt8 × α)):(q30 l).Perm l:=by
 have : ∀ (l out:List (List UInt8 × α)),(l.foldl (fun out x=>q9s x out) out).Perm (out++l):=by
  intro l
  induction l with
  | nil=>intro out; simp
  | cons x l ih=>
   intro out
   rw[List.foldl_cons]
   refine (ih _).trans ?_
   refine ((qbp x out).append_right l).trans ?_
   rw[List.cons_append]
   exact List.perm_middle.symm
 exact this l []
def qib (l:List (List UInt8 × α)):Prop:=l.Pairwise fun a b=>leB a.1 b.1=true
theorem qdQ (x:List UInt8 × α) : ∀ {l:List (List UInt8 × α)},qib l→qib (q9s x l)
 | [],_=>by simp [q9s,qib]
 | y::l,h=>by
  unfold qib at h
  rw[List.pairwise_cons] at h
  have ih:=qdQ x h.2
  unfold q9s at *
  rw[List.takeWhile_cons,List.dropWhile_cons]
  cases hy:leB y.1 x.1 with
  | true=>
   rw[if_pos rfl,if_pos rfl,List.cons_append]
   unfold qib at *
   rw[List.pairwise_cons]
   refine ⟨fun z hz=>?_,ih⟩
   have hz2:=(qbp x l).mem_iff.1 (show z∈q9s x l from hz)
   rcases List.mem_cons.1 hz2 with rfl | hz2
   ·exact hy
   ·exact h.1 z hz2
  | false=>
   rw[if_neg (by simp),if_neg (by simp),List.nil_append]
   unfold qib
   have hx:=qmy hy
   rw[List.pairwise_cons,List.pairwise_cons]
   refine ⟨fun z hz=>?_,h.1,h.2⟩
   rcases List.mem_cons.1 hz with rfl | hz
   ·exact hx
   ·exact qhC hx (h.1 z hz)
theorem qeh (l:List (List UInt8 × α)):qib (q30 l):=by
 have : ∀ (l out:List (List UInt8 × α)),qib out→qib (l.foldl (fun out x=>q9s x out) out):=by
  intro l
  induction l with
  | nil=>intro out h; exact h
  | cons x l ih=>intro out h; exact ih _ (qdQ x h)
 exact this l [] List.Pairwise.nil
theorem qgO {x:List UInt8 × α} {l:List (List UInt8 × α)} (h : ∀ y,y∈l→leB y.1 x.1=true):q9s x l=l++[x]:=by
 have : ∀ {m:List (List UInt8 × α)},(∀ y,y∈m→leB y.1 x.1=true)→m.takeWhile (fun y=>leB y.1 x.1)=m∧m.dropWhile (fun y=>leB y.1 x.1)=[]:=by
  intro m hm
  induction m with
  | nil=>exact ⟨rfl,rfl⟩
  | cons y m ih=>
   rw[List.takeWhile_cons,List.dropWhile_cons,hm y (List.mem_cons_self ..),if_pos rfl,if_pos rfl]
   obtain ⟨h1,h2⟩:=ih fun z hz=>hm z (List.mem_cons_of_mem _ hz)
   rw[h1,h2]
   exact ⟨rfl,rfl⟩
 unfold q9s
 rw[(this h).1,(this h).2]
theorem qmb {l:List (List UInt8 × α)} (h:qib l):q30 l=l:=by
 have : ∀ (l out:List (List UInt8 × α)),qib (out++l)→l.foldl (fun out x=>q9s x out) out=out++l:=by
  intro l
  induction l with
  | nil=>intro out h; simp
  | cons x l ih=>
   intro out h
   rw[List.foldl_cons,qgO,ih]
   ·simp
   ·simpa using h
   ·intro y hy
    exact (List.pairwise_append.1 h).2.2 y hy x (List.mem_cons_self ..)
 exact this l [] h
theorem qjY {β:Type} (g:α→β) (x:List UInt8 × α) (l:List (List UInt8 × α)):q9s (x.1,g x.2) (l.map fun y=>(y.1,g y.2))=(q9s x l).map fun y=>(y.1,g y.2):=by
 unfold q9s
 rw[List.map_append,List.map_cons,List.takeWhile_map,List.dropWhile_map]
 rfl
theorem qkp {β:Type} (g:α→β) (l:List (List UInt8 × α)):q30 (l.map fun y=>(y.1,g y.2))=(q30 l).map fun y=>(y.1,g y.2):=by
 have : ∀ (l out:List (List UInt8 × α)),(l.map fun y=>(y.1,g y.2)).foldl (fun out x=>q9s x out) (out.map fun y=>(y.1,g y.2))=(l.foldl (fun out x=>q9s x out) out).map fun y=>(y.1,g y.2):=by
  intro l
  induction l with
  | nil=>intro out; rfl
  | cons x l ih=>
   intro out
   rw[List.map_cons,List.foldl_cons,List.foldl_cons,qjY,ih]
 exact this l []
end
def q13:Nat→V→V
 | 0,v=>v
 | n+1,v=>.mk v.s (v.l.map (q13 n)) ((q30 v.f).map fun y=>(y.1,q13 n y.2))
theorem q97 {l m:List AV} (h:l.Perm m):AV.bulks l=AV.bulks m:=by
 induction h with
 | nil=>rfl
 | cons x _ ih=>simp [AV.bulks,ih]
 | swap x y l=>simp [AV.bulks]; omega
 | trans _ _ ih1 ih2=>exact ih1.trans ih2
theorem q9n (x:List UInt8 × V):(q0r x).bulk=x.2.bulk+x.1.length+1:=by
 unfold V.bulk q0r
 rw[q07]
 simp [AV.bulk,AV.bulks,AV.cells]
 omega
theorem q6t : ∀ (n:Nat) (v:V),(q13 n v).bulk=v.bulk
 | 0,v=>rfl
 | n+1,v=>by
  have e1:AV.bulks ((v.l.map (q13 n)).map q0j)=AV.bulks (v.l.map q0j):=by
   generalize v.l=l
   induction l with
   | nil=>rfl
   | cons x l ih=>
    simp only[List.map_cons,AV.bulks]
    have:(q0j (q13 n x)).bulk=(q0j x).bulk:=q6t n x
    omega
  have e2 : ∀ l:List (List UInt8 × V),AV.bulks ((l.map fun y=>(y.1,q13 n y.2)).map q0r)=AV.bulks (l.map q0r):=by
   intro l
   induction l with
   | nil=>rfl
   | cons x l ih=>
    simp only[List.map_cons,AV.bulks,q9n]
    have:=q6t n x.2
    omega
  have e3:AV.bulks ((q30 v.f).map q0r)=AV.bulks (v.f.map q0r):=q97 ((q2q v.f).map _)
  rw[V.bulk_eq,V.bulk_eq v]
  show v.s.num.digits.length+v.s.text.length+AV.bulks (q7D v.s.bytes)+AV.bulks ((v.l.map (q13 n)).map q0j)+AV.bulks (((q30 v.f).map fun y=>(y.1,q13 n y.2)).map q0r)+14=_
  rw[e1,e2,e3]
def q2k (n r:Nat) (E:List AV):AV:=if E.isEmpty then .snil n else .sref n r 0 E.length
def q2j (n r:Nat) (E:List AV):Heap:=if E.isEmpty then [] else [.row n E false true r]
theorem q1d {α β:Type} (g:α→β) (l:List α):(l.map g).take l.length=l.map g:=by rw[←List.length_map (as:=l) (f:=g),List.take_length]
theorem qrk {a b:Nat} (h:b<a):(a≤b)=False:=by
 simp
 omega
theorem qqL {a b:Nat} (h:a<b∨b<a):(a=b)=False:=by
 simp
 omega
theorem qrp {a b:Nat} (h:a=b):(a=b)=True:=by simp [h]
end Ago
set_option maxRecDepth 100000
set_option maxHeartbeats 4000000
namespace Ago
open Go (IntKind)
def qeB (a b:List UInt8):Int:=if Go.Op.bytesLess a b then -1 else if a == b then 0 else 1
theorem qdP (x:List UInt8):q0f C0 75 [.str x] (.bool false):=by
 refine q04 qoE rfl ?_
 (repeat' first|simp (disch:=omega) only[go_sem,qoE,enter]|(apply spl<;>intro h<;>try simp (disch:=omega) only[go_sem,qoE,enter,h]))
theorem qee (x y:List UInt8):q0f C0 51 [.str x,.str y] (.int .i64 (qeB x y)):=by
 have h1:=qdP x
 have h2:=qdP y
 refine q04 qjt rfl ?_
 unfold qeB
 cases h:Go.Op.bytesLess x y with
 | true=>
  rw[if_pos rfl]
  (repeat' first|simp (disch:=omega) only[go_sem,qjt,enter,h]|refine q00 _ (h1) ?_|refine q00 _ (h2) ?_|(apply spl<;>intro h<;>try simp (disch:=omega) only[go_sem,qjt,enter,h ,h]))
 | false=>
  rw[if_neg (by simp)]
  cases h':(x == y) with
  | true=>
   rw[if_pos rfl]
   (repeat' first|simp (disch:=omega) only[go_sem,qjt,enter,h,h',Bool.or_true,Bool.not_true]|refine q00 _ (h1) ?_|refine q00 _ (h2) ?_|(apply spl<;>intro h<;>try simp (disch:=omega) only[go_sem,qjt,enter,h,h',Bool.or_true,Bool.not_true ,h]))
  | false=>
   rw[if_neg (by simp)]
   (repeat' first|simp (disch:=omega) only[go_sem,qjt,enter,h,h',Bool.or_false,Bool.not_false]|refine q00 _ (h1) ?_|refine q00 _ (h2) ?_|(apply spl<;>intro h<;>try simp (disch:=omega) only[go_sem,qjt,enter,h,h',Bool.or_false,Bool.not_false ,h]))
theorem qm6 {a b:List UInt8} (h:Go.Op.bytesLess a b=true):qeB a b = -1:=by
 unfold qeB
 rw[if_pos h]
theorem qlX {a b:List UInt8} (h:Go.Op.bytesLess b a=true):qeB a b=1:=by
 unfold qeB
 rw[qa3 _ _ h,if_neg (by simp)]
 have:(a == b)=false:=by
  by_cases e:a=b
  ·subst e
   rw[qeJ] at h
   cases h
  ·simpa using e
 rw[this]
 rfl
theorem qna {a b:List UInt8} (h1:Go.Op.bytesLess a b=false) (h2:Go.Op.bytesLess b a=false):qeB a b=0:=by
 unfold qeB
 rw[h1,if_neg (by simp),qbf a b h1 h2]
 simp
end Ago
set_option maxRecDepth 100000
set_option maxHeartbeats 4000000
namespace Ago
open Go (IntKind)
structure Stp where
 byIndex:Bool
 key:List UInt8
 index:Int
 deriving DecidableEq
end Ago
set_option maxRecDepth 100000
set_option maxHeartbeats 4000000
namespace Ago
open Go (IntKind)

def qlW (base:Nat) (res:List ResV) (v:AV) (H':Heap) (e:Ex) (s:St):Prop:=(e = .normal∨e = .ret)∧∃ u,results res s=some u∧(q8D base u s.heap).tmps.getD 0 .dead=v∧(q8D base u s.heap).heap=H'
theorem q5H {base:Nat} {res:List ResV} {v:AV} {H':Heap} {e:Ex} {s:St} (he:e = .normal∨e = .ret) (u:AV) (h1:results res s=some u) (h2:(q8D base u s.heap).tmps.getD 0 .dead=v) (h3:(q8D base u s.heap).heap=H'):qlW base res v H' e s:=⟨he,u,h1,h2,h3⟩
theorem q1X {C:Ctx} {f:Nat} (fn:AFn) {args:List AV} {H:Heap} {v:AV} {H':Heap} (hf:C.code f=some fn) (h : @q0Y (enter fn args H) ⟨aw (q1M C) (q0f C) fn.body (qlW H.length fn.res v H')⟩):q1M C f args H v H':=by
 unfold q0Y at h
 exact qh2 hf h




theorem qeN {s:List UInt8} {k:Nat} (hk:k≤s.length) (hd:(s.reverse.take k).all (· == 48)=true) (h:k<s.length→∃ c,s.reverse[k]?=some c∧c≠48):q4d s=k:=by
 unfold q4d
 have key : ∀ (l:List UInt8) (k:Nat),(l.take k).all (· == 48)=true→(k<l.length→∃ c,l[k]?=some c∧c≠48)→k≤l.length→(l.takeWhile (· == 48)).length=k:=by
  intro l
  induction l with
  | nil=>intro k _ _ hk; simp at hk; simp [hk]
  | cons x l ih=>
   intro k h1 h2 h3
   cases k with
   | zero=>
    obtain ⟨c,h4,h5⟩:=h2 (by simp)
    simp at h4
    subst h4
    rw[List.takeWhile_cons_of_neg (by simpa using h5)]
    rfl
   | succ k=>
    simp only[List.take_succ_cons,List.all_cons,Bool.and_eq_true] at h1
    rw[List.takeWhile_cons_of_pos (by simpa using h1.1)]
    simp only[List.length_cons,Nat.add_right_cancel_iff]
    exact ih k h1.2 (fun h=>by simpa using h2 (by simpa using h)) (by simpa using h3)
 exact key s.reverse k hd (fun h2=>h (by simpa using h2)) (by simpa using hk)
theorem qj9 (s:List UInt8):q4d s≤s.length:=by
 unfold q4d
 have:=(List.takeWhile_sublist (fun x=>x == (48:UInt8)) (l:=s.reverse)).length_le
 simpa using this

theorem qbI (s:List UInt8) (hs:s.length<2^31):q0f C0 155 [.str s,.int .u8 48] (.str (s.take (s.length-q4d s))):=by
 refine q04 qkv rfl ?_
 simp (disch:=omega) only[go_sem,qkv,enter]
 refine q08 (α:=Nat) (fun k=>{ tmps:=q0i 23 [(0,.str (s.take (s.length-k))),(1,.int .u8 48)],heap:=[],base:=0 }) (fun k=>k≤s.length∧(s.reverse.take k).all (· == 48)=true) (fun k=>s.length-k) 0 (by rw[Nat.sub_zero,List.take_length]; rfl) ⟨Nat.zero_le _,rfl⟩ ?_
 rintro k ⟨hk,hd⟩
 have hlen:(s.take (s.length-k)).length=s.length-k:=by simp
 by_cases hlt:k<s.length
 ·obtain ⟨c,hc⟩:=q06 (s:=s) (k:=s.length-1-k) (by omega)
  have e:(((s.length-k:Nat):Int)-1).toNat=s.length-1-k:=by omega
  have hc2:(s.take (s.length-k))[s.length-1-k]?=some c:=by rw[List.getElem?_take_of_lt (by omega)]; exact hc
  have hr:s.reverse[k]?=some c:=by rw[List.getElem?_reverse hlt,←hc]
  have htt:List.take (s.length-1-k) (s.take (s.length-k))=s.take (s.length-(k+1)):=by rw[List.take_take]; congr 1; omega
  by_cases h48:c=48
  ·have h48i:(c.toNat:Int)=48:=(q9q c).2 h48
   (repeat' first|simp (disch:=omega) only[go_sem,hlen,e,hc2,h48i,htt]|(apply spl<;>intro h<;>try simp (disch:=omega) only[go_sem,hlen,e,hc2,h48i,htt,h]))
   refine ⟨k+1,rfl,⟨hlt,q0A hr hd (by simpa using h48)⟩,by omega⟩
  ·have h48i : ¬ (c.toNat:Int)=48:=fun e=>h48 ((q9q c).1 e)
   rw[qeN hk hd (fun _=>⟨c,hr,h48⟩)]
   (repeat' first|simp (disch:=omega) only[go_sem,hlen,e,hc2,h48i,htt]|(apply spl<;>intro h<;>try simp (disch:=omega) only[go_sem,hlen,e,hc2,h48i,htt,h]))
 ·rw[qeN hk hd (fun h=>absurd h hlt)]
  (repeat' first|simp (disch:=omega) only[go_sem,hlen]|(apply spl<;>intro h<;>try simp (disch:=omega) only[go_sem,hlen,h]))

theorem qa6 (s:List UInt8) (hs:s.length<2^31):q0f C0 148 [.str s,.str [48]] (.str (s.take (s.length-q4d s))):=by
 refine q04 qcD rfl ?_
 by_cases h0:s=[]
 ·subst h0
  (repeat' first|simp (disch:=omega) only[go_sem,qcD,enter]|(apply spl<;>intro h<;>try simp (disch:=omega) only[go_sem,qcD,enter,h]))
  all_goals rfl
 ·have hb:(s == ([]:List UInt8))=false:=by simp [h0]
  have hr:=qbI s hs
  have e48:((UInt8.toNat 48:Nat):Int)=48:=rfl
  have en:(([48]:List UInt8) == [])=false:=rfl
  (repeat' first|simp (disch:=omega) only[go_sem,qcD,enter,hb,e48,en]|refine q00 _ (hr) ?_|(apply spl<;>intro h<;>try simp (disch:=omega) only[go_sem,qcD,enter,hb,e48,en ,h]))
end Ago
namespace Ago
def Blk.refam (g:Nat→Nat):Blk→Blk
 | .row n els ro fl fam=>.row n els ro fl (g fam)
 | b=>b
def Blk.isRo:Blk→Bool
 | .row _ _ ro _ _=>ro
 | _=>false
def qmh (b:Blk):Prop:=b.refs=[]∧(∀ f g,Blk.ren f g b=Blk.refam g b)∧b.isRo=false
def Calms (H:Heap):Prop:=∀ b,b∈H→qmh b
theorem q7e (n:Nat) (els:List AV) (fam:Nat):qmh (.row n els false true fam):=⟨rfl,fun _ _=>rfl,rfl⟩
theorem qiO:qmh .gone:=⟨rfl,fun _ _=>rfl,rfl⟩
def q9Y (x:AV):Prop:=AV.refsN 6 x=[]∧∀ f,AV.renN f 6 x=x
theorem qeA {es:List (AV × AV)} (h : ∀ x,x∈es→q9Y x.1∧q9Y x.2):qmh (.map es):=by
 refine ⟨?_,fun f g=>?_,rfl⟩
 ·show es.flatMap (fun x=>AV.refsN 6 x.1++AV.refsN 6 x.2)=[]
  rw[List.flatMap_eq_nil_iff]
  intro x hx
  obtain ⟨h1,h2⟩:=h x hx
  rw[h1.1,h2.1]
  rfl
 ·show Blk.map (es.map fun x=>(AV.renN f 6 x.1,AV.renN f 6 x.2)) = .map es
  congr 1
  rw[List.map_congr_left (g:=id) (fun x hx=>by rw[(h x hx).1.2,(h x hx).2.2]; rfl),List.map_id]
theorem Calms.nil:Calms []:=fun b h=>by cases h
theorem Calms.cons {b:Blk} {H:Heap} (h1:qmh b) (h2:Calms H):Calms (b::H):=fun x h=>by
 rcases List.mem_cons.1 h with rfl | h
 ·exact h1
 ·exact h2 x h
theorem qbs (s:List UInt8):q9Y (.str s):=⟨rfl,fun _=>rfl⟩
theorem qeW (b:Bool):q9Y (.bool b):=⟨rfl,fun _=>rfl⟩
theorem q0u (k:Go.IntKind) (n:Int):q9Y (.int k n):=⟨rfl,fun _=>rfl⟩
def q6M (n base:Nat):Nat→List Nat→List Nat→List Nat
 | 0,_,seen=>seen
 | _+1,[],seen=>seen
 | k+1,r::todo,seen=>
  if r<base then q6M n base k todo seen
  else if seen.contains r then q6M n base k todo seen
  else if r<n then q6M n base k todo (seen++[r])
  else q6M n base k todo seen
theorem q3Q {H:Heap} (hH:Calms H) (base:Nat) : ∀ (k:Nat) (todo seen:List Nat),q4u H base k todo seen=q6M H.length base k todo seen
 | 0,_,_=>rfl
 | _+1,[],_=>rfl
 | k+1,r::todo,seen=>by
  unfold q4u q6M
  split
  ·exact q3Q hH base k todo seen
  ·split
   ·exact q3Q hH base k todo seen
   ·by_cases hlt:r<H.length
    ·rw[if_pos hlt,List.getElem?_eq_getElem hlt]
     simp only
     rw[(hH _ (List.getElem_mem hlt)).1,List.nil_append]
     exact q3Q hH base k todo (seen++[r])
    ·rw[if_neg hlt,List.getElem?_eq_none (by omega)]
     exact q3Q hH base k todo seen
theorem q6N (ks:List Nat) : ∀ (E:Heap) (j:Nat),Calms E→q1R ks E j=[]
 | [],_,_=>rfl
 | b::E,j,h=>by
  have ih:=q6N ks E (j+1) fun x hx=>h x (by simp [hx])
  have hb:=(h b (by simp)).2.2
  cases b with
  | row n els ro fl fam=>
   simp only[Blk.isRo] at hb
   subst hb
   exact ih
  | _=>exact ih
def qo8 (live:List Nat) (tm:List AV) (H:Heap) (m:Nat):St:=
 let L:=q32 live 0 tm
 let ks:=q6M H.length m 4000 (L.flatMap (AV.refsN 6)) []
 { tmps:=L.map (AV.renN (q3K m ks) 6),heap:=(H.take m++ks.map fun r=>H.getD r .gone).map (Blk.refam (q80 H m ks)),base:=m,rb:=0 }
theorem q5K {live:List Nat} {tm:List AV} {H:Heap} {m rb:Nat} (hH:Calms H):St.norm live ⟨tm,H,m,rb⟩=qo8 live tm H m:=by
 unfold St.norm St.normTm qo8
 have hT:Calms (H.take m):=fun b hb=>hH b (List.mem_of_mem_take hb)
 have hr:(H.take m).flatMap Blk.refs=[]:=by
  rw[List.flatMap_eq_nil_iff]
  exact fun b hb=>(hT b hb).1
 simp only[hr,List.append_nil]
 rw[q3Q hH]
 generalize q6M H.length m 4000 ((q32 live 0 tm).flatMap (AV.refsN 6)) []=ks
 unfold St.normBy
 simp only
 rw[q6N ks (H.drop m) m fun b hb=>hH b (List.mem_of_mem_drop hb)]
 have hK:Calms (H.take m++ks.map fun r=>H.getD r .gone):=fun b hb=>by
  rcases List.mem_append.1 hb with hb | hb
  ·exact hT b hb
  ·obtain ⟨r,_,rfl⟩:=List.mem_map.1 hb
   rw[List.getD_eq_getElem?_getD]
   cases hx:H[r]? with
   | none=>exact qiO
   | some x=>exact hH x (List.mem_of_getElem? hx)
 have hc:q31 (q3K m ks) (H.take m++ks.map fun r=>H.getD r .gone)=true:=by
  unfold q31
  rw[List.all_eq_true]
  intro b hb
  rw[(hK b hb).1]
  rfl
 simp only[hc,qby,q7H,Bool.and_self,q7q]
 congr 1
 exact List.map_congr_left fun b hb=>(hK b hb).2.1 _ _
end Ago
set_option maxRecDepth 100000
set_option maxHeartbeats 4000000
namespace Ago
open Go (IntKind)

theorem q9T {a:Int} (h0:0≤a) (h:a<9223372036854775808):(BitVec.ofInt (IntKind.bits .i64) a).toNat=a.toNat:=by
 obtain ⟨n,rfl⟩ : ∃ n:Nat,a=n:=⟨a.toNat,by omega⟩
 have e:IntKind.bits .i64=64:=rfl
 rw[e,BitVec.toNat_ofInt]
 simp only[Int.toNat_natCast]
 omega
theorem qad {a m:Int} {k:Nat} (h0:0≤a) (h:a<9223372036854775808) (hm:m=2^k-1) (hk:k<60):IntKind.wrap .i64 ((BitVec.ofInt (IntKind.bits .i64) a &&& BitVec.ofInt (IntKind.bits .i64) m).toNat:Int)=a % 2^k:=by
 have hp:(2:Nat)^k<2^60:=Nat.pow_lt_pow_right (by omega) hk
 have hp0:0<(2:Nat)^k:=Nat.pow_pos (by omega)
 have hmn:m=((2^k-1:Nat):Int):=by
  rw[hm]
  have:((2^k:Nat):Int)=(2:Int)^k:=by simp
  omega
 obtain ⟨n,rfl⟩ : ∃ n:Nat,a=n:=⟨a.toNat,by omega⟩
 rw[BitVec.toNat_and,q9T h0 h,q9T (by omega) (by omega),hmn]
 simp only[Int.toNat_natCast]
 rw[Nat.and_two_pow_sub_one_eq_mod]
 have hlt:n % 2^k<2^k:=Nat.mod_lt _ hp0
 rw[w64 (by omega) (by omega)]
 simp
theorem qgi {a:Int} (h0:0≤a) (h:a<9223372036854775808):IntKind.wrap .i64 ((BitVec.ofInt (IntKind.bits .i64) a &&& BitVec.ofInt (IntKind.bits .i64) 7).toNat:Int)=a % 8:=qad (k:=3) h0 h rfl (by omega)
theorem q6Y {a:Int} (h0:0≤a) (h:a<9223372036854775808):IntKind.wrap .i64 ((BitVec.ofInt (IntKind.bits .i64) a &&& BitVec.ofInt (IntKind.bits .i64) 15).toNat:Int)=a % 16:=qad (k:=4) h0 h rfl (by omega)
theorem q6X {a:Int} (h0:0≤a) (h:a<9223372036854775808):IntKind.wrap .i64 ((BitVec.ofInt (IntKind.bits .i64) a &&& BitVec.ofInt (IntKind.bits .i64) 31).toNat:Int)=a % 32:=qad (k:=5) h0 h rfl (by omega)
theorem q4p {a:Int} (h0:0≤a) (h:a<9223372036854775808):IntKind.wrap .i64 ((BitVec.ofInt (IntKind.bits .i64) a &&& BitVec.ofInt (IntKind.bits .i64) 63).toNat:Int)=a % 64:=qad (k:=6) h0 h rfl (by omega)
theorem qb2 {x y:Int} (k:Nat) (hx:0≤x) (hk:k<60) (hy:0≤y) (hyk:y<2^k) (hb:x * 2^k<4611686018427387904):IntKind.wrap .i64 ((BitVec.ofInt (IntKind.bits .i64) (x * 2^k) ||| BitVec.ofInt (IntKind.bits .i64) y).toNat:Int)=x * 2^k+y:=by
 have hp:(2:Nat)^k<2^60:=Nat.pow_lt_pow_right (by omega) hk
 have hpi:((2^k:Nat):Int)=(2:Int)^k:=by simp
 obtain ⟨n,rfl⟩ : ∃ n:Nat,x=n:=⟨x.toNat,by omega⟩
 obtain ⟨m,rfl⟩ : ∃ m:Nat,y=m:=⟨y.toNat,by omega⟩
 rw[←hpi] at hyk hb ⊢
 have hm:m<2^k:=by omega
 have hcast:(n:Int) * ((2^k:Nat):Int)=((n * 2^k:Nat):Int):=by simp
 rw[hcast] at hb ⊢
 rw[BitVec.toNat_or,q9T (by omega) (by omega),q9T (by omega) (by omega)]
 simp only[Int.toNat_natCast]
 rw[Nat.mul_comm n,←Nat.two_pow_add_eq_or_of_lt hm]
 rw[Nat.mul_comm n] at hb
 rw[w64 (by omega) (by omega)]
 simp
theorem q74 {x y:Int} (hx:0≤x) (hx2:x<72057594037927936) (hy:0≤y) (hyk:y<64):IntKind.wrap .i64 ((BitVec.ofInt (IntKind.bits .i64) (x * 64) ||| BitVec.ofInt (IntKind.bits .i64) y).toNat:Int)=x * 64+y:=qb2 6 hx (by omega) hy hyk (by omega)
theorem qfE {y:Int} (hy:0≤y) (hyk:y<128):IntKind.wrap .i64 ((BitVec.ofInt (IntKind.bits .i64) 128 ||| BitVec.ofInt (IntKind.bits .i64) y).toNat:Int)=128+y:=qb2 (x:=1) 7 (by omega) (by omega) hy hyk (by omega)
theorem qf4 {y:Int} (hy:0≤y) (hyk:y<64):IntKind.wrap .i64 ((BitVec.ofInt (IntKind.bits .i64) 192 ||| BitVec.ofInt (IntKind.bits .i64) y).toNat:Int)=192+y:=qb2 (x:=3) 6 (by omega) (by omega) hy hyk (by omega)
theorem qfJ {y:Int} (hy:0≤y) (hyk:y<32):IntKind.wrap .i64 ((BitVec.ofInt (IntKind.bits .i64) 224 ||| BitVec.ofInt (IntKind.bits .i64) y).toNat:Int)=224+y:=qb2 (x:=7) 5 (by omega) (by omega) hy hyk (by omega)
theorem qf7 {y:Int} (hy:0≤y) (hyk:y<16):IntKind.wrap .i64 ((BitVec.ofInt (IntKind.bits .i64) 240 ||| BitVec.ofInt (IntKind.bits .i64) y).toNat:Int)=240+y:=qb2 (x:=15) 4 (by omega) (by omega) hy hyk (by omega)
end Ago
set_option maxRecDepth 100000
set_option maxHeartbeats 4000000
namespace Ago
open Go (IntKind)
theorem q1V (n:Int):q9o (.int .u8 n)=some (UInt8.ofNat n.toNat):=(rfl)
def q2T (r:Int):Bool:=decide (0≤r) && decide (r≤1114111) && (decide (r<55296) || decide (57343<r))
theorem qay (r:Int):q0f C0 93 [.int .i64 r] (.bool (q2T r)):=by
 refine q04 qor rfl ?_
 unfold q2T
 (repeat' first|simp (disch:=omega) only[go_sem,qor,enter]|(apply spl<;>intro h<;>try simp (disch:=omega) only[go_sem,qor,enter,h]))
 all_goals rfl
def ofI (n:Int):UInt8:=UInt8.ofNat n.toNat
def q54 (r:Int):List UInt8 × Int:=
 if q2T r=false then ([],2)
 else if r<128 then ([ofI r],0)
 else if r<2048 then ([ofI (192+r / 64),ofI (128+r % 64)],0)
 else if r<65536 then ([ofI (224+r / 4096),ofI (128+r / 64 % 64),ofI (128+r % 64)],0)
 else ([ofI (240+r / 262144),ofI (128+r / 4096 % 64),ofI (128+r / 64 % 64),ofI (128+r % 64)],0)
theorem pw6:(2:Int)^min 6 (IntKind.bits .i64)=64:=(rfl)
theorem qnh:(2:Int)^min 12 (IntKind.bits .i64)=4096:=(rfl)
theorem qnt:(2:Int)^min 18 (IntKind.bits .i64)=262144:=(rfl)
theorem qni (a:Int):Int.fdiv a 64=a / 64:=Int.fdiv_eq_ediv_of_nonneg a (by decide)
theorem q8Y (a:Int):Int.fdiv a 4096=a / 4096:=Int.fdiv_eq_ediv_of_nonneg a (by decide)
theorem q4W (a:Int):Int.fdiv a 262144=a / 262144:=Int.fdiv_eq_ediv_of_nonneg a (by decide)
theorem qcY {r:Int} (h:q2T r=true):0≤r∧r≤1114111:=by
 unfold q2T at h
 simp only[Bool.and_eq_true,decide_eq_true_eq] at h
 omega
theorem q4N (r:Int):q0f C0 83 [.int .i64 r] (.tup [.str (q54 r).1,.int .i64 (q54 r).2]):=by
 have hc:=qay r
 refine q04 qf1 rfl ?_
 cases hb:q2T r with
 | false=>
  rw[hb] at hc
  (repeat' first|simp (disch:=omega) only[go_sem,qf1,enter]|refine q00 _ (hc) ?_|(apply spl<;>intro h<;>try simp (disch:=omega) only[go_sem,qf1,enter ,h]))
  all_goals simp [q54,hb]
 | true=>
  rw[hb] at hc
  obtain ⟨h0,h1⟩:=qcY hb
  by_cases h2:r<128
  ·(repeat' first|simp (disch:=omega) only[go_sem,qf1,enter,q1V]|refine q00 _ (hc) ?_|(apply spl<;>intro h<;>try simp (disch:=omega) only[go_sem,qf1,enter,q1V ,h]))
   all_goals simp [q54,hb,h2,ofI]
  ·by_cases h3:r<2048
   ·(repeat' first|simp (disch:=omega) only[go_sem,qf1,enter,q1V,pw6,qnh,qnt,qni,q8Y,q4W,q4p,qfE,qf4,qfJ,qf7]|refine q00 _ (hc) ?_|(apply spl<;>intro h<;>try simp (disch:=omega) only[go_sem,qf1,enter,q1V,pw6,qnh,qnt,qni,q8Y,q4W,q4p,qfE,qf4,qfJ,qf7 ,h]))
    all_goals simp [q54,hb,h2,h3,ofI]
   ·by_cases h4:r<65536
    ·(repeat' first|simp (disch:=omega) only[go_sem,qf1,enter,q1V,pw6,qnh,qnt,qni,q8Y,q4W,q4p,qfE,qf4,qfJ,qf7]|refine q00 _ (hc) ?_|(apply spl<;>intro h<;>try simp (disch:=omega) only[go_sem,qf1,enter,q1V,pw6,qnh,qnt,qni,q8Y,q4W,q4p,qfE,qf4,qfJ,qf7 ,h]))
     all_goals simp [q54,hb,h2,h3,h4,ofI]
    ·(repeat' first|simp (disch:=omega) only[go_sem,qf1,enter,q1V,pw6,qnh,qnt,qni,q8Y,q4W,q4p,qfE,qf4,qfJ,qf7]|refine q00 _ (hc) ?_|(apply spl<;>intro h<;>try simp (disch:=omega) only[go_sem,qf1,enter,q1V,pw6,qnh,qnt,qni,q8Y,q4W,q4p,qfE,qf4,qfJ,qf7 ,h]))
     all_goals simp [q54,hb,h2,h3,h4,ofI]


def q16 (c:UInt8):Bool:=decide (128≤c.toNat) && decide (c.toNat<192)
def q6f (r:Int):Nat:=if r<128 then 1 else if r<2048 then 2 else if r<65536 then 3 else 4
def q17 (r:Int) (n:Nat):Int × Int:=if q2T r && q6f r == n then (r,n) else (0,0)
def qpJ (b:UInt8):Option UInt8→Int × Int
 | some c=>if q16 c then q17 ((b.toNat-192) * 64+(c.toNat-128)) 2 else (0,0)
 | none=>(0,0)
def qqc (b:UInt8):Option UInt8→Option UInt8→Int × Int
 | some c,some d=>if q16 c && q16 d then q17 (((b.toNat-224) * 64+(c.toNat-128)) * 64+(d.toNat-128)) 3 else (0,0)
 | _,_=>(0,0)
def qq2 (b:UInt8):Option UInt8→Option UInt8→Option UInt8→Int × Int
 | some c,some d,some e=>if q16 c && q16 d && q16 e then q17 ((((b.toNat-240) * 64+(c.toNat-128)) * 64+(d.toNat-128)) * 64+(e.toNat-128)) 4 else (0,0)
 | _,_,_=>(0,0)
def q3x (s:List UInt8) (k:Nat) (b:UInt8):Int × Int:=
 if b.toNat<128 then (b.toNat,1)
 else if b.toNat<192 then (0,0)
 else if b.toNat<224 then qpJ b s[k+1]?
 else if b.toNat<240 then qqc b s[k+1]? s[k+2]?
 else if b.toNat<248 then qq2 b s[k+1]? s[k+2]? s[k+3]?
 else (0,0)
def qaE (s:List UInt8) (k:Nat):Int × Int:=
 match s[k]? with
 | some b=>q3x s k b
 | none=>(0,0)

theorem qfH {s:List UInt8} {k:Nat} {a:UInt8} (h1:s[k]?=some a):(s.take (k+1)).drop k=[a]:=by
 apply List.ext_getElem?
 intro i
 rw[List.getElem?_drop]
 match i with
 | 0=>rw[List.getElem?_take_of_lt (by omega)]; exact h1
 | i+1=>rw[List.getElem?_take_eq_none (by omega)]; rfl
theorem qeZ {s:List UInt8} {k:Nat} {a b:UInt8} (h1:s[k]?=some a) (h2:s[k+1]?=some b):(s.take (k+2)).drop k=[a,b]:=by
 apply List.ext_getElem?
 intro i
 rw[List.getElem?_drop]
 match i with
 | 0=>rw[List.getElem?_take_of_lt (by omega)]; exact h1
 | 1=>rw[List.getElem?_take_of_lt (by omega),h2]; rfl
 | i+2=>rw[List.getElem?_take_eq_none (by omega)]; rfl
theorem qfQ {s:List UInt8} {k:Nat} {a b c:UInt8} (h1:s[k]?=some a) (h2:s[k+1]?=some b) (h3:s[k+2]?=some c):(s.take (k+3)).drop k=[a,b,c]:=by
 apply List.ext_getElem?
 intro i
 rw[List.getElem?_drop]
 match i with
 | 0=>rw[List.getElem?_take_of_lt (by omega)]; exact h1
 | 1=>rw[List.getElem?_take_of_lt (by omega),h2]; rfl
 | 2=>rw[List.getElem?_take_of_lt (by omega),h3]; rfl
 | i+3=>rw[List.getElem?_take_eq_none (by omega)]; rfl
theorem qfx {s:List UInt8} {k:Nat} {a b c d:UInt8} (h1:s[k]?=some a) (h2:s[k+1]?=some b) (h3:s[k+2]?=some c) (h4:s[k+3]?=some d):(s.take (k+4)).drop k=[a,b,c,d]:=by
 apply List.ext_getElem?
 intro i
 rw[List.getElem?_drop]
 match i with
 | 0=>rw[List.getElem?_take_of_lt (by omega)]; exact h1
 | 1=>rw[List.getElem?_take_of_lt (by omega),h2]; rfl
 | 2=>rw[List.getElem?_take_of_lt (by omega),h3]; rfl
 | 3=>rw[List.getElem?_take_of_lt (by omega),h4]; rfl
 | i+4=>rw[List.getElem?_take_eq_none (by omega)]; rfl

theorem q4v {n:Int} {c:UInt8} (h0:0≤n) (h:n<256):ofI n=c↔n=c.toNat:=by
 unfold ofI
 constructor
 ·intro h1
  rw[←h1,UInt8.toNat_ofNat']
  omega
 ·intro h1
  rw[h1]
  simp

def q0T (r:Int) (l:List UInt8) (n:Nat):Int × Int:=if (q54 r).2=0∧(q54 r).1=l then (r,n) else (0,0)
theorem qrT (b:UInt8):q0T b.toNat [b] 1=if b.toNat<128 then ((b.toNat:Int),1) else (0,0):=by
 have hb:=b.toNat_lt
 by_cases h:b.toNat<128
 ·have hc:q2T b.toNat=true:=by unfold q2T; simp; omega
  have h1:(b.toNat:Int)<128:=by omega
  have h2:ofI b.toNat=b:=(q4v (by omega) (by omega)).2 rfl
  simp [q0T,q54,hc,h1,h,h2]
 ·have hc:q2T b.toNat=true:=by unfold q2T; simp; omega
  have h1 : ¬ (b.toNat:Int)<128:=by omega
  have h2:(b.toNat:Int)<2048:=by omega
  simp [q0T,q54,hc,h1,h,h2]
theorem q61 (b c:UInt8):qpJ b (some c)=if q16 c=true then q17 ((b.toNat-192) * 64+(c.toNat-128)) 2 else (0,0):=rfl
theorem q5G (b c d:UInt8):qqc b (some c) (some d)=if (q16 c && q16 d)=true then q17 (((b.toNat-224) * 64+(c.toNat-128)) * 64+(d.toNat-128)) 3 else (0,0):=rfl
theorem q5T (b c d e:UInt8):qq2 b (some c) (some d) (some e)=if (q16 c && q16 d && q16 e)=true then q17 ((((b.toNat-240) * 64+(c.toNat-128)) * 64+(d.toNat-128)) * 64+(e.toNat-128)) 4 else (0,0):=rfl
theorem q0w {c:UInt8}:q16 c=true↔128≤c.toNat∧c.toNat<192:=by unfold q16; simp
theorem qrI {b c:UInt8} (hb:192≤b.toNat) (hb2:b.toNat<224):q0T ((b.toNat:Int) % 32 * 64+(c.toNat:Int) % 64) [b,c] 2=qpJ b (some c):=by
 have hc:=c.toNat_lt
 obtain ⟨r,hr⟩ : ∃ r:Int,r=(b.toNat:Int) % 32 * 64+(c.toNat:Int) % 64:=⟨_,rfl⟩
 rw[←hr]
 have hcm:q2T r=true:=by unfold q2T; simp; omega
 have e1:ofI (192+r / 64)=b:=(q4v (by omega) (by omega)).2 (by omega)
 have e2:ofI (128+r % 64)=c↔q16 c=true:=by rw[q4v (by omega) (by omega),q0w]; omega
 rw[q61]
 cases hcc:q16 c with
 | true=>
  rw[hcc] at e2
  have hcc':=q0w.1 hcc
  have er:((b.toNat:Int)-192) * 64+((c.toNat:Int)-128)=r:=by omega
  rw[er]
  by_cases h1:r<128
  ·simp [q0T,q54,q17,q6f,hcm,h1]
  ·have h2:r<2048:=by omega
   simp [q0T,q54,q17,q6f,hcm,h1,h2,e1,e2]
 | false=>
  rw[hcc] at e2
  by_cases h1:r<128
  ·simp [q0T,q54,hcm,h1]
  ·have h2:r<2048:=by omega
   simp [q0T,q54,hcm,h1,h2,e1,e2]
theorem qrP {b c d:UInt8} (hb:224≤b.toNat) (hb2:b.toNat<240):q0T (((b.toNat:Int) % 16 * 64+(c.toNat:Int) % 64) * 64+(d.toNat:Int) % 64) [b,c,d] 3=qqc b (some c) (some d):=by
 have hc:=c.toNat_lt
 have hd:=d.toNat_lt
 obtain ⟨r,hr⟩ : ∃ r:Int,r=((b.toNat:Int) % 16 * 64+(c.toNat:Int) % 64) * 64+(d.toNat:Int) % 64:=⟨_,rfl⟩
 rw[←hr]
 have e1:ofI (224+r / 4096)=b:=(q4v (by omega) (by omega)).2 (by omega)
 have e2:ofI (128+r / 64 % 64)=c↔q16 c=true:=by rw[q4v (by omega) (by omega),q0w]; omega
 have e3:ofI (128+r % 64)=d↔q16 d=true:=by rw[q4v (by omega) (by omega),q0w]; omega
 have h65:r<65536:=by omega
 have er:q16 c=true→q16 d=true→(((b.toNat:Int)-224) * 64+((c.toNat:Int)-128)) * 64+((d.toNat:Int)-128)=r:=fun h1 h2=>by
  have:=q0w.1 h1
  have:=q0w.1 h2
  omega
 rw[q5G]
 cases hcm:q2T r with
 | false=>
  have e0:q0T r [b,c,d] 3=(0,0):=by simp [q0T,q54,hcm]
  rw[e0]
  split
  ·rename_i h
   simp only[Bool.and_eq_true] at h
   rw[er h.1 h.2]
   simp [q17,hcm]
  ·rfl
 | true=>
  by_cases h1:r<128
  ·have e0:q0T r [b,c,d] 3=(0,0):=by simp [q0T,q54,hcm,h1]
   rw[e0]
   split
   ·rename_i h
    simp only[Bool.and_eq_true] at h
    rw[er h.1 h.2]
    simp [q17,q6f,h1]
   ·rfl
  ·by_cases h2:r<2048
   ·have e0:q0T r [b,c,d] 3=(0,0):=by simp [q0T,q54,hcm,h1,h2]
    rw[e0]
    split
    ·rename_i h
     simp only[Bool.and_eq_true] at h
     rw[er h.1 h.2]
     simp [q17,q6f,h1,h2]
    ·rfl
   ·split
    ·rename_i h
     simp only[Bool.and_eq_true] at h
     rw[er h.1 h.2]
     rw[h.1] at e2
     rw[h.2] at e3
     simp [q0T,q54,q17,q6f,hcm,h1,h2,h65,e1,e2,e3]
    ·rename_i h
     simp only[Bool.and_eq_true] at h
     have hne : ¬ (ofI (128+r / 64 % 64)=c∧ofI (128+r % 64)=d):=fun h3=>h ⟨e2.1 h3.1,e3.1 h3.2⟩
     simp only[q0T,q54,hcm,h1,h2,h65,if_true,if_false,e1,List.cons.injEq,true_and,and_true,Bool.true_eq_false,hne]
theorem qrS {b c d e:UInt8} (hb:240≤b.toNat) (hb2:b.toNat<248):q0T ((((b.toNat:Int) % 8 * 64+(c.toNat:Int) % 64) * 64+(d.toNat:Int) % 64) * 64+(e.toNat:Int) % 64) [b,c,d,e] 4=qq2 b (some c) (some d) (some e):=by
 have hc:=c.toNat_lt
 have hd:=d.toNat_lt
 have he:=e.toNat_lt
 obtain ⟨r,hr⟩ : ∃ r:Int,r=(((b.toNat:Int) % 8 * 64+(c.toNat:Int) % 64) * 64+(d.toNat:Int) % 64) * 64+(e.toNat:Int) % 64:=⟨_,rfl⟩
 rw[←hr]
 have e1:ofI (240+r / 262144)=b:=(q4v (by omega) (by omega)).2 (by omega)
 have e2:ofI (128+r / 4096 % 64)=c↔q16 c=true:=by rw[q4v (by omega) (by omega),q0w]; omega
 have e3:ofI (128+r / 64 % 64)=d↔q16 d=true:=by rw[q4v (by omega) (by omega),q0w]; omega
 have e4:ofI (128+r % 64)=e↔q16 e=true:=by rw[q4v (by omega) (by omega),q0w]; omega
 have er:q16 c=true→q16 d=true→q16 e=true→((((b.toNat:Int)-240) * 64+((c.toNat:Int)-128)) * 64+((d.toNat:Int)-128)) * 64+((e.toNat:Int)-128)=r:=fun h1 h2 h3=>by
  have:=q0w.1 h1
  have:=q0w.1 h2
  have:=q0w.1 h3
  omega
 rw[q5T]
 cases hcm:q2T r with
 | false=>
  have e0:q0T r [b,c,d,e] 4=(0,0):=by simp [q0T,q54,hcm]
  rw[e0]
  split
  ·rename_i h
   simp only[Bool.and_eq_true] at h
   rw[er h.1.1 h.1.2 h.2]
   simp [q17,hcm]
  ·rfl
 | true=>
  by_cases h1:r<65536
  ·have e0:q0T r [b,c,d,e] 4=(0,0):=by
    by_cases h2:r<128
    ·simp [q0T,q54,hcm,h2]
    ·by_cases h3:r<2048
     ·simp [q0T,q54,hcm,h2,h3]
     ·simp [q0T,q54,hcm,h1,h2,h3]
   rw[e0]
   have hw : ¬ q6f r=4:=by
    unfold q6f
    split
    ·decide
    ·split
     ·decide
     ·decide
   split
   ·rename_i h
    simp only[Bool.and_eq_true] at h
    rw[er h.1.1 h.1.2 h.2]
    simp [q17,hw]
   ·rfl
  ·have h2 : ¬ r<128:=by omega
   have h3 : ¬ r<2048:=by omega
   split
   ·rename_i h
    simp only[Bool.and_eq_true] at h
    rw[er h.1.1 h.1.2 h.2]
    rw[h.1.1] at e2
    rw[h.1.2] at e3
    rw[h.2] at e4
    simp [q0T,q54,q17,q6f,hcm,h1,h2,h3,e1,e2,e3,e4]
   ·rename_i h
    simp only[Bool.and_eq_true] at h
    have hne : ¬ (ofI (128+r / 4096 % 64)=c∧ofI (128+r / 64 % 64)=d∧ofI (128+r % 64)=e):=fun h4=>h ⟨⟨e2.1 h4.1,e3.1 h4.2.1⟩,e4.1 h4.2.2⟩
    simp only[q0T,q54,hcm,h1,h2,h3,if_true,if_false,e1,List.cons.injEq,true_and,and_true,Bool.true_eq_false,hne]
theorem qrJ {b c d e:UInt8} (hb:248≤b.toNat) (r:Int) (h0:0≤r) (h:r<2097152):q0T r [b,c,d,e] 4=(0,0):=by
 have e1:ofI (240+r / 262144)≠b:=fun e=>by
  rw[q4v (by omega) (by omega)] at e
  omega
 have hne : ¬ ((q54 r).2=0∧(q54 r).1=[b,c,d,e]):=fun h2=>by
  unfold q54 at h2
  split at h2
  ·exact absurd h2.1 (by decide)
  ·split at h2
   ·exact absurd h2.2 (by simp)
   ·split at h2
    ·exact absurd h2.2 (by simp)
    ·split at h2
     ·exact absurd h2.2 (by simp)
     ·have h3:=h2.2
      simp only[List.cons.injEq] at h3
      exact e1 h3.1
 unfold q0T
 rw[if_neg hne]
end Ago
set_option maxRecDepth 100000
set_option maxHeartbeats 4000000
namespace Ago
open Go (IntKind)
def q1N (a b c d:Int) (i:Nat):Int:=if i=1 then a else if i=2 then b else if i=3 then c else d
theorem c1':((1:Nat):Int)=1:=rfl
theorem c2':((2:Nat):Int)=2:=rfl
theorem c3':((3:Nat):Int)=3:=rfl
theorem c4':((4:Nat):Int)=4:=rfl
theorem q9i (s:List UInt8) (k:Nat) (hs:s.length<2^31) (hk:k<s.length):q0f C0 60 [.str s,.int .i64 k] (.tup [.int .i64 (qaE s k).1,.int .i64 (qaE s k).2]):=by
 obtain ⟨b,hb⟩:=q06 hk
 have hbt:=b.toNat_lt
 have hdm:qaE s k=q3x s k b:=by unfold qaE; rw[hb]
 have hkn:(k:Int).toNat=k:=rfl
 rw[hdm]
 refine q04 qaL rfl ?_
 by_cases h1:b.toNat<192
 ·have hi1:(b.toNat:Int)<192:=by omega
  (repeat' first|simp (disch:=omega) only[go_sem,qaL,enter,hb,hkn]|(apply spl<;>intro h<;>try simp (disch:=omega) only[go_sem,qaL,enter,hb,hkn,h]))
  refine q08 (α:=Unit) (fun _=>{ tmps:=q0i 80 [(0,.str s),(1,.int .i64 k),(7,.int .i64 1),(8,.int .i64 b.toNat),(9,.int .i64 1)],heap:=[],base:=0 }) (fun _=>True) (fun _=>0) () rfl trivial ?_
  rintro _ _
  obtain ⟨r,hr⟩ : ∃ r:Int,r=(b.toNat:Int):=⟨_,rfl⟩
  obtain ⟨l,hl⟩ : ∃ l:List UInt8,l=[b]:=⟨_,rfl⟩
  have hsl:=qfH hb
  have hkn2:((k:Int)+1).toNat=k+1:=by omega
  have hfin:q3x s k b=q0T r l 1:=by
   rw[hr,hl,qrT]
   unfold q3x
   repeat' split
   all_goals first | rfl | omega
  unfold q0T at hfin
  have he:=q4N r
  rw[←hr]
  generalize q54 r=te at he hfin
  obtain ⟨t,e0⟩:=te
  simp only at he hfin
  by_cases h1:e0=0
  ·by_cases h2:t=l
   ·have hb2:(t == l)=true:=by simpa using h2
    subst h1
    rw[if_pos ⟨rfl,h2⟩] at hfin
    rw[hfin]
    rw[hl] at hb2
    (repeat' first|simp (disch:=omega) only[go_sem,hkn,hkn2,hsl,hb2]|refine q00 _ (he) ?_|(apply spl<;>intro h<;>try simp (disch:=omega) only[go_sem,hkn,hkn2,hsl,hb2 ,h]))
   ·have hb2:(t == l)=false:=by simpa using h2
    subst h1
    rw[if_neg (fun h=>h2 h.2)] at hfin
    rw[hfin]
    rw[hl] at hb2
    (repeat' first|simp (disch:=omega) only[go_sem,hkn,hkn2,hsl,hb2]|refine q00 _ (he) ?_|(apply spl<;>intro h<;>try simp (disch:=omega) only[go_sem,hkn,hkn2,hsl,hb2 ,h]))
  ·rw[if_neg (fun h=>h1 h.1)] at hfin
   rw[hfin]
   (repeat' first|simp (disch:=omega) only[go_sem,hkn,h1]|refine q00 _ (he) ?_|(apply spl<;>intro h<;>try simp (disch:=omega) only[go_sem,hkn,h1 ,h]))
 by_cases g2:192≤b.toNat∧b.toNat<224
 ·obtain ⟨g1,g2⟩:=g2
  have gi1:192≤(b.toNat:Int):=by omega
  have gi2:(b.toNat:Int)<224:=by omega
  by_cases hlen:s.length<k+2
  ·have hnone:s[k+1]?=none:=List.getElem?_eq_none (by omega)
   have hdec:q3x s k b=(0,0):=by
    unfold q3x
    repeat' split
    all_goals first | rfl | omega | (rw[hnone]; first | rfl | (cases s[k+1]?<;>first | rfl | (cases s[k+2]?<;>rfl)))
   rw[hdec]
   (repeat' first|simp (disch:=omega) only[go_sem,qaL,enter,hb,hkn,qgi,q6Y,q6X]|(apply spl<;>intro h<;>try simp (disch:=omega) only[go_sem,qaL,enter,hb,hkn,qgi,q6Y,q6X,h]))
  ·obtain ⟨c,hc⟩:=q06 (s:=s) (k:=k+1) (by omega)
   have ct:=c.toNat_lt
   have kn1:((k:Int)+1).toNat=k+1:=by omega
   (repeat' first|simp (disch:=omega) only[go_sem,qaL,enter,hb,hkn,qgi,q6Y,q6X]|(apply spl<;>intro h<;>try simp (disch:=omega) only[go_sem,qaL,enter,hb,hkn,qgi,q6Y,q6X,h]))
   refine q08 (α:=Nat) (fun i=>{ tmps:=q0i 80 [(0,.str s),(1,.int .i64 k),(7,.int .i64 2),(8,.int .i64 (q1N ((b.toNat:Int) % 32) (((b.toNat:Int) % 32) * 64+(c.toNat:Int) % 64) 0 0 i)),(9,.int .i64 i)],heap:=[],base:=0 }) (fun i=>1≤i∧i≤2) (fun i=>2-i) 1 rfl (by omega) ?_
   rintro i ⟨hi1,hi2⟩
   rcases (by omega:i=1∨i=2) with rfl | rfl
   ·have hp:q1N ((b.toNat:Int) % 32) (((b.toNat:Int) % 32) * 64+(c.toNat:Int) % 64) 0 0 1=((b.toNat:Int) % 32):=rfl
    have hq:q1N ((b.toNat:Int) % 32) (((b.toNat:Int) % 32) * 64+(c.toNat:Int) % 64) 0 0 2=(((b.toNat:Int) % 32) * 64+(c.toNat:Int) % 64):=rfl
    rw[hp]
    (repeat' first|simp (disch:=omega) only[go_sem,hkn,kn1,hc,pw6,q4p,q74,c1',c2',c3',c4']|(apply spl<;>intro h<;>try simp (disch:=omega) only[go_sem,hkn,kn1,hc,pw6,q4p,q74,c1',c2',c3',c4',h]))
    exact ⟨2,by rw[hq]; rfl,by omega,by omega⟩
   ·have hp:q1N ((b.toNat:Int) % 32) (((b.toNat:Int) % 32) * 64+(c.toNat:Int) % 64) 0 0 2=(((b.toNat:Int) % 32) * 64+(c.toNat:Int) % 64):=rfl
    rw[hp]
    obtain ⟨r,hr⟩ : ∃ r:Int,r=(((b.toNat:Int) % 32) * 64+(c.toNat:Int) % 64):=⟨_,rfl⟩
    obtain ⟨l,hl⟩ : ∃ l:List UInt8,l=[b,c]:=⟨_,rfl⟩
    have hsl:=qeZ hb hc
    have hkn2:((k:Int)+2).toNat=k+2:=by omega
    have hfin:q3x s k b=q0T r l 2:=by
     rw[hr,hl]
     rw[qrI g1 g2]
     unfold q3x
     repeat' split
     all_goals first | omega | (rw[hc])
    unfold q0T at hfin
    have he:=q4N r
    rw[←hr]
    generalize q54 r=te at he hfin
    obtain ⟨t,e0⟩:=te
    simp only at he hfin
    by_cases h1:e0=0
    ·by_cases h2:t=l
     ·have hb2:(t == l)=true:=by simpa using h2
      subst h1
      rw[if_pos ⟨rfl,h2⟩] at hfin
      rw[hfin]
      rw[hl] at hb2
      (repeat' first|simp (disch:=omega) only[go_sem,hkn,hkn2,hsl,hb2]|refine q00 _ (he) ?_|(apply spl<;>intro h<;>try simp (disch:=omega) only[go_sem,hkn,hkn2,hsl,hb2 ,h]))
     ·have hb2:(t == l)=false:=by simpa using h2
      subst h1
      rw[if_neg (fun h=>h2 h.2)] at hfin
      rw[hfin]
      rw[hl] at hb2
      (repeat' first|simp (disch:=omega) only[go_sem,hkn,hkn2,hsl,hb2]|refine q00 _ (he) ?_|(apply spl<;>intro h<;>try simp (disch:=omega) only[go_sem,hkn,hkn2,hsl,hb2 ,h]))
    ·rw[if_neg (fun h=>h1 h.1)] at hfin
     rw[hfin]
     (repeat' first|simp (disch:=omega) only[go_sem,hkn,h1]|refine q00 _ (he) ?_|(apply spl<;>intro h<;>try simp (disch:=omega) only[go_sem,hkn,h1 ,h]))
 by_cases g3:224≤b.toNat∧b.toNat<240
 ·obtain ⟨g1,g2⟩:=g3
  have gi1:224≤(b.toNat:Int):=by omega
  have gi2:(b.toNat:Int)<240:=by omega
  by_cases hlen:s.length<k+3
  ·have hnone:s[k+2]?=none:=List.getElem?_eq_none (by omega)
   have hdec:q3x s k b=(0,0):=by
    unfold q3x
    repeat' split
    all_goals first | rfl | omega | (rw[hnone]; first | rfl | (cases s[k+1]?<;>first | rfl | (cases s[k+2]?<;>rfl)))
   rw[hdec]
   (repeat' first|simp (disch:=omega) only[go_sem,qaL,enter,hb,hkn,qgi,q6Y,q6X]|(apply spl<;>intro h<;>try simp (disch:=omega) only[go_sem,qaL,enter,hb,hkn,qgi,q6Y,q6X,h]))
  ·obtain ⟨c,hc⟩:=q06 (s:=s) (k:=k+1) (by omega)
   have ct:=c.toNat_lt
   have kn1:((k:Int)+1).toNat=k+1:=by omega
   obtain ⟨d,hd⟩:=q06 (s:=s) (k:=k+2) (by omega)
   have dt:=d.toNat_lt
   have kn2:((k:Int)+2).toNat=k+2:=by omega
   (repeat' first|simp (disch:=omega) only[go_sem,qaL,enter,hb,hkn,qgi,q6Y,q6X]|(apply spl<;>intro h<;>try simp (disch:=omega) only[go_sem,qaL,enter,hb,hkn,qgi,q6Y,q6X,h]))
   refine q08 (α:=Nat) (fun i=>{ tmps:=q0i 80 [(0,.str s),(1,.int .i64 k),(7,.int .i64 3),(8,.int .i64 (q1N ((b.toNat:Int) % 16) (((b.toNat:Int) % 16) * 64+(c.toNat:Int) % 64) ((((b.toNat:Int) % 16) * 64+(c.toNat:Int) % 64) * 64+(d.toNat:Int) % 64) 0 i)),(9,.int .i64 i)],heap:=[],base:=0 }) (fun i=>1≤i∧i≤3) (fun i=>3-i) 1 rfl (by omega) ?_
   rintro i ⟨hi1,hi2⟩
   rcases (by omega:i=1∨i=2∨i=3) with rfl | rfl | rfl
   ·have hp:q1N ((b.toNat:Int) % 16) (((b.toNat:Int) % 16) * 64+(c.toNat:Int) % 64) ((((b.toNat:Int) % 16) * 64+(c.toNat:Int) % 64) * 64+(d.toNat:Int) % 64) 0 1=((b.toNat:Int) % 16):=rfl
    have hq:q1N ((b.toNat:Int) % 16) (((b.toNat:Int) % 16) * 64+(c.toNat:Int) % 64) ((((b.toNat:Int) % 16) * 64+(c.toNat:Int) % 64) * 64+(d.toNat:Int) % 64) 0 2=(((b.toNat:Int) % 16) * 64+(c.toNat:Int) % 64):=rfl
    rw[hp]
    (repeat' first|simp (disch:=omega) only[go_sem,hkn,kn1,hc,pw6,q4p,q74,c1',c2',c3',c4']|(apply spl<;>intro h<;>try simp (disch:=omega) only[go_sem,hkn,kn1,hc,pw6,q4p,q74,c1',c2',c3',c4',h]))
    exact ⟨2,by rw[hq]; rfl,by omega,by omega⟩
   ·have hp:q1N ((b.toNat:Int) % 16) (((b.toNat:Int) % 16) * 64+(c.toNat:Int) % 64) ((((b.toNat:Int) % 16) * 64+(c.toNat:Int) % 64) * 64+(d.toNat:Int) % 64) 0 2=(((b.toNat:Int) % 16) * 64+(c.toNat:Int) % 64):=rfl
    have hq:q1N ((b.toNat:Int) % 16) (((b.toNat:Int) % 16) * 64+(c.toNat:Int) % 64) ((((b.toNat:Int) % 16) * 64+(c.toNat:Int) % 64) * 64+(d.toNat:Int) % 64) 0 3=((((b.toNat:Int) % 16) * 64+(c.toNat:Int) % 64) * 64+(d.toNat:Int) % 64):=rfl
    rw[hp]
    (repeat' first|simp (disch:=omega) only[go_sem,hkn,kn2,hd,pw6,q4p,q74,c1',c2',c3',c4']|(apply spl<;>intro h<;>try simp (disch:=omega) only[go_sem,hkn,kn2,hd,pw6,q4p,q74,c1',c2',c3',c4',h]))
    exact ⟨3,by rw[hq]; rfl,by omega,by omega⟩
   ·have hp:q1N ((b.toNat:Int) % 16) (((b.toNat:Int) % 16) * 64+(c.toNat:Int) % 64) ((((b.toNat:Int) % 16) * 64+(c.toNat:Int) % 64) * 64+(d.toNat:Int) % 64) 0 3=((((b.toNat:Int) % 16) * 64+(c.toNat:Int) % 64) * 64+(d.toNat:Int) % 64):=rfl
    rw[hp]
    obtain ⟨r,hr⟩ : ∃ r:Int,r=((((b.toNat:Int) % 16) * 64+(c.toNat:Int) % 64) * 64+(d.toNat:Int) % 64):=⟨_,rfl⟩
    obtain ⟨l,hl⟩ : ∃ l:List UInt8,l=[b,c,d]:=⟨_,rfl⟩
    have hsl:=qfQ hb hc hd
    have hkn2:((k:Int)+3).toNat=k+3:=by omega
    have hfin:q3x s k b=q0T r l 3:=by
     rw[hr,hl]
     rw[qrP g1 g2]
     unfold q3x
     repeat' split
     all_goals first | omega | (rw[hc,hd])
    unfold q0T at hfin
    have he:=q4N r
    rw[←hr]
    generalize q54 r=te at he hfin
    obtain ⟨t,e0⟩:=te
    simp only at he hfin
    by_cases h1:e0=0
    ·by_cases h2:t=l
     ·have hb2:(t == l)=true:=by simpa using h2
      subst h1
      rw[if_pos ⟨rfl,h2⟩] at hfin
      rw[hfin]
      rw[hl] at hb2
      (repeat' first|simp (disch:=omega) only[go_sem,hkn,hkn2,hsl,hb2]|refine q00 _ (he) ?_|(apply spl<;>intro h<;>try simp (disch:=omega) only[go_sem,hkn,hkn2,hsl,hb2 ,h]))
     ·have hb2:(t == l)=false:=by simpa using h2
      subst h1
      rw[if_neg (fun h=>h2 h.2)] at hfin
      rw[hfin]
      rw[hl] at hb2
      (repeat' first|simp (disch:=omega) only[go_sem,hkn,hkn2,hsl,hb2]|refine q00 _ (he) ?_|(apply spl<;>intro h<;>try simp (disch:=omega) only[go_sem,hkn,hkn2,hsl,hb2 ,h]))
    ·rw[if_neg (fun h=>h1 h.1)] at hfin
     rw[hfin]
     (repeat' first|simp (disch:=omega) only[go_sem,hkn,h1]|refine q00 _ (he) ?_|(apply spl<;>intro h<;>try simp (disch:=omega) only[go_sem,hkn,h1 ,h]))
 by_cases g4:240≤b.toNat∧b.toNat<256
 ·obtain ⟨g1,g2⟩:=g4
  have gi1:240≤(b.toNat:Int):=by omega
  have gi2:(b.toNat:Int)<256:=by omega
  by_cases hlen:s.length<k+4
  ·have hnone:s[k+3]?=none:=List.getElem?_eq_none (by omega)
   have hdec:q3x s k b=(0,0):=by
    unfold q3x
    repeat' split
    all_goals first | rfl | omega | (rw[hnone]; first | rfl | (cases s[k+1]?<;>first | rfl | (cases s[k+2]?<;>rfl)))
   rw[hdec]
   (repeat' first|simp (disch:=omega) only[go_sem,qaL,enter,hb,hkn,qgi,q6Y,q6X]|(apply spl<;>intro h<;>try simp (disch:=omega) only[go_sem,qaL,enter,hb,hkn,qgi,q6Y,q6X,h]))
  ·obtain ⟨c,hc⟩:=q06 (s:=s) (k:=k+1) (by omega)
   have ct:=c.toNat_lt
   have kn1:((k:Int)+1).toNat=k+1:=by omega
   obtain ⟨d,hd⟩:=q06 (s:=s) (k:=k+2) (by omega)
   have dt:=d.toNat_lt
   have kn2:((k:Int)+2).toNat=k+2:=by omega
   obtain ⟨e,he⟩:=q06 (s:=s) (k:=k+3) (by omega)
   have et:=e.toNat_lt
   have kn3:((k:Int)+3).toNat=k+3:=by omega
   (repeat' first|simp (disch:=omega) only[go_sem,qaL,enter,hb,hkn,qgi,q6Y,q6X]|(apply spl<;>intro h<;>try simp (disch:=omega) only[go_sem,qaL,enter,hb,hkn,qgi,q6Y,q6X,h]))
   refine q08 (α:=Nat) (fun i=>{ tmps:=q0i 80 [(0,.str s),(1,.int .i64 k),(7,.int .i64 4),(8,.int .i64 (q1N ((b.toNat:Int) % 8) (((b.toNat:Int) % 8) * 64+(c.toNat:Int) % 64) ((((b.toNat:Int) % 8) * 64+(c.toNat:Int) % 64) * 64+(d.toNat:Int) % 64) (((((b.toNat:Int) % 8) * 64+(c.toNat:Int) % 64) * 64+(d.toNat:Int) % 64) * 64+(e.toNat:Int) % 64) i)),(9,.int .i64 i)],heap:=[],base:=0 }) (fun i=>1≤i∧i≤4) (fun i=>4-i) 1 rfl (by omega) ?_
   rintro i ⟨hi1,hi2⟩
   rcases (by omega:i=1∨i=2∨i=3∨i=4) with rfl | rfl | rfl | rfl
   ·have hp:q1N ((b.toNat:Int) % 8) (((b.toNat:Int) % 8) * 64+(c.toNat:Int) % 64) ((((b.toNat:Int) % 8) * 64+(c.toNat:Int) % 64) * 64+(d.toNat:Int) % 64) (((((b.toNat:Int) % 8) * 64+(c.toNat:Int) % 64) * 64+(d.toNat:Int) % 64) * 64+(e.toNat:Int) % 64) 1=((b.toNat:Int) % 8):=rfl
    have hq:q1N ((b.toNat:Int) % 8) (((b.toNat:Int) % 8) * 64+(c.toNat:Int) % 64) ((((b.toNat:Int) % 8) * 64+(c.toNat:Int) % 64) * 64+(d.toNat:Int) % 64) (((((b.toNat:Int) % 8) * 64+(c.toNat:Int) % 64) * 64+(d.toNat:Int) % 64) * 64+(e.toNat:Int) % 64) 2=(((b.toNat:Int) % 8) * 64+(c.toNat:Int) % 64):=rfl
    rw[hp]
    (repeat' first|simp (disch:=omega) only[go_sem,hkn,kn1,hc,pw6,q4p,q74,c1',c2',c3',c4']|(apply spl<;>intro h<;>try simp (disch:=omega) only[go_sem,hkn,kn1,hc,pw6,q4p,q74,c1',c2',c3',c4',h]))
    exact ⟨2,by rw[hq]; rfl,by omega,by omega⟩
   ·have hp:q1N ((b.toNat:Int) % 8) (((b.toNat:Int) % 8) * 64+(c.toNat:Int) % 64) ((((b.toNat:Int) % 8) * 64+(c.toNat:Int) % 64) * 64+(d.toNat:Int) % 64) (((((b.toNat:Int) % 8) * 64+(c.toNat:Int) % 64) * 64+(d.toNat:Int) % 64) * 64+(e.toNat:Int) % 64) 2=(((b.toNat:Int) % 8) * 64+(c.toNat:Int) % 64):=rfl
    have hq:q1N ((b.toNat:Int) % 8) (((b.toNat:Int) % 8) * 64+(c.toNat:Int) % 64) ((((b.toNat:Int) % 8) * 64+(c.toNat:Int) % 64) * 64+(d.toNat:Int) % 64) (((((b.toNat:Int) % 8) * 64+(c.toNat:Int) % 64) * 64+(d.toNat:Int) % 64) * 64+(e.toNat:Int) % 64) 3=((((b.toNat:Int) % 8) * 64+(c.toNat:Int) % 64) * 64+(d.toNat:Int) % 64):=rfl
    rw[hp]
    (repeat' first|simp (disch:=omega) only[go_sem,hkn,kn2,hd,pw6,q4p,q74,c1',c2',c3',c4']|(apply spl<;>intro h<;>try simp (disch:=omega) only[go_sem,hkn,kn2,hd,pw6,q4p,q74,c1',c2',c3',c4',h]))
    exact ⟨3,by rw[hq]; rfl,by omega,by omega⟩
   ·have hp:q1N ((b.toNat:Int) % 8) (((b.toNat:Int) % 8) * 64+(c.toNat:Int) % 64) ((((b.toNat:Int) % 8) * 64+(c.toNat:Int) % 64) * 64+(d.toNat:Int) % 64) (((((b.toNat:Int) % 8) * 64+(c.toNat:Int) % 64) * 64+(d.toNat:Int) % 64) * 64+(e.toNat:Int) % 64) 3=((((b.toNat:Int) % 8) * 64+(c.toNat:Int) % 64) * 64+(d.toNat:Int) % 64):=rfl
    have hq:q1N ((b.toNat:Int) % 8) (((b.toNat:Int) % 8) * 64+(c.toNat:Int) % 64) ((((b.toNat:Int) % 8) * 64+(c.toNat:Int) % 64) * 64+(d.toNat:Int) % 64) (((((b.toNat:Int) % 8) * 64+(c.toNat:Int) % 64) * 64+(d.toNat:Int) % 64) * 64+(e.toNat:Int) % 64) 4=(((((b.toNat:Int) % 8) * 64+(c.toNat:Int) % 64) * 64+(d.toNat:Int) % 64) * 64+(e.toNat:Int) % 64):=rfl
    rw[hp]
    (repeat' first|simp (disch:=omega) only[go_sem,hkn,kn3,he,pw6,q4p,q74,c1',c2',c3',c4']|(apply spl<;>intro h<;>try simp (disch:=omega) only[go_sem,hkn,kn3,he,pw6,q4p,q74,c1',c2',c3',c4',h]))
    exact ⟨4,by rw[hq]; rfl,by omega,by omega⟩
   ·have hp:q1N ((b.toNat:Int) % 8) (((b.toNat:Int) % 8) * 64+(c.toNat:Int) % 64) ((((b.toNat:Int) % 8) * 64+(c.toNat:Int) % 64) * 64+(d.toNat:Int) % 64) (((((b.toNat:Int) % 8) * 64+(c.toNat:Int) % 64) * 64+(d.toNat:Int) % 64) * 64+(e.toNat:Int) % 64) 4=(((((b.toNat:Int) % 8) * 64+(c.toNat:Int) % 64) * 64+(d.toNat:Int) % 64) * 64+(e.toNat:Int) % 64):=rfl
    rw[hp]
    obtain ⟨r,hr⟩ : ∃ r:Int,r=(((((b.toNat:Int) % 8) * 64+(c.toNat:Int) % 64) * 64+(d.toNat:Int) % 64) * 64+(e.toNat:Int) % 64):=⟨_,rfl⟩
    obtain ⟨l,hl⟩ : ∃ l:List UInt8,l=[b,c,d,e]:=⟨_,rfl⟩
    have hsl:=qfx hb hc hd he
    have hkn2:((k:Int)+4).toNat=k+4:=by omega
    have hfin:q3x s k b=q0T r l 4:=by
     rw[hr,hl]
     by_cases g5:b.toNat<248
     ·rw[qrS g1 g5]
      unfold q3x
      repeat' split
      all_goals first | omega | (rw[hc,hd,he])
     ·rw[qrJ (by omega) _ (by omega) (by omega)]
      unfold q3x
      repeat' split
      all_goals first | omega | rfl
    unfold q0T at hfin
    have he:=q4N r
    rw[←hr]
    generalize q54 r=te at he hfin
    obtain ⟨t,e0⟩:=te
    simp only at he hfin
    by_cases h1:e0=0
    ·by_cases h2:t=l
     ·have hb2:(t == l)=true:=by simpa using h2
      subst h1
      rw[if_pos ⟨rfl,h2⟩] at hfin
      rw[hfin]
      rw[hl] at hb2
      (repeat' first|simp (disch:=omega) only[go_sem,hkn,hkn2,hsl,hb2]|refine q00 _ (he) ?_|(apply spl<;>intro h<;>try simp (disch:=omega) only[go_sem,hkn,hkn2,hsl,hb2 ,h]))
     ·have hb2:(t == l)=false:=by simpa using h2
      subst h1
      rw[if_neg (fun h=>h2 h.2)] at hfin
      rw[hfin]
      rw[hl] at hb2
      (repeat' first|simp (disch:=omega) only[go_sem,hkn,hkn2,hsl,hb2]|refine q00 _ (he) ?_|(apply spl<;>intro h<;>try simp (disch:=omega) only[go_sem,hkn,hkn2,hsl,hb2 ,h]))
    ·rw[if_neg (fun h=>h1 h.1)] at hfin
     rw[hfin]
     (repeat' first|simp (disch:=omega) only[go_sem,hkn,h1]|refine q00 _ (he) ?_|(apply spl<;>intro h<;>try simp (disch:=omega) only[go_sem,hkn,h1 ,h]))
 omega
end Ago
set_option maxRecDepth 100000
set_option maxHeartbeats 4000000
namespace Ago
open Go (IntKind)
theorem qcy {r:Int} {n:Nat}:(q17 r n).2=0∨(q17 r n).2=n:=by
 unfold q17
 split
 ·exact .inr rfl
 ·exact .inl rfl
theorem q5Y (s:List UInt8) (k:Nat) : ∃ n:Nat,(qaE s k).2=n∧(n=0∨k+n≤s.length):=by
 have get_lt : ∀ {j:Nat} {c:UInt8},s[j]?=some c→j<s.length:=fun h=>(List.getElem?_eq_some_iff.1 h).1
 have zero : ∃ n:Nat,(((0,0):Int × Int)).2=n∧(n=0∨k+n≤s.length):=⟨0,rfl,.inl rfl⟩
 have fin : ∀ (r:Int) (m:Nat),k+m≤s.length→∃ n:Nat,(q17 r m).2=n∧(n=0∨k+n≤s.length):=fun r m h=>by
  rcases qcy (r:=r) (n:=m) with e | e
  ·exact ⟨0,e,.inl rfl⟩
  ·exact ⟨m,e,.inr h⟩
 unfold qaE
 cases hb:s[k]? with
 | none=>exact zero
 | some b=>
  have:=get_lt hb
  simp only
  unfold q3x
  split
  ·exact ⟨1,rfl,.inr (by omega)⟩
  ·split
   ·exact zero
   ·split
    ·cases hc:s[k+1]? with
     | none=>exact zero
     | some c=>
      have:=get_lt hc
      rw[q61]
      split
      ·exact fin _ _ (by omega)
      ·exact zero
    ·split
     ·cases hc:s[k+1]? with
      | none=>exact zero
      | some c=>
       cases hd:s[k+2]? with
       | none=>exact zero
       | some d=>
        have:=get_lt hd
        rw[q5G]
        split
        ·exact fin _ _ (by omega)
        ·exact zero
     ·split
      ·cases hc:s[k+1]? with
       | none=>exact zero
       | some c=>
        cases hd:s[k+2]? with
        | none=>exact zero
        | some d=>
         cases he:s[k+3]? with
         | none=>exact zero
         | some e=>
          have:=get_lt he
          rw[q5T]
          split
          ·exact fin _ _ (by omega)
          ·exact zero
      ·exact zero

def q5f (s:List UInt8):Nat→Nat→Bool
 | 0,_=>true
 | f+1,k=>if s.length≤k then true else if (qaE s k).2=0 then false else q5f s f (k+(qaE s k).2.toNat)
def utf (s:List UInt8):Bool:=q5f s (s.length+1) 0
theorem q9z (s:List UInt8) : ∀ (f g k:Nat),s.length-k<f→s.length-k<g→q5f s f k=q5f s g k
 | 0,_,_,h,_=>by omega
 | _,0,_,_,h=>by omega
 | f+1,g+1,k,h1,h2=>by
  obtain ⟨n,hn,h⟩:=q5Y s k
  simp only[q5f]
  split
  ·rfl
  ·split
   ·rfl
   ·exact q9z s f g _ (by omega) (by omega)
theorem q9S {s:List UInt8} {k:Nat} (h:s.length≤k):q5f s (s.length-k+1) k=true:=by
 simp only[q5f]
 rw[if_pos h]
theorem q7W {s:List UInt8} {k:Nat} (h:k<s.length) (h0:(qaE s k).2=0):q5f s (s.length-k+1) k=false:=by
 simp only[q5f]
 rw[if_neg (by omega),if_pos h0]
theorem q7o {s:List UInt8} {k n:Nat} (h:k<s.length) (hn:(qaE s k).2=n) (h0:n≠0):q5f s (s.length-k+1) k=q5f s (s.length-(k+n)+1) (k+n):=by
 conv=>lhs; simp only[q5f]
 rw[if_neg (by omega),if_neg (by omega),hn]
 exact q9z s _ _ _ (by simp; omega) (by simp)

theorem q9N (s:List UInt8) (hs:s.length<2^30) : ∃ l,q0f C0 42 [.str s] (.tup [.tsl 1 l,.bool (utf s)]):=by
 have h:=q3A (C:=C0) (f:=42) (ts:=[.str s]) (k:=fun v=>∃ l,v = .tup [.tsl 1 l,.bool (utf s)]) qln rfl (by
  (repeat' first|simp (disch:=omega) only[go_sem,qln,enter]|(apply spl<;>intro h<;>try simp (disch:=omega) only[go_sem,qln,enter,h]))
  refine q08 (α:=Nat × List AV) (fun a=>{ tmps:=q0i 30 [(0,.str s),(4,.sref 1 0 0 a.2.length),(5,.int .i64 a.1)],heap:=[.row 1 a.2 false true 0],base:=0 }) (fun a=>a.1≤s.length∧a.2.length≤a.1+1∧utf s=q5f s (s.length-a.1+1) a.1) (fun a=>s.length-a.1) (0,[.int .i64 0]) rfl ⟨by simp,by simp,rfl⟩ ?_
  rintro ⟨k,els⟩ ⟨hk,hl,hw⟩
  simp only at hk hl hw
  by_cases hlt:k<s.length
  ·have hd:=q9i s k (by omega) hlt
   obtain ⟨m,hm,hsz⟩:=q5Y s k
   rw[hm] at hd
   by_cases h0:m=0
   ·subst h0
    rw[q7W hlt hm] at hw
    rw[hw]
    (repeat' first|simp (disch:=omega) only[go_sem]|refine q00 _ (hd) ?_|(apply spl<;>intro h<;>try simp (disch:=omega) only[go_sem,h]))
    exact ⟨_,rfl⟩
   ·rw[q7o hlt hm h0] at hw
    (repeat' first|simp (disch:=omega) only[go_sem]|refine q00 _ (hd) ?_|(apply spl<;>intro h<;>try simp (disch:=omega) only[go_sem,h]))
    have e:(els++[AV.int .i64 ((k:Int)+m)]).length=els.length+1:=by simp
    refine ⟨(k+m,els++[.int .i64 ((k:Int)+m)]),?_,⟨by simp only; omega,by simp only[e]; omega,hw⟩,by simp only; omega⟩
    simp only[e]
    rfl
  ·rw[q9S (by omega)] at hw
   rw[hw]
   (repeat' first|simp (disch:=omega) only[go_sem]|(apply spl<;>intro h<;>try simp (disch:=omega) only[go_sem,h]))
   exact ⟨_,rfl⟩)
 obtain ⟨v,h1,l,rfl⟩:=h
 exact ⟨l,h1⟩

theorem qam (s:List UInt8) (hs:s.length<2^30):q0f C0 24 [.str s] (.bool (utf s)):=by
 obtain ⟨l,hb⟩:=q9N s hs
 refine q04 qoC rfl ?_
 (repeat' first|simp (disch:=omega) only[go_sem,qoC,enter]|refine q00 _ (hb) ?_|(apply spl<;>intro h<;>try simp (disch:=omega) only[go_sem,qoC,enter ,h]))
end Ago
set_option maxRecDepth 100000
set_option maxHeartbeats 4000000
namespace Ago
open Go (IntKind)
theorem qaP {s:List UInt8} {k:Nat} {b:UInt8} (h:s[k]?=some b):(ByteArray.mk s.toArray).get! k=b:=by
 obtain ⟨h1,h2⟩:=List.getElem?_eq_some_iff.1 h
 show getElem! s.toArray k=b
 rw[getElem!_pos s.toArray k (by simpa using h1)]
 simpa using h2
theorem q8i {r:Int} {n:Nat} (h:(q17 r n).2≠0):q2T r=true∧q6f r=n∧(q17 r n).2=n:=by
 unfold q17 at h ⊢
 split at h
 ·rename_i hc
  rw[if_pos hc]
  simp only[Bool.and_eq_true,beq_iff_eq] at hc
  exact ⟨hc.1,hc.2,rfl⟩
 ·exact (h rfl).elim
theorem qd5 {r:Int} {n:Nat} (h:q6f r=n):(n=2→128≤r)∧(n=3→2048≤r)∧(n=4→65536≤r):=by
 unfold q6f at h
 split at h
 ·omega
 ·split at h
  ·omega
  ·split at h<;>omega
theorem q82 {r:Nat} (h:q2T (r:Int)=true):Go.Utf8.valid (r:Int)=true:=by
 unfold q2T at h
 unfold Go.Utf8.valid
 simp only[Bool.and_eq_true,Bool.or_eq_true,decide_eq_true_eq] at h ⊢
 omega
theorem qoW {s:List UInt8} {k:Nat} (h:(qaE s k).2≠0):(qaE s k).2=(Go.Utf8.decode ⟨s.toArray⟩ k).2:=by
 unfold qaE at h ⊢
 cases hb:s[k]? with
 | none=>rw[hb] at h; exact (h rfl).elim
 | some b=>
  rw[hb] at h
  simp only at h ⊢
  have hbl:=b.toNat_lt
  have g0:=qaP hb
  unfold q3x at h ⊢
  unfold Go.Utf8.decode
  have hsz:(ByteArray.mk s.toArray).size=s.length:=by show s.toArray.size=_; simp
  simp only[Nat.add_zero,g0,hsz]
  by_cases h1:b.toNat<128
  ·rw[if_pos h1,if_pos h1]
   rfl
  rw[if_neg h1] at h ⊢
  rw[if_neg h1]
  by_cases h2:b.toNat<192
  ·rw[if_pos h2] at h
   exact (h rfl).elim
  rw[if_neg h2] at h ⊢
  have gc : ∀ (i:Nat) (c:UInt8),s[k+i]?=some c→k+i<s.length∧(ByteArray.mk s.toArray).get! (k+i)=c:=fun i c hc=>⟨(List.getElem?_eq_some_iff.1 hc).1,qaP hc⟩
  by_cases h3:b.toNat<224
  ·rw[if_pos h3] at h ⊢
   cases hc:s[k+1]? with
   | none=>rw[hc] at h; exact (h rfl).elim
   | some c=>
    rw[hc] at h
    obtain ⟨l1,e1⟩:=gc 1 c hc
    rw[q61] at h ⊢
    cases hcc:q16 c with
    | false=>rw[hcc] at h; exact (h rfl).elim
    | true=>
     rw[hcc,if_pos rfl] at h
     rw[if_pos rfl]
     obtain ⟨q1,q2,q3⟩:=q8i h
     have q4:=(qd5 q2).1 rfl
     have q5:=q0w.1 hcc
     rw[q3,e1]
     have t1:b.toNat / 32 == 6:=by simp; omega
     have t2:c.toNat / 64 == 2:=by simp; omega
     have t3:(128:Nat)≤b.toNat % 32 * 64+c.toNat % 64:=by omega
     simp [t1,t2,l1,t3]
  rw[if_neg h3] at h ⊢
  have n32 : ¬ b.toNat / 32=6:=by omega
  by_cases h4:b.toNat<240
  ·rw[if_pos h4] at h ⊢
   cases hc:s[k+1]? with
   | none=>rw[hc] at h; exact (h rfl).elim
   | some c=>
    cases hd:s[k+2]? with
    | none=>rw[hc,hd] at h; exact (h rfl).elim
    | some d=>
     rw[hc,hd] at h
     obtain ⟨l1,e1⟩:=gc 1 c hc
     obtain ⟨l2,e2⟩:=gc 2 d hd
     rw[q5G] at h ⊢
     cases hcc:q16 c && q16 d with
     | false=>rw[hcc] at h; exact (h rfl).elim
     | true=>
      rw[hcc,if_pos rfl] at h
      rw[if_pos rfl]
      obtain ⟨q1,q2,q3⟩:=q8i h
      have q4:=(qd5 q2).2.1 rfl
      rw[Bool.and_eq_true] at hcc
      have q5:=q0w.1 hcc.1
      have q6:=q0w.1 hcc.2
      rw[q3,e1,e2]
      have t1:b.toNat / 16 == 14:=by simp; omega
      have t2:c.toNat / 64 == 2:=by simp; omega
      have t3:d.toNat / 64 == 2:=by simp; omega
      have t4:(2048:Nat)≤b.toNat % 16 * 4096+c.toNat % 64 * 64+d.toNat % 64:=by omega
      have t5:Go.Utf8.valid ((b.toNat % 16 * 4096+c.toNat % 64 * 64+d.toNat % 64:Nat):Int)=true:=by
       refine q82 ?_
       have hq:((b.toNat % 16 * 4096+c.toNat % 64 * 64+d.toNat % 64:Nat):Int)=(((b.toNat:Int)-224) * 64+((c.toNat:Int)-128)) * 64+((d.toNat:Int)-128):=by omega
       rw[hq]
       exact q1
      have n32':(b.toNat / 32 == 6)=false:=by simpa using n32
      simp only[n32',t1,t2,t3,l1,l2,decide_eq_true t4,t5,Bool.false_and,Bool.false_eq_true,if_false,decide_true,Bool.and_true,Bool.true_and,if_true,ge_iff_le]
  rw[if_neg h4] at h ⊢
  have n16 : ¬ b.toNat / 16=14:=by omega
  by_cases h5:b.toNat<248
  ·rw[if_pos h5] at h ⊢
   cases hc:s[k+1]? with
   | none=>rw[hc] at h; exact (h rfl).elim
   | some c=>
    cases hd:s[k+2]? with
    | none=>rw[hc,hd] at h; exact (h rfl).elim
    | some d=>
     cases he:s[k+3]? with
     | none=>rw[hc,hd,he] at h; exact (h rfl).elim
     | some e=>
      rw[hc,hd,he] at h
      obtain ⟨l1,e1⟩:=gc 1 c hc
      obtain ⟨l2,e2⟩:=gc 2 d hd
      obtain ⟨l3,e3⟩:=gc 3 e he
      rw[q5T] at h ⊢
      cases hcc:q16 c && q16 d && q16 e with
      | false=>rw[hcc] at h; exact (h rfl).elim
      | true=>
       rw[hcc,if_pos rfl] at h
       rw[if_pos rfl]
       obtain ⟨q1,q2,q3⟩:=q8i h
       have q4:=(qd5 q2).2.2 rfl
       rw[Bool.and_eq_true,Bool.and_eq_true] at hcc
       have q5:=q0w.1 hcc.1.1
       have q6:=q0w.1 hcc.1.2
       have q7:=q0w.1 hcc.2
       rw[q3,e1,e2,e3]
       have t1:b.toNat / 8 == 30:=by simp; omega
       have t2:c.toNat / 64 == 2:=by simp; omega
       have t3:d.toNat / 64 == 2:=by simp; omega
       have t6:e.toNat / 64 == 2:=by simp; omega
       have t4:(65536:Nat)≤b.toNat % 8 * 262144+c.toNat % 64 * 4096+d.toNat % 64 * 64+e.toNat % 64:=by omega
       have t5:Go.Utf8.valid ((b.toNat % 8 * 262144+c.toNat % 64 * 4096+d.toNat % 64 * 64+e.toNat % 64:Nat):Int)=true:=by
        refine q82 ?_
        have hq:((b.toNat % 8 * 262144+c.toNat % 64 * 4096+d.toNat % 64 * 64+e.toNat % 64:Nat):Int)=((((b.toNat:Int)-240) * 64+((c.toNat:Int)-128)) * 64+((d.toNat:Int)-128)) * 64+((e.toNat:Int)-128):=by omega
        rw[hq]
        exact q1
       have n32':(b.toNat / 32 == 6)=false:=by simpa using n32
       have n16':(b.toNat / 16 == 14)=false:=by simpa using n16
       simp only[n32',n16',t1,t2,t3,t6,l1,l2,l3,decide_eq_true t4,t5,Bool.false_and,Bool.false_eq_true,if_false,decide_true,Bool.and_true,Bool.true_and,if_true,ge_iff_le]
  rw[if_neg h5] at h
  exact (h rfl).elim
def q5z (s:List UInt8):Nat→Nat→Nat
 | 0,_=>0
 | f+1,k=>if k<s.length then 1+q5z s f (k+(Go.Utf8.decode ⟨s.toArray⟩ k).2) else 0
theorem qlN (s:List UInt8) (k:Nat):1≤(Go.Utf8.decode ⟨s.toArray⟩ k).2:=by
 unfold Go.Utf8.decode
 simp only
 repeat' split
 all_goals simp
theorem qaO (s:List UInt8) : ∀ (f g k:Nat),s.length-k≤f→s.length-k≤g→q5z s f k=q5z s g k
 | 0,0,k,_,_=>rfl
 | 0,g+1,k,h,_=>by
  unfold q5z
  rw[if_neg (by omega)]
 | f+1,0,k,_,h=>by
  unfold q5z
  rw[if_neg (by omega)]
 | f+1,g+1,k,h1,h2=>by
  unfold q5z
  split
  ·have:=qlN s k
   rw[qaO s f g _ (by omega) (by omega)]
  ·rfl
def qcq (s:List UInt8):Nat:=q5z s s.length 0
theorem qgC {s:List UInt8} {k m:Nat} (h:k<s.length) (hm:(qaE s k).2=m) (h0:m≠0):q5z s (s.length-k) k=1+q5z s (s.length-(k+m)) (k+m):=by
 have hd:=qoW (s:=s) (k:=k) (by omega)
 have he:(Go.Utf8.decode ⟨s.toArray⟩ k).2=m:=by omega
 obtain ⟨f,hf⟩ : ∃ f,s.length-k=f+1:=⟨s.length-k-1,by omega⟩
 rw[hf]
 conv=>lhs; unfold q5z
 rw[if_pos h,he,qaO s f (s.length-(k+m)) (k+m) (by omega) (by omega)]
theorem q8I (s:List UInt8) (hs:s.length<2^30) : ∃ l,q0f C0 42 [.str s] (.tup [.tsl 1 l,.bool (utf s)])∧l.length≤s.length+1∧(utf s=true→l.length=qcq s+1):=by
 have h:=q3A (C:=C0) (f:=42) (ts:=[.str s]) (k:=fun v=>∃ l,v = .tup [.tsl 1 l,.bool (utf s)]∧l.length≤s.length+1∧(utf s=true→l.length=qcq s+1)) qln rfl (by
  (repeat' first|simp (disch:=omega) only[go_sem,qln,enter]|(apply spl<;>intro h<;>try simp (disch:=omega) only[go_sem,qln,enter,h]))
  refine q08 (α:=Nat × List AV) (fun a=>{ tmps:=q0i 30 [(0,.str s),(4,.sref 1 0 0 a.2.length),(5,.int .i64 a.1)],heap:=[.row 1 a.2 false true 0],base:=0 }) (fun a=>a.1≤s.length∧a.2.length≤a.1+1∧utf s=q5f s (s.length-a.1+1) a.1∧a.2.length+q5z s (s.length-a.1) a.1=qcq s+1) (fun a=>s.length-a.1) (0,[.int .i64 0]) rfl ⟨by simp,by simp,rfl,by simp only[List.length_cons,List.length_nil,Nat.sub_zero]; unfold qcq; omega⟩ ?_
  rintro ⟨k,els⟩ ⟨hk,hl,hw,hcn⟩
  simp only at hk hl hw hcn
  by_cases hlt:k<s.length
  ·have hd:=q9i s k (by omega) hlt
   obtain ⟨m,hm,hsz⟩:=q5Y s k
   rw[hm] at hd
   by_cases h0:m=0
   ·subst h0
    rw[q7W hlt hm] at hw
    rw[hw]
    (repeat' first|simp (disch:=omega) only[go_sem,List.take_length]|refine q00 _ (hd) ?_|(apply spl<;>intro h<;>try simp (disch:=omega) only[go_sem,List.take_length ,h]))
    exact ⟨_,rfl,by omega,fun h=>by cases h⟩
   ·rw[q7o hlt hm h0] at hw
    rw[qgC hlt hm h0] at hcn
    (repeat' first|simp (disch:=omega) only[go_sem]|refine q00 _ (hd) ?_|(apply spl<;>intro h<;>try simp (disch:=omega) only[go_sem,h]))
    have e:(els++[AV.int .i64 ((k:Int)+m)]).length=els.length+1:=by simp
    refine ⟨(k+m,els++[.int .i64 ((k:Int)+m)]),?_,⟨by simp only; omega,by simp only[e]; omega,hw,by simp only[e]; omega⟩,by simp only; omega⟩
    simp only[e]
    rfl
  ·rw[q9S (by omega)] at hw
   rw[hw]
   have hz:q5z s (s.length-k) k=0:=by
    rw[show s.length-k=0 by omega]
    rfl
   (repeat' first|simp (disch:=omega) only[go_sem,List.take_length]|(apply spl<;>intro h<;>try simp (disch:=omega) only[go_sem,List.take_length,h]))
   exact ⟨_,rfl,by omega,fun _=>by omega⟩)
 obtain ⟨v,h1,l,rfl,h2,h3⟩:=h
 exact ⟨l,h1,h2,h3⟩
end Ago
set_option maxRecDepth 100000
set_option maxHeartbeats 4000000
namespace Ago
open Go (IntKind)
def qrh (v:V):Prop:=(v.s.kind=6∨v.l.length=0)∧(v.s.kind=7∨v.f.length=0)
end Ago
set_option maxRecDepth 100000
set_option maxHeartbeats 4000000
namespace Ago
open Go (IntKind)

end Ago
set_option maxRecDepth 100000
set_option maxHeartbeats 4000000
namespace Ago
open Go (IntKind)
def V.kids (v:V):List V:=if v.s.kind=7 then v.f.map (·.2) else v.l

theorem qkk (v:V) (hv:v.bulk≤2^24):q0f C0 58 [q0j v] (.tsl 13 (v.kids.map q0j)):=by
 have L:=V.lens hv
 refine q04 qmc rfl ?_
 rw[q07]
 by_cases h7:v.s.kind=7
 ·(repeat' first|simp (disch:=omega) only[go_sem,qmc,enter]|(apply spl<;>intro h<;>try simp (disch:=omega) only[go_sem,qmc,enter,h]))
  refine q08 (α:=Nat × List AV) (fun a=>{ tmps:=q0i 27 [(1,.ptr 13 0 0 0),(3,q0x 13 1 a.2),(4,.int .i64 a.1)],heap:=[.row 13 [q0j v] false true 0]++q0y 13 1 a.2,base:=0 }) (fun a=>a.1≤v.f.length∧a.2=(v.f.take a.1).map fun x=>q0j x.2) (fun a=>v.f.length-a.1) (0,[]) (by rw[q07]; rfl) (by simp) ?_
  rintro ⟨k,els⟩ ⟨hk,hl⟩
  simp only at hk hl
  rw[q07]
  by_cases hlt:k<v.f.length
  ·obtain ⟨x,hx⟩:=q06 hlt
   have hx2:=q09 (g:=q0r) hx
   rw[q0D] at hx2
   have hnew:els++[q0j x.2]=(v.f.take (k+1)).map fun x=>q0j x.2:=by rw[hl,List.take_add_one,hx]; simp
   rw[q07 x.2] at hnew
   have hlen:els.length=k:=by rw[hl]; simp; omega
   have hfl:=L.fields
   cases els with
   | nil=>
    (repeat' first|simp (disch:=omega) only[go_sem,hx2,List.length_map,q0x,q0y]|(apply spl<;>intro h<;>try simp (disch:=omega) only[go_sem,hx2,List.length_map,q0x,q0y,h]))
    refine ⟨(k+1,(v.f.take (k+1)).map fun x=>q0j x.2),?_,⟨hlt,rfl⟩,by simp only; omega⟩
    simp only[←hnew]
    rfl
   | cons y els=>
    simp only[List.length_cons] at hlen
    (repeat' first|simp (disch:=omega) only[go_sem,hx2,List.length_map,q0x,q0y]|(apply spl<;>intro h<;>try simp (disch:=omega) only[go_sem,hx2,List.length_map,q0x,q0y,h]))
    refine ⟨(k+1,(v.f.take (k+1)).map fun x=>q0j x.2),?_,⟨hlt,rfl⟩,by simp only; omega⟩
    simp only[←hnew,List.cons_append,q0x,q0y,List.length_append,List.length_cons,List.length_nil]
    rfl
  ·have hf:els=v.kids.map q0j:=by
    rw[hl,q0C hlt hk]
    simp [V.kids,h7]
   rw[←hf]
   cases els with
   | nil=>
    (repeat' first|simp (disch:=omega) only[go_sem,List.length_map,q0x,q0y]|(apply spl<;>intro h<;>try simp (disch:=omega) only[go_sem,List.length_map,q0x,q0y,h]))
   | cons y els=>
    (repeat' first|simp (disch:=omega) only[go_sem,List.length_map,q0x,q0y,List.take_length]|(apply spl<;>intro h<;>try simp (disch:=omega) only[go_sem,List.length_map,q0x,q0y,List.take_length,h]))
 ·(repeat' first|simp (disch:=omega) only[go_sem,qmc,enter]|(apply spl<;>intro h<;>try simp (disch:=omega) only[go_sem,qmc,enter,h]))
  simp [V.kids,h7]

inductive Good:Nat→V→Prop where
 | mk {n:Nat} {v:V} (h:q0Q v.s.num=true) (ho:qrh v) (hk : ∀ x,x∈v.kids→Good n x):Good (n+1) v

theorem kids_bulk {v:V} (hv:v.bulk≤2^24):(∀ x,x∈v.kids→x.bulk<v.bulk)∧v.kids.length<2^24:=by
 have L:=V.lens hv
 unfold V.kids
 split
 ·refine ⟨fun x hx=>?_,by simp only[List.length_map]; exact L.fields⟩
  obtain ⟨y,hy,rfl⟩:=List.mem_map.1 hx
  exact (L.fkids y hy).1
 ·exact ⟨L.kids,L.list⟩

end Ago
set_option maxRecDepth 100000
set_option maxHeartbeats 4000000
namespace Ago
open Go (IntKind)
theorem qmo : ∀ (n:Nat) (v:V),v.bulk≤n→n≤2^24→∀ (left d:Int),0≤left→left<2^30→-1≤d→d<2^30→∃ r:Int,q0f C0 38 [q0j v,.int .i64 left,.int .i64 d] (.int .i64 r)∧-1≤r∧r<2^30:=by
 intro n
 induction n with
 | zero=>
  intro v hv
  have:1≤v.bulk:=q1b _
  omega
 | succ n ih=>
  intro v hv hn left d hl1 hl2 hd1 hd2
  have L:=V.lens (v:=v) (N:=2^24) (by omega)
  have h:=q3A (C:=C0) (f:=38) (ts:=[q0j v,.int .i64 left,.int .i64 d]) (k:=fun w=>∃ r:Int,w = .int .i64 r∧-1≤r∧r<2^30) qmm rfl (by
   rw[q07]
   by_cases hdz:d≤0
   ·(repeat' first|simp (disch:=omega) only[go_sem,qmm,enter,List.length_map]|(apply spl<;>intro h<;>try simp (disch:=omega) only[go_sem,qmm,enter,List.length_map,h]))
    exact ⟨_,rfl,by omega,by omega⟩
   (repeat' first|simp (disch:=omega) only[go_sem,qmm,enter,List.length_map]|(apply spl<;>intro h<;>try simp (disch:=omega) only[go_sem,qmm,enter,List.length_map,h]))
   all_goals first | exact ⟨_,rfl,by omega,by omega⟩ | skip
   refine q08 (α:=Nat × Int) (fun a=>{ tmps:=q0i 69 [(1,.int .i64 a.2),(2,.int .i64 d),(3,.ptr 13 0 0 0),(7,.int .i64 a.1)],heap:=[.row 13 [q0j v] false true 0],base:=0 }) (fun a=>a.1≤v.l.length∧-1≤a.2∧a.2<2^30) (fun a=>v.l.length-a.1) (0,left-1) (by rw[q07]; rfl) ⟨Nat.zero_le _,by simp only; omega,by simp only; omega⟩ ?_
   rintro ⟨k,lf⟩ ⟨hk,hs3,hs4⟩
   simp only at hk hs3 hs4
   rw[q07]
   by_cases hlt:k<v.l.length∧0≤lf
   ·obtain ⟨hlt,hlf⟩:=hlt
    obtain ⟨x,hx⟩:=q06 hlt
    have hxm:=List.mem_of_getElem? hx
    have hx2:=q09 (g:=q0j) hx
    obtain ⟨r,hr,k1,k2⟩:=ih x (by have:=L.kids x hxm; omega) (by omega) lf (d-1) (by omega) (by omega) (by omega) (by omega)
    rw[q07] at hx2 hr
    (repeat' first|simp (disch:=omega) only[go_sem,hx2,List.length_map]|refine q00 _ (hr) ?_|(apply spl<;>intro h<;>try simp (disch:=omega) only[go_sem,hx2,List.length_map ,h]))
    exact ⟨(k+1,r),rfl,⟨hlt,by simp only; omega,by simp only; omega⟩,by simp only; omega⟩
   ·have key : ∀ lf:Int,-1≤lf→lf<2^30→∀ (k:Nat),True:=fun _ _ _ _=>trivial
    by_cases hlt2:k<v.l.length
    ·have hlf:lf<0:=by omega
     (repeat' first|simp (disch:=omega) only[go_sem,List.length_map]|(apply spl<;>intro h<;>try simp (disch:=omega) only[go_sem,List.length_map,h]))
     refine q08 (α:=Nat × Int) (fun a=>{ tmps:=q0i 69 [(1,.int .i64 a.2),(2,.int .i64 d),(3,.ptr 13 0 0 0),(8,.int .i64 a.1)],heap:=[.row 13 [q0j v] false true 0],base:=0 }) (fun a=>a.1≤v.f.length∧-1≤a.2∧a.2<2^30) (fun a=>v.f.length-a.1) (0,lf) (by rw[q07]; rfl) ⟨Nat.zero_le _,by simp only; omega,by simp only; omega⟩ ?_
     clear hk hs3 hs4 hlt hlt2
     rintro ⟨k,lf⟩ ⟨hk,hs3,hs4⟩
     simp only at hk hs3 hs4
     rw[q07]
     by_cases hlt:k<v.f.length∧0≤lf
     ·obtain ⟨hlt,hlf⟩:=hlt
      obtain ⟨x,hx⟩:=q06 hlt
      have hxm:=List.mem_of_getElem? hx
      have hx2:=q09 (g:=q0r) hx
      obtain ⟨r,hr,k1,k2⟩:=ih x.2 (by have:=(L.fkids x hxm).1; omega) (by omega) lf (d-1) (by omega) (by omega) (by omega) (by omega)
      rw[q0D] at hx2
      rw[q07] at hr
      (repeat' first|simp (disch:=omega) only[go_sem,hx2,List.length_map]|refine q00 _ (hr) ?_|(apply spl<;>intro h<;>try simp (disch:=omega) only[go_sem,hx2,List.length_map ,h]))
      exact ⟨(k+1,r),rfl,⟨hlt,by simp only; omega,by simp only; omega⟩,by simp only; omega⟩
     ·by_cases hlt2:k<v.f.length
      ·have hlf:lf<0:=by omega
       (repeat' first|simp (disch:=omega) only[go_sem,List.length_map]|(apply spl<;>intro h<;>try simp (disch:=omega) only[go_sem,List.length_map,h]))
       exact ⟨_,rfl,by omega,by omega⟩
      ·(repeat' first|simp (disch:=omega) only[go_sem,List.length_map]|(apply spl<;>intro h<;>try simp (disch:=omega) only[go_sem,List.length_map,h]))
       exact ⟨_,rfl,by omega,by omega⟩
    ·(repeat' first|simp (disch:=omega) only[go_sem,List.length_map]|(apply spl<;>intro h<;>try simp (disch:=omega) only[go_sem,List.length_map,h]))
     refine q08 (α:=Nat × Int) (fun a=>{ tmps:=q0i 69 [(1,.int .i64 a.2),(2,.int .i64 d),(3,.ptr 13 0 0 0),(8,.int .i64 a.1)],heap:=[.row 13 [q0j v] false true 0],base:=0 }) (fun a=>a.1≤v.f.length∧-1≤a.2∧a.2<2^30) (fun a=>v.f.length-a.1) (0,lf) (by rw[q07]; rfl) ⟨Nat.zero_le _,by simp only; omega,by simp only; omega⟩ ?_
     clear hk hs3 hs4 hlt hlt2
     rintro ⟨k,lf⟩ ⟨hk,hs3,hs4⟩
     simp only at hk hs3 hs4
     rw[q07]
     by_cases hlt:k<v.f.length∧0≤lf
     ·obtain ⟨hlt,hlf⟩:=hlt
      obtain ⟨x,hx⟩:=q06 hlt
      have hxm:=List.mem_of_getElem? hx
      have hx2:=q09 (g:=q0r) hx
      obtain ⟨r,hr,k1,k2⟩:=ih x.2 (by have:=(L.fkids x hxm).1; omega) (by omega) lf (d-1) (by omega) (by omega) (by omega) (by omega)
      rw[q0D] at hx2
      rw[q07] at hr
      (repeat' first|simp (disch:=omega) only[go_sem,hx2,List.length_map]|refine q00 _ (hr) ?_|(apply spl<;>intro h<;>try simp (disch:=omega) only[go_sem,hx2,List.length_map ,h]))
      exact ⟨(k+1,r),rfl,⟨hlt,by simp only; omega,by simp only; omega⟩,by simp only; omega⟩
     ·by_cases hlt2:k<v.f.length
      ·have hlf:lf<0:=by omega
       (repeat' first|simp (disch:=omega) only[go_sem,List.length_map]|(apply spl<;>intro h<;>try simp (disch:=omega) only[go_sem,List.length_map,h]))
       exact ⟨_,rfl,by omega,by omega⟩
      ·(repeat' first|simp (disch:=omega) only[go_sem,List.length_map]|(apply spl<;>intro h<;>try simp (disch:=omega) only[go_sem,List.length_map,h]))
       exact ⟨_,rfl,by omega,by omega⟩)
  obtain ⟨w,k1,r,rfl,k2,k3⟩:=h
  exact ⟨r,k1,k2,k3⟩

theorem ql9 (v:V) (hv:v.bulk≤2^24) (n d:Int) (h1:0≤n) (h2:n<2^30) (h3 : -1≤d) (h4:d<2^30) : ∃ b,q0f C0 18 [q0j v,.int .i64 n,.int .i64 d] (.bool b):=by
 obtain ⟨r,k1,_,_⟩:=qmo _ v (Nat.le_refl _) hv n d h1 h2 h3 h4
 rw[q07] at k1 ⊢
 refine ⟨decide (r≥0),q04 qnI rfl ?_⟩
 (repeat' first|simp (disch:=omega) only[go_sem,qnI,enter]|refine q00 _ (k1) ?_|(apply spl<;>intro h<;>try simp (disch:=omega) only[go_sem,qnI,enter ,h]))
end Ago
