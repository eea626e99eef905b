/- Layers 1 and 2 of the references: numerals and decimals. -/
import Derived.Test.YtjeahlpkonkjiaaGreatDoorCodeZ
import Derived.Test.YtjeahlpkonkjiaaGreatDoorMachE
import GoSem.Core.Utf8
set_option linter.unusedSimpArgs false
set_option linter.unusedVariables false
set_option maxRecDepth 100000
namespace Ago
def q5n (b:UInt8):Bool:=decide (48≤b.toNat∧b.toNat≤57)
def digits (s:List UInt8):Bool:=s.all q5n
theorem q0v {α:Type} {s:List α} {k:Nat} {c:α} {p:α→Bool} (hc:s[k]?=some c) (h:(s.take k).all p=true) (hp:p c=true):(s.take (k+1)).all p=true:=by
 rw[KB,hc]
 simp_all
theorem q3R {α:Type} {s:List α} {k:Nat} {c:α} {p:α→Bool} (hc:s[k]?=some c) (hp:p c=false):s.all p=false:=by
 rw[List.all_eq_false]
 exact ⟨c,Kc hc,by simp [hp]⟩
theorem q05 {α:Type} {s:List α} {k:Nat} (h:k<s.length) : ∃ c,s[k]?=some c:=⟨_,Ki h⟩

theorem qbk (s:List UInt8) (hs:s.length<2^31):q0e C0 82 [.str s] (.bool (digits s)):=by
 refine q04 qx2 rfl ?_
 simp (disch:=omega) only[go_sem,qx2,enter]
 refine q06 (α:=Nat) (fun k=>{ tmps:=q0h 20 [(0,.str s),(3,.int .i64 k)],heap:=[],base:=0 }) (fun k=>k≤s.length∧(s.take k).all q5n=true) (fun k=>s.length-k) 0 rfl ⟨Km _,rfl⟩ ?_
 rintro k ⟨hk,hd⟩
 by_cases hlt:k<s.length
 ·obtain ⟨c,hc⟩:=q05 hlt
  (repeat' first|simp (disch:=omega) only[go_sem,hc]|(apply spl<;>intro h<;>try simp (disch:=omega) only[go_sem,hc,h]))
  ·rw[digits,q3R hc (by simp [q5n]; omega)]
  ·exact ⟨k+1,rfl,⟨hlt,q0v hc hd (by simp [q5n]; omega)⟩,by omega⟩
  ·rw[digits,q3R hc (by simp [q5n]; omega)]
 ·(repeat' first|simp (disch:=omega) only[go_sem]|(apply spl<;>intro h<;>try simp (disch:=omega) only[go_sem,h]))
  have:k=s.length:=by omega
  subst this
  simpa [digits] using hd

def q56 (s:List UInt8):Bool:=decide (s.length≤600) && digits s && decide (s[0]?≠some 48)

theorem q6r (c:UInt8):(c.toNat:Int)=48↔c=48:=by
 constructor
 ·intro h
  have:c.toNat=48:=by omega
  exact UInt8.toNat_inj.1 this
 ·rintro rfl; rfl

theorem e00:(0:Int).toNat=0:=(rfl)
theorem qg6 (s:List UInt8) (hs:s.length<2^31):q0e C0 59 [.str s] (.bool (q56 s)):=by
 refine q04 qsD rfl ?_
 by_cases h0:s.length=0
 ·have hn:s=[]:=Kz h0
  (repeat' first|simp (disch:=omega) only[go_sem,qsD,enter,h0]|refine q00 _ (qbk _ hs) ?_|(apply spl<;>intro h<;>try simp (disch:=omega) only[go_sem,qsD,enter,h0 ,h]))
  all_goals simp_all [q56]
 ·obtain ⟨c,hc⟩:=q05 (s:=s) (k:=0) (by omega)
  (repeat' first|simp (disch:=omega) only[go_sem,qsD,enter,hc,e00]|refine q00 _ (qbk _ hs) ?_|(apply spl<;>intro h<;>try simp (disch:=omega) only[go_sem,qsD,enter,hc,e00 ,h]))
  all_goals simp_all [q56,bne,q6r,qa4,q83]
  all_goals omega

def q3f (l:List UInt8):List AV:=l.map fun c=>.int .u8 c.toNat
theorem q4K : ∀ l,q1N qbR (q3f l)=some l
 | []=>rfl
 | c::l=>by simp [q3f,q1N,qbR] at *; have:=q4K l; simp [q3f] at this; simp [this]

theorem q6S (n:Nat) (hn:n<2^24):q0e C0 40 [.int .i64 n] (.str (List.replicate n 48)):=by
 refine q04 qwx rfl ?_
 by_cases h0:n=0
 ·subst h0
  simp (disch:=omega) only[go_sem,qwx,enter]
  refine q06 (α:=Unit) (fun _=>{ tmps:=q0h 17 [(0,.int .i64 0),(3,.snil 1),(4,.int .i64 0)],heap:=[],base:=0 }) (fun _=>True) (fun _=>0) () rfl trivial ?_
  rintro _ _
  (repeat' first|simp (disch:=omega) only[go_sem])
 ·have e2 : ¬ (n:Int)=0:=by omega
  simp (disch:=omega) only[go_sem,qwx,enter,e2]
  refine q06 (α:=Nat) (fun k=>{ tmps:=q0h 17 [(0,.int .i64 n),(3,.sref 1 0 0 n),(4,.int .i64 k)],heap:=[.row 1 (List.replicate k (.int .u8 48)++List.replicate (n-k) (.int .u8 0)) false true 0],base:=0 }) (fun k=>k≤n) (fun k=>n-k) 0 (by simp only[List.replicate_zero,Ks,Wd]; rfl) (Km _) ?_
  rintro k hk
  by_cases hlt:k<n
  ·have hx:(List.replicate k (AV.int .u8 48)++List.replicate (n-k) (.int .u8 0))[k]?=some (.int .u8 0):=by
    rw[Vt (by simp),V2,V0,List.getElem?_replicate,if_pos (by omega)]
   (repeat' first|simp (disch:=omega) only[go_sem,hx]|(apply spl<;>intro h<;>try simp (disch:=omega) only[go_sem,hx,h]))
   refine ⟨k+1,?_,hlt,by omega⟩
   have:(List.replicate k (AV.int .u8 48)++List.replicate (n-k) (AV.int .u8 0)).set k (.int .u8 48)=List.replicate (k+1) (AV.int .u8 48)++List.replicate (n-(k+1)) (AV.int .u8 0):=by
    rw[VZ _ _ (by simp),List.replicate_succ',show n-k=(n-(k+1))+1 by omega]
    simp [Vr]
   rw[this]
   rfl
  ·have hkn:k=n:=by omega
   subst hkn
   have hl:(List.replicate k (AV.int .u8 48)++List.replicate (k-k) (AV.int .u8 0)).length=k:=by simp
   have e:List.take k (List.replicate k (AV.int .u8 48)++List.replicate (k-k) (AV.int .u8 0))=q3f (List.replicate k 48):=by simp [q3f]
   (repeat' first|simp (disch:=omega) only[go_sem,hl,e,q4K])

def q0G (s:List UInt8):Nat:=(s.reverse.takeWhile (· == 48)).length

theorem qaH (s:List UInt8) (hs:s.length<2^31):q0e C0 90 [.str s] (.int .i64 (q0G s)):=by
 refine q04 qwE rfl ?_
 simp (disch:=omega) only[go_sem,qwE,enter]
 refine q06 (α:=Nat) (fun k=>{ tmps:=q0h 21 [(0,.str s),(3,.int .i64 k)],heap:=[],base:=0 }) (fun k=>k≤s.length∧(s.reverse.take k).all (· == 48)=true) (fun k=>s.length-k) 0 rfl ⟨Km _,rfl⟩ ?_
 rintro k ⟨hk,hd⟩
 have fin:(k<s.length→∃ c,s.reverse[k]?=some c∧c≠48)→q0G s=k:=fun h=>by
  unfold q0G
  have key : ∀ (l:List UInt8) (k:Nat),(l.take k).all (· == 48)=true→(k<l.length→∃ c,l[k]?=some c∧c≠48)→k≤l.length→(l.takeWhile (· == 48)).length=k:=by
   intro l
   induction l with
   | nil=>intro k _ _ hk; simp at hk; simp [hk]
   | cons x l ih=>
    intro k h1 h2 h3
    cases k with
    | zero=>
     obtain ⟨c,h4,h5⟩:=h2 (by simp)
     simp at h4
     subst h4
     rw[List.takeWhile_cons_of_neg (by simpa using h5)]
     rfl
    | succ k=>
     simp only[List.take_succ_cons,Vc,Kf] at h1
     rw[List.takeWhile_cons_of_pos (by simpa using h1.1)]
     simp only[Kb,Nat.add_right_cancel_iff]
     exact ih k h1.2 (fun h=>by simpa using h2 (by simpa using h)) (by simpa using h3)
  exact key s.reverse k hd (fun h2=>h (by simpa using h2)) (by simpa using hk)
 by_cases hlt:k<s.length
 ·obtain ⟨c,hc⟩:=q05 (s:=s) (k:=s.length-1-k) (by omega)
  have e:((s.length:Int)-1-k).toNat=s.length-1-k:=by omega
  have hr:s.reverse[k]?=some c:=by rw[List.getElem?_reverse hlt,hc]
  (repeat' first|simp (disch:=omega) only[go_sem,e,hc]|(apply spl<;>intro h<;>try simp (disch:=omega) only[go_sem,e,hc,h]))
  ·refine ⟨k+1,rfl,⟨hlt,q0v hr hd ?_⟩,by omega⟩
   simpa using (q6r c).1 h
  ·rw[fin fun _=>⟨c,hr,fun e=>h ((q6r c).2 e)⟩]
 ·(repeat' first|simp (disch:=omega) only[go_sem]|(apply spl<;>intro h<;>try simp (disch:=omega) only[go_sem,h]))
  rw[fin fun h=>absurd h hlt]

def q08 (s:List UInt8):Int:=s.foldl (fun n c=>10 * n+c.toNat-48) 0
theorem qfE {s:List UInt8} {k:Nat} {c:UInt8} (h:s[k]?=some c):q08 (s.take (k+1))=10 * q08 (s.take k)+c.toNat-48:=by
 unfold q08
 rw[KB,h]
 simp
theorem q0o (s:List UInt8) (hd:digits s=true):0≤q08 s∧q08 s<10^s.length:=by
 have key : ∀ k,k≤s.length→0≤q08 (s.take k)∧q08 (s.take k)<10^k:=by
  intro k
  induction k with
  | zero=>intro _; simp [q08]
  | succ k ih=>
   intro hk
   obtain ⟨h1,h2⟩:=ih (by omega)
   obtain ⟨c,hc⟩:=q05 (s:=s) (k:=k) (by omega)
   have hcd:q5n c=true:=Kk.1 hd c (Kc hc)
   simp only[q5n,decide_eq_true_eq] at hcd
   rw[qfE hc,VH]
   omega
 have:=key s.length (Kr _)
 rwa [Kx] at this

theorem qcu : ∀ (s:List UInt8) (a:Int),s.foldl (fun n c=>10 * n+(c.toNat:Int)-48) a=a * 10^s.length+q08 s
 | [],a=>by simp [q08]
 | c::s,a=>by
  unfold q08
  simp only[VQ,Kb]
  rw[qcu s,qcu s,VH]
  generalize (10:Int)^s.length=p
  generalize q08 s=q
  generalize (c.toNat:Int)=x
  rw[show (10 * a+x-48) * p=10 * a * p+x * p-48 * p by rw[Int.sub_mul,Int.add_mul],show (10 * 0+x-48) * p=x * p-48 * p by rw[Int.sub_mul]; simp,show a * (p * 10)=10 * a * p by rw[Vx p 10,←Vp,Vx a 10]]
  omega
theorem q1B (c:UInt8) (s:List UInt8):q08 (c::s)=(c.toNat-48) * 10^s.length+q08 s:=by
 have:=qcu s (10 * 0+(c.toNat:Int)-48)
 unfold q08
 rw[VQ,this]
 simp [q08]

theorem qn4 : ∀ (a b:List UInt8),digits a=true→digits b=true→a.length=b.length→(Go.Op.bytesLess a b=true↔q08 a<q08 b)
 | [],[],_,_,_=>by simp [Go.Op.bytesLess,q08]
 | [],_::_,_,_,h=>by simp at h
 | _::_,[],_,_,h=>by simp at h
 | x::a,y::b,ha,hb,h=>by
  simp only[digits,Vc,Kf] at ha hb
  have ih:=qn4 a b ha.2 hb.2 (by simpa using h)
  have l1:=q0o a ha.2
  have l2:=q0o b hb.2
  have hl:a.length=b.length:=by simpa using h
  have hx:=ha.1
  have hy:=hb.1
  simp only[q5n,decide_eq_true_eq] at hx hy
  rw[q1B,q1B]
  rw[hl] at l1 ⊢
  generalize hp:(10:Int)^b.length=p at l1 l2 ⊢
  have step : ∀ u v:Int,u<v→(u-48) * p+p≤(v-48) * p:=fun u v huv=>by
   have h1:=Int.mul_le_mul_of_nonneg_right (show u-48+1≤v-48 by omega) (show 0≤p by omega)
   rw[Int.add_mul,Int.one_mul] at h1
   exact h1
  have e1:(Go.Op.bytesLess (x::a) (y::b)=true)↔(x.toNat<y.toNat∨(x.toNat=y.toNat∧Go.Op.bytesLess a b=true)):=by
   simp only[Go.Op.bytesLess,KS,decide_eq_true_eq,Kf,beq_iff_eq,UInt8.lt_iff_toNat_lt]
   rw[←UInt8.toNat_inj]
  rw[e1]
  rcases Nat.lt_trichotomy x.toNat y.toNat with hlt | heq | hgt
  ·have:=step x.toNat y.toNat (by omega)
   constructor
   ·intro _; omega
   ·intro _; exact .inl hlt
  ·rw[heq,ih]
   constructor
   ·rintro (h | ⟨_,h⟩)
    ·omega
    ·omega
   ·intro h; exact .inr ⟨rfl,by omega⟩
  ·have:=step y.toNat x.toNat (by omega)
   constructor
   ·rintro (h | ⟨h,_⟩)<;>omega
   ·intro h; omega

end Ago
set_option maxRecDepth 100000
namespace Ago
theorem q29 {a b:Nat} (h:a≤b):(10:Int)^a≤10^b:=by
 have:=Nat.pow_le_pow_right (n:=10) (by omega) h
 have e : ∀ k:Nat,(10:Int)^k=((10^k:Nat):Int):=fun k=>by simp
 rw[e,e]
 omega
theorem q0M {α:Type} {s:List α} {k:Nat} (h : ¬ k<s.length) (h2:k≤s.length):s.take k=s:=KG (by omega)

structure Dec where
 neg:Bool
 digits:List UInt8
 exp:Int
def q0b (d:Dec):AV:=.agg [.bool d.neg,.str d.digits,.int .i64 d.exp]

def q0c (d:Dec):Bool:=
 if d.digits=[] then !d.neg && d.exp == 0
 else decide (d.digits.length≤120) && q56 d.digits && decide (q0G d.digits=0) && decide (-400≤d.exp) && decide (d.exp≤400)

theorem qeX (d:Dec) (hs:d.digits.length<2^31):q0e C0 79 [q0b d] (.bool (q0c d)):=by
 refine q04 qrT rfl ?_
 obtain ⟨neg,ds,exp⟩:=d
 simp only[q0b] at *
 by_cases h0:ds=[]
 ·subst h0
  (repeat' first|simp (disch:=omega) only[go_sem,qrT,enter]|(apply spl<;>intro h<;>try simp (disch:=omega) only[go_sem,qrT,enter,h]))
  all_goals simp [q0c]
 ·have hb:(ds == ([]:List UInt8))=false:=by simp [h0]
  have hz:=qaH ds hs
  (repeat' first|simp (disch:=omega) only[go_sem,qrT,enter,hb]|refine q00 _ (qg6 _ hs) ?_|refine q00 _ (hz) ?_|(apply spl<;>intro h<;>try simp (disch:=omega) only[go_sem,qrT,enter,hb ,h]))
  all_goals simp [q0c,h0]
  all_goals first | omega | (intros; omega) | (simp_all; done) | skip
  all_goals (have:(q0G ds:Int)=0↔q0G ds=0:=by omega)
  all_goals simp_all
  all_goals omega

theorem q7V {a b:List UInt8} (h:digits a=true) (h':digits b=true):digits (a++b)=true:=by simp_all [digits]
theorem qaS (n:Nat):digits (List.replicate n 48)=true:=by
 refine Kk.2 fun x hx=>?_
 rw[(V4.1 hx).2]
 rfl

end Ago
set_option maxRecDepth 100000
namespace Ago
open Go (IntKind)

structure Tm where
 kind:Int
 day:Int
 nano:Int
 off:Int
structure VS where
 kind:Int
 bool:Bool
 num:Dec
 time:Tm
 text:List UInt8
 bytes:List UInt8
inductive V where
 | mk (s:VS) (l:List V) (f:List (List UInt8 × V))

def V.s:V→VS | .mk s _ _=>s
def V.l:V→List V | .mk _ l _=>l
def V.f:V→List (List UInt8 × V) | .mk _ _ f=>f

mutual
def q0u:V→AV
 | .mk s l f=>.agg [.int .i64 s.kind,.bool s.bool,.bool s.num.neg,.str s.num.digits,.int .i64 s.num.exp,.int .i64 s.time.kind,.int .i64 s.time.day,.int .i64 s.time.nano,.int .i64 s.time.off,.str s.text,.tsl 1 (q3f s.bytes),.tsl 13 (qwi l),.tsl 14 (qts f)]
def qwi:List V→List AV
 | []=>[]
 | v::l=>q0u v::qwi l
def qts:List (List UInt8 × V)→List AV
 | []=>[]
 | (k,v)::f=>.agg (.str k::(q0u v).cells)::qts f
end

theorem qhp : ∀ l,qwi l=l.map q0u
 | []=>by simp [qwi]
 | v::l=>by simp [qwi,qhp l]
def q0C (x:List UInt8 × V):AV:=.agg (.str x.1::(q0u x.2).cells)
theorem qh7 : ∀ l,qts l=l.map q0C
 | []=>by simp [qts]
 | (k,v)::l=>by simp [qts,qh7 l,q0C]
theorem q0a (v:V):q0u v = .agg [.int .i64 v.s.kind,.bool v.s.bool,.bool v.s.num.neg,.str v.s.num.digits,.int .i64 v.s.num.exp,.int .i64 v.s.time.kind,.int .i64 v.s.time.day,.int .i64 v.s.time.nano,.int .i64 v.s.time.off,.str v.s.text,.tsl 1 (q3f v.s.bytes),.tsl 13 (v.l.map q0u),.tsl 14 (v.f.map q0C)]:=by
 cases v with
 | mk s l f=>simp [q0u,V.s,V.l,V.f,qhp,qh7]
theorem q0S (x:List UInt8 × V):q0C x = .agg [.str x.1,.int .i64 x.2.s.kind,.bool x.2.s.bool,.bool x.2.s.num.neg,.str x.2.s.num.digits,.int .i64 x.2.s.num.exp,.int .i64 x.2.s.time.kind,.int .i64 x.2.s.time.day,.int .i64 x.2.s.time.nano,.int .i64 x.2.s.time.off,.str x.2.s.text,.tsl 1 (q3f x.2.s.bytes),.tsl 13 (x.2.l.map q0u),.tsl 14 (x.2.f.map q0C)]:=by
 unfold q0C
 rw[q0a]
 rfl

def V.bulk (v:V):Nat:=(q0u v).bulk
theorem q1U : ∀ {l:List AV} {x:AV},x∈l→x.bulk≤AV.bulks l
 | [],x,h=>by cases h
 | y::l,x,h=>by
  rcases KI.1 h with rfl | h
  ·simp [AV.bulks]
  ·have:=q1U h; simp [AV.bulks]; omega
theorem q1I : ∀ (l:List AV),l.length≤AV.bulks l
 | []=>by simp [AV.bulks]
 | x::l=>by have:=q1I l; have:=q1r x; simp [AV.bulks]; omega
theorem V.bulk_eq (v:V):v.bulk=v.s.num.digits.length+v.s.text.length+AV.bulks (q3f v.s.bytes)+AV.bulks (v.l.map q0u)+AV.bulks (v.f.map q0C)+14:=by
 unfold V.bulk
 rw[q0a]
 simp [AV.bulk,AV.bulks]
 omega
theorem q0q (l:List UInt8):(q3f l).length=l.length:=by simp [q3f]

structure V.Lens (v:V) (N:Nat):Prop where
 digits:v.s.num.digits.length<N
 text:v.s.text.length<N
 bytes:v.s.bytes.length<N
 list:v.l.length<N
 fields:v.f.length<N
 kids : ∀ x,x∈v.l→x.bulk<v.bulk
 fkids : ∀ x,x∈v.f→x.2.bulk<v.bulk∧x.1.length<N
theorem V.lens {v:V} {N:Nat} (h:v.bulk≤N):v.Lens N:=by
 have e:=v.bulk_eq
 have h1:=q1I (q3f v.s.bytes)
 have h2:=q1I (v.l.map q0u)
 have h3:=q1I (v.f.map q0C)
 rw[q0q] at h1
 rw[Ka] at h2 h3
 refine ⟨by omega,by omega,by omega,by omega,by omega,fun x hx=>?_,fun x hx=>?_⟩
 ·have:=q1U (Vf (f:=q0u) hx)
  show (q0u x).bulk<_
  omega
 ·have:=q1U (Vf (f:=q0C) hx)
  have e2:(q0C x).bulk=x.2.bulk+x.1.length+1:=by
   unfold V.bulk q0C
   rw[q0a]
   simp [AV.bulk,AV.bulks,AV.cells]
   omega
  omega
def q0K (n b:Nat):List AV→AV
 | []=>.snil n
 | x::l=>.sref n b 0 (l.length+1)
def q0J (n b:Nat):List AV→Heap
 | []=>[]
 | x::l=>[.row n (x::l) false true b]
theorem q09 {α β:Type} {g:α→β} {l:List α} {k:Nat} {x:α} (h:l[k]?=some x):(l.map g)[k]?=some (g x):=by rw[KE,h]; rfl
def q3v:AV:=.agg [.int .i64 0,.bool false,.bool false,.str [],.int .i64 0,.int .i64 0,.int .i64 0,.int .i64 0,.int .i64 0,.str [],.snil 1,.snil 13,.snil 14]
end Ago
set_option maxRecDepth 100000
set_option maxHeartbeats 4000000
namespace Ago
open Go (IntKind)

structure PS where
 op:Int
 lo:Int
 hi:Int
 min:Int
 max:Int
inductive Pat where
 | mk (s:PS) (a:List Pat)
def Pat.s:Pat→PS | .mk s _=>s
def Pat.a:Pat→List Pat | .mk _ a=>a
mutual
def q0B:Pat→AV
 | .mk s a=>.agg [.int .i64 s.op,.int .i64 s.lo,.int .i64 s.hi,.int .i64 s.min,.int .i64 s.max,.tsl 6 (q9J a)]
def q9J:List Pat→List AV
 | []=>[]
 | p::l=>q0B p::q9J l
end
theorem q9W : ∀ l,q9J l=l.map q0B
 | []=>by simp [q9J]
 | v::l=>by simp [q9J,q9W l]
theorem q0i (p:Pat):q0B p = .agg [.int .i64 p.s.op,.int .i64 p.s.lo,.int .i64 p.s.hi,.int .i64 p.s.min,.int .i64 p.s.max,.tsl 6 (p.a.map q0B)]:=by
 cases p with
 | mk s l=>simp [q0B,Pat.s,Pat.a,q9W]
def Pat.bulk (p:Pat):Nat:=(q0B p).bulk
theorem Pat.bulk_eq (p:Pat):p.bulk=AV.bulks (p.a.map q0B)+7:=by
 unfold Pat.bulk
 rw[q0i]
 simp [AV.bulk,AV.bulks]
 omega
structure Pat.Lens (p:Pat) (N:Nat):Prop where
 args:p.a.length<N
 kids : ∀ x,x∈p.a→x.bulk<p.bulk
theorem Pat.lens {p:Pat} {N:Nat} (h:p.bulk≤N):p.Lens N:=by
 have e:=p.bulk_eq
 have h2:=q1I (p.a.map q0B)
 rw[Ka] at h2
 refine ⟨by omega,fun x hx=>?_⟩
 have:=q1U (Vf (f:=q0B) hx)
 show (q0B x).bulk<_
 omega

structure Bnd where
 set:Bool
 num:Dec
 opn:Bool
structure Prt where
 lo:Bnd
 hi:Bnd
 sort:Int
def q0n (p:Prt):AV:=.agg [.bool p.lo.set,.bool p.lo.num.neg,.str p.lo.num.digits,.int .i64 p.lo.num.exp,.bool p.lo.opn,.bool p.hi.set,.bool p.hi.num.neg,.str p.hi.num.digits,.int .i64 p.hi.num.exp,.bool p.hi.opn,.int .i64 p.sort]
def q4z (b:Bnd):AV:=.agg [.bool b.set,.bool b.num.neg,.str b.num.digits,.int .i64 b.num.exp,.bool b.opn]
def q3I (l:List Prt):AV:=.agg [.tsl 11 (l.map q0n)]
theorem q9V (p:Prt):(q0n p).bulk=p.lo.num.digits.length+p.hi.num.digits.length+12:=by
 simp [q0n,AV.bulk,AV.bulks]
 omega

structure SS where
 op:Int
 mask:Int
 min:Int
 max:Int
 name:List UInt8
 parts:List Prt
 pat:Pat
 vals:List V
structure PK where
 key:List UInt8
 req:Bool
inductive Sch where
 | mk (s:SS) (p:List (PK × Sch)) (a:List Sch)
def Sch.s:Sch→SS | .mk s _ _=>s
def Sch.p:Sch→List (PK × Sch) | .mk _ p _=>p
def Sch.a:Sch→List Sch | .mk _ _ a=>a
def SS.cells (s:SS):List AV:=[.int .i64 s.op,.int .i64 s.mask,.int .i64 s.min,.int .i64 s.max,.str s.name,.tsl 11 (s.parts.map q0n),.int .i64 s.pat.s.op,.int .i64 s.pat.s.lo,.int .i64 s.pat.s.hi,.int .i64 s.pat.s.min,.int .i64 s.pat.s.max,.tsl 6 (s.pat.a.map q0B),.tsl 13 (s.vals.map q0u)]
mutual
def q03:Sch→AV
 | .mk s p a=>.agg (s.cells++[.tsl 17 (qa6 p),.tsl 15 (qaE a)])
def qaE:List Sch→List AV
 | []=>[]
 | v::l=>q03 v::qaE l
def qa6:List (PK × Sch)→List AV
 | []=>[]
 | (k,v)::f=>.agg (.str k.key :: .bool k.req::(q03 v).cells)::qa6 f
end
theorem qaq : ∀ l,qaE l=l.map q03
 | []=>by simp [qaE]
 | v::l=>by simp [qaE,qaq l]
def q0g (x:PK × Sch):AV:=.agg (.str x.1.key :: .bool x.1.req::(q03 x.2).cells)
theorem qa0 : ∀ l,qa6 l=l.map q0g
 | []=>by simp [qa6]
 | (k,v)::l=>by simp [qa6,qa0 l,q0g]
theorem q01 (v:Sch):q03 v = .agg [.int .i64 v.s.op,.int .i64 v.s.mask,.int .i64 v.s.min,.int .i64 v.s.max,.str v.s.name,.tsl 11 (v.s.parts.map q0n),.int .i64 v.s.pat.s.op,.int .i64 v.s.pat.s.lo,.int .i64 v.s.pat.s.hi,.int .i64 v.s.pat.s.min,.int .i64 v.s.pat.s.max,.tsl 6 (v.s.pat.a.map q0B),.tsl 13 (v.s.vals.map q0u),.tsl 17 (v.p.map q0g),.tsl 15 (v.a.map q03)]:=by
 cases v with
 | mk s p a=>simp [q03,Sch.s,Sch.p,Sch.a,qaq,qa0,SS.cells]
theorem q0f (x:PK × Sch):q0g x = .agg [.str x.1.key,.bool x.1.req,.int .i64 x.2.s.op,.int .i64 x.2.s.mask,.int .i64 x.2.s.min,.int .i64 x.2.s.max,.str x.2.s.name,.tsl 11 (x.2.s.parts.map q0n),.int .i64 x.2.s.pat.s.op,.int .i64 x.2.s.pat.s.lo,.int .i64 x.2.s.pat.s.hi,.int .i64 x.2.s.pat.s.min,.int .i64 x.2.s.pat.s.max,.tsl 6 (x.2.s.pat.a.map q0B),.tsl 13 (x.2.s.vals.map q0u),.tsl 17 (x.2.p.map q0g),.tsl 15 (x.2.a.map q03)]:=by
 show AV.agg (.str x.1.key :: .bool x.1.req::(q03 x.2).cells)=_
 rw[q01]
 simp only[AV.cells]
def Sch.bulk (v:Sch):Nat:=(q03 v).bulk
theorem Sch.bulk_eq (v:Sch):v.bulk=v.s.name.length+AV.bulks (v.s.parts.map q0n)+AV.bulks (v.s.pat.a.map q0B)+AV.bulks (v.s.vals.map q0u)+AV.bulks (v.p.map q0g)+AV.bulks (v.a.map q03)+16:=by
 unfold Sch.bulk
 rw[q01]
 simp [AV.bulk,AV.bulks]
 omega
structure Sch.Lens (v:Sch) (N:Nat):Prop where
 name:v.s.name.length<N
 parts:v.s.parts.length<N
 part : ∀ x,x∈v.s.parts→x.lo.num.digits.length<N∧x.hi.num.digits.length<N
 pat:v.s.pat.bulk<v.bulk
 vals:v.s.vals.length<N
 val : ∀ x,x∈v.s.vals→x.bulk<v.bulk
 props:v.p.length<N
 args:v.a.length<N
 kids : ∀ x,x∈v.a→x.bulk<v.bulk
 pkids : ∀ x,x∈v.p→x.2.bulk<v.bulk∧x.1.key.length<N
theorem Sch.lens {v:Sch} {N:Nat} (h:v.bulk≤N):v.Lens N:=by
 have e:=v.bulk_eq
 have h1:=q1I (v.s.parts.map q0n)
 have h2:=q1I (v.s.vals.map q0u)
 have h3:=q1I (v.p.map q0g)
 have h4:=q1I (v.a.map q03)
 have h5:=v.s.pat.bulk_eq
 rw[Ka] at h1 h2 h3 h4
 refine ⟨by omega,by omega,fun x hx=>?_,by omega,by omega,fun x hx=>?_,by omega,by omega,fun x hx=>?_,fun x hx=>?_⟩
 ·have:=q1U (Vf (f:=q0n) hx)
  rw[q9V] at this
  omega
 ·have:=q1U (Vf (f:=q0u) hx)
  show (q0u x).bulk<_
  omega
 ·have:=q1U (Vf (f:=q03) hx)
  show (q03 x).bulk<_
  omega
 ·have:=q1U (Vf (f:=q0g) hx)
  have e2:(q0g x).bulk=x.2.bulk+x.1.key.length+2:=by
   unfold Sch.bulk q0g
   rw[q01]
   simp [AV.bulk,AV.bulks,AV.cells]
   omega
  omega
def q1V (x:List UInt8 × Sch):AV:=.agg (.str x.1::(q03 x.2).cells)
theorem q2c (x:List UInt8 × Sch):q1V x = .agg [.str x.1,.int .i64 x.2.s.op,.int .i64 x.2.s.mask,.int .i64 x.2.s.min,.int .i64 x.2.s.max,.str x.2.s.name,.tsl 11 (x.2.s.parts.map q0n),.int .i64 x.2.s.pat.s.op,.int .i64 x.2.s.pat.s.lo,.int .i64 x.2.s.pat.s.hi,.int .i64 x.2.s.pat.s.min,.int .i64 x.2.s.pat.s.max,.tsl 6 (x.2.s.pat.a.map q0B),.tsl 13 (x.2.s.vals.map q0u),.tsl 17 (x.2.p.map q0g),.tsl 15 (x.2.a.map q03)]:=by
 show AV.agg (.str x.1::(q03 x.2).cells)=_
 rw[q01]
 simp only[AV.cells]
theorem q9H (x:List UInt8 × Sch):(q1V x).bulk=x.1.length+x.2.bulk+1:=by
 unfold Sch.bulk q1V
 rw[q01]
 simp [AV.bulk,AV.bulks,AV.cells]
 omega
structure Schs where
 defs:List (List UInt8 × Sch)
 root:Sch
def q1f (s:Schs):AV:=.agg (.tsl 16 (s.defs.map q1V)::(q03 s.root).cells)
theorem q0s (s:Schs):q1f s = .agg [.tsl 16 (s.defs.map q1V),.int .i64 s.root.s.op,.int .i64 s.root.s.mask,.int .i64 s.root.s.min,.int .i64 s.root.s.max,.str s.root.s.name,.tsl 11 (s.root.s.parts.map q0n),.int .i64 s.root.s.pat.s.op,.int .i64 s.root.s.pat.s.lo,.int .i64 s.root.s.pat.s.hi,.int .i64 s.root.s.pat.s.min,.int .i64 s.root.s.pat.s.max,.tsl 6 (s.root.s.pat.a.map q0B),.tsl 13 (s.root.s.vals.map q0u),.tsl 17 (s.root.p.map q0g),.tsl 15 (s.root.a.map q03)]:=by
 unfold q1f
 rw[q01]
 simp only[AV.cells]
def Schs.bulk (s:Schs):Nat:=(q1f s).bulk
theorem Schs.bulk_eq (s:Schs):s.bulk=AV.bulks (s.defs.map q1V)+s.root.bulk+1:=by
 unfold Schs.bulk Sch.bulk q1f
 rw[q01]
 simp [AV.bulk,AV.bulks,AV.cells]
 omega
def Sch.kids (v:Sch):List Sch:=v.p.map (·.2)++v.a
theorem Sch.kids_bulk {v:Sch} {x:Sch} (h:x∈v.kids):x.bulk<v.bulk:=by
 have L:=Sch.lens (Kr v.bulk)
 unfold Sch.kids at h
 rcases K7.1 h with h | h
 ·obtain ⟨y,hy,rfl⟩:=K0.1 h
  exact (L.pkids y hy).1
 ·exact L.kids x h
theorem Sch.kids_sum (v:Sch):AV.bulks (v.kids.map q03)+v.p.length+v.p.length≤AV.bulks (v.p.map q0g)+AV.bulks (v.a.map q03):=by
 unfold Sch.kids
 rw[V8,q3H]
 have : ∀ l:List (PK × Sch),AV.bulks ((l.map (·.2)).map q03)+l.length+l.length≤AV.bulks (l.map q0g):=by
  intro l
  induction l with
  | nil=>simp [AV.bulks]
  | cons x l ih=>
   have e2:(q0g x).bulk=x.2.bulk+x.1.key.length+2:=by
    unfold Sch.bulk q0g
    rw[q01]
    simp [AV.bulk,AV.bulks,AV.cells]
    omega
   simp only[Kj,AV.bulks,Kb]
   have:(q03 x.2).bulk=x.2.bulk:=rfl
   omega
 have:=this v.p
 omega
theorem q6n {α:Type} {l:List α} {k:Nat} {x:α} (hx:l[k]?=some x):l.drop k=x::l.drop (k+1):=by
 obtain ⟨h3,h4⟩:=KA.1 hx
 rw[Vw h3,h4]
end Ago
set_option maxRecDepth 100000
set_option maxHeartbeats 4000000
namespace Ago
open Go (IntKind)
theorem qhf : ∀ a:List UInt8,Go.Op.bytesLess a a=false
 | []=>by simp [Go.Op.bytesLess]
 | x::a=>by simp [Go.Op.bytesLess,qhf a]
theorem qf5 : ∀ a b:List UInt8,Go.Op.bytesLess a b=false→Go.Op.bytesLess b a=false→a=b
 | [],[],_,_=>rfl
 | [],_::_,h,_=>by simp [Go.Op.bytesLess] at h
 | _::_,[],_,h=>by simp [Go.Op.bytesLess] at h
 | x::a,y::b,h1,h2=>by
  simp only[Go.Op.bytesLess,Bool.or_eq_false_iff,Bool.and_eq_false_iff,decide_eq_false_iff_not,beq_eq_false_iff_ne,ne_eq] at h1 h2
  have e:x=y:=by
   have k1:=h1.1
   have k2:=h2.1
   have k3 : ¬ x.toNat<y.toNat:=k1
   have k4 : ¬ y.toNat<x.toNat:=k2
   exact UInt8.toNat_inj.1 (by omega)
  subst e
  have h3:Go.Op.bytesLess a b=false:=by
   rcases h1.2 with h | h
   ·exact absurd rfl h
   ·exact h
  have h4:Go.Op.bytesLess b a=false:=by
   rcases h2.2 with h | h
   ·exact absurd rfl h
   ·exact h
  rw[qf5 a b h3 h4]
theorem qdn : ∀ a b:List UInt8,Go.Op.bytesLess a b=true→Go.Op.bytesLess b a=false
 | [],[],h=>by simp [Go.Op.bytesLess] at h
 | [],_::_,_=>by simp [Go.Op.bytesLess]
 | _::_,[],h=>by simp [Go.Op.bytesLess] at h
 | x::a,y::b,h=>by
  simp only[Go.Op.bytesLess,KS,Kf,decide_eq_true_eq,beq_iff_eq] at h
  simp only[Go.Op.bytesLess,Bool.or_eq_false_iff,Bool.and_eq_false_iff,decide_eq_false_iff_not,beq_eq_false_iff_ne,ne_eq]
  rcases h with h | ⟨rfl,h⟩
  ·have k:x.toNat<y.toNat:=h
   refine ⟨fun h2=>?_,.inl fun h2=>?_⟩
   ·have k2:y.toNat<x.toNat:=h2
    omega
   ·rw[h2] at k
    omega
  ·refine ⟨fun h2=>?_,.inr (qdn a b h)⟩
   have k2:x.toNat<x.toNat:=h2
   omega
theorem qcb : ∀ a b c:List UInt8,Go.Op.bytesLess a b=true→Go.Op.bytesLess b c=true→Go.Op.bytesLess a c=true
 | _,[],_,h,_=>by
  rename_i x _
  cases x<;>simp [Go.Op.bytesLess] at h
 | _,_::_,[],_,h=>by simp [Go.Op.bytesLess] at h
 | [],_::_,_::_,_,_=>by simp [Go.Op.bytesLess]
 | x::a,y::b,z::c,h1,h2=>by
  simp only[Go.Op.bytesLess,KS,Kf,decide_eq_true_eq,beq_iff_eq] at h1 h2 ⊢
  rcases h1 with h1 | ⟨rfl,h1⟩
  ·rcases h2 with h2 | ⟨rfl,h2⟩
   ·have k1:x.toNat<y.toNat:=h1
    have k2:y.toNat<z.toNat:=h2
    exact .inl (show x.toNat<z.toNat by omega)
   ·exact .inl h1
  ·rcases h2 with h2 | ⟨rfl,h2⟩
   ·exact .inl h2
   ·exact .inr ⟨rfl,qcb a b c h1 h2⟩
def leB (a b:List UInt8):Bool:=!Go.Op.bytesLess b a
theorem qky {a b c:List UInt8} (h1:leB a b=true) (h2:leB b c=true):leB a c=true:=by
 unfold leB at *
 simp only[Wb] at *
 cases h:Go.Op.bytesLess c a with
 | false=>rfl
 | true=>
  cases h3:Go.Op.bytesLess b a with
  | true=>rw[h3] at h1; cases h1
  | false=>
   cases h4:Go.Op.bytesLess a b with
   | true=>
    have:=qcb _ _ _ h h4
    rw[this] at h2
    cases h2
   | false=>
    have:=qf5 _ _ h3 h4
    subst this
    rw[h] at h2
    cases h2
theorem qsq {a b:List UInt8} (h:leB a b=false):leB b a=true:=by
 unfold leB at *
 simp only[Bool.not_eq_false'] at h
 rw[qdn _ _ h]
 rfl
section
variable {α:Type}
def qbt (x:List UInt8 × α) (l:List (List UInt8 × α)):List (List UInt8 × α):=l.takeWhile (fun y=>leB y.1 x.1)++x::l.dropWhile fun y=>leB y.1 x.1
def q3Y (l:List (List UInt8 × α)):List (List UInt8 × α):=l.foldl (fun out x=>qbt x out) []
theorem qfs (x:List UInt8 × α) (l:List (List UInt8 × α)):(qbt x l).Perm (x::l):=by
 unfold qbt
 refine (List.perm_middle).trans ?_
 rw[List.takeWhile_append_dropWhile]
theorem q34 (l:List (List UInt8 × α)):(q3Y l).Perm l:=by
 have : ∀ (l out:List (List UInt8 × α)),(l.foldl (fun out x=>qbt x out) out).Perm (out++l):=by
  intro l
  induction l with
  | nil=>intro out; simp
  | cons x l ih=>
   intro out
   rw[VQ]
   refine (ih _).trans ?_
   refine ((qfs x out).append_right l).trans ?_
   rw[Ko]
   exact List.perm_middle.symm
 exact this l []
def qli (l:List (List UInt8 × α)):Prop:=l.Pairwise fun a b=>leB a.1 b.1=true
theorem qhi (x:List UInt8 × α) : ∀ {l:List (List UInt8 × α)},qli l→qli (qbt x l)
 | [],_=>by simp [qbt,qli]
 | y::l,h=>by
  unfold qli at h
  rw[List.pairwise_cons] at h
  have ih:=qhi x h.2
  unfold qbt at *
  rw[List.takeWhile_cons,List.dropWhile_cons]
  cases hy:leB y.1 x.1 with
  | true=>
   rw[if_pos rfl,if_pos rfl,Ko]
   unfold qli at *
   rw[List.pairwise_cons]
   refine ⟨fun z hz=>?_,ih⟩
   have hz2:=(qfs x l).mem_iff.1 (show z∈qbt x l from hz)
   rcases KI.1 hz2 with rfl | hz2
   ·exact hy
   ·exact h.1 z hz2
  | false=>
   rw[if_neg (by simp),if_neg (by simp),Ks]
   unfold qli
   have hx:=qsq hy
   rw[List.pairwise_cons,List.pairwise_cons]
   refine ⟨fun z hz=>?_,h.1,h.2⟩
   rcases KI.1 hz with rfl | hz
   ·exact hx
   ·exact qky hx (h.1 z hz)
theorem qhg (l:List (List UInt8 × α)):qli (q3Y l):=by
 have : ∀ (l out:List (List UInt8 × α)),qli out→qli (l.foldl (fun out x=>qbt x out) out):=by
  intro l
  induction l with
  | nil=>intro out h; exact h
  | cons x l ih=>intro out h; exact ih _ (qhi x h)
 exact this l [] List.Pairwise.nil
end
def q1h:Nat→V→V
 | 0,v=>v
 | n+1,v=>.mk v.s (v.l.map (q1h n)) ((q3Y v.f).map fun y=>(y.1,q1h n y.2))
theorem qbi {l m:List AV} (h:l.Perm m):AV.bulks l=AV.bulks m:=by
 induction h with
 | nil=>rfl
 | cons x _ ih=>simp [AV.bulks,ih]
 | swap x y l=>simp [AV.bulks]; omega
 | trans _ _ ih1 ih2=>exact ih1.trans ih2
theorem qc7 (x:List UInt8 × V):(q0C x).bulk=x.2.bulk+x.1.length+1:=by
 unfold V.bulk q0C
 rw[q0a]
 simp [AV.bulk,AV.bulks,AV.cells]
 omega
def q31 (n r:Nat) (E:List AV):AV:=if E.isEmpty then .snil n else .sref n r 0 E.length
def q32 (n r:Nat) (E:List AV):Heap:=if E.isEmpty then [] else [.row n E false true r]
theorem q1v {α β:Type} (g:α→β) (l:List α):(l.map g).take l.length=l.map g:=KG (by rw[Ka]; exact Kr _)
end Ago
set_option maxRecDepth 100000
set_option maxHeartbeats 4000000
namespace Ago
open Go (IntKind)
def qhw (a b:List UInt8):Int:=if Go.Op.bytesLess a b then -1 else if a == b then 0 else 1
theorem qhl (x:List UInt8):q0e C0 75 [.str x] (.bool false):=by
 refine q04 qxk rfl ?_
 (repeat' first|simp (disch:=omega) only[go_sem,qxk,enter])
theorem qhM (x y:List UInt8):q0e C0 51 [.str x,.str y] (.int .i64 (qhw x y)):=by
 have h1:=qhl x
 have h2:=qhl y
 refine q04 qsV rfl ?_
 unfold qhw
 cases h:Go.Op.bytesLess x y with
 | true=>
  rw[if_pos rfl]
  (repeat' first|simp (disch:=omega) only[go_sem,qsV,enter,h]|refine q00 _ (h1) ?_|refine q00 _ (h2) ?_)
 | false=>
  rw[if_neg (by simp)]
  cases h':(x == y) with
  | true=>
   rw[if_pos rfl]
   (repeat' first|simp (disch:=omega) only[go_sem,qsV,enter,h,h',Bool.or_true,V3]|refine q00 _ (h1) ?_|refine q00 _ (h2) ?_)
  | false=>
   rw[if_neg (by simp)]
   (repeat' first|simp (disch:=omega) only[go_sem,qsV,enter,h,h',Bool.or_false,Vq]|refine q00 _ (h1) ?_|refine q00 _ (h2) ?_)
theorem qrW {a b:List UInt8} (h:Go.Op.bytesLess a b=true):qhw a b = -1:=by
 unfold qhw
 rw[if_pos h]
theorem qrV {a b:List UInt8} (h:Go.Op.bytesLess b a=true):qhw a b=1:=by
 unfold qhw
 rw[qdn _ _ h,if_neg (by simp)]
 have:(a == b)=false:=by
  by_cases e:a=b
  ·subst e
   rw[qhf] at h
   cases h
  ·simpa using e
 rw[this]
 rfl
theorem qsz {a b:List UInt8} (h1:Go.Op.bytesLess a b=false) (h2:Go.Op.bytesLess b a=false):qhw a b=0:=by
 unfold qhw
 rw[h1,if_neg (by simp),qf5 a b h1 h2]
 simp
end Ago
set_option maxRecDepth 100000
set_option maxHeartbeats 4000000
namespace Ago
open Go (IntKind)
structure Stp where
 byIndex:Bool
 key:List UInt8
 index:Int
 deriving DecidableEq
end Ago
set_option maxRecDepth 100000
set_option maxHeartbeats 4000000
namespace Ago
open Go (IntKind)

def qrM (base:Nat) (res:List ResV) (v:AV) (H':Heap) (e:Ex) (s:St):Prop:=(e = .normal∨e = .ret)∧∃ u,results res s=some u∧(qaK base u s.heap).tmps.getD 0 .dead=v∧(qaK base u s.heap).heap=H'
theorem q2l {base:Nat} {res:List ResV} {v:AV} {H':Heap} {e:Ex} {s:St} (he:e = .normal∨e = .ret) (u:AV) (h1:results res s=some u) (h2:(qaK base u s.heap).tmps.getD 0 .dead=v) (h3:(qaK base u s.heap).heap=H'):qrM base res v H' e s:=⟨he,u,h1,h2,h3⟩
theorem q1A {C:Ctx} {f:Nat} (fn:AFn) {args:List AV} {H:Heap} {v:AV} {H':Heap} (hf:C.code f=some fn) (h : @q0V (enter fn args H) ⟨aw (q1K C) (q0e C) fn.body (qrM H.length fn.res v H')⟩):q1K C f args H v H':=by
 unfold q0V at h
 exact ql5 hf h


theorem qnJ {l:List UInt8} {i:Nat} {c:UInt8} (h:l[i]?=some c):(q3f l)[i]?=some (.int .u8 c.toNat):=by simp [q3f,h]
theorem qpp (l:List UInt8) (i:Nat) (c:UInt8):(q3f l).set i (.int .u8 c.toNat)=q3f (l.set i c):=by simp [q3f,List.map_set]
theorem q3n (l:List UInt8):(q3f l).length=l.length:=by simp [q3f]


def qaZ:Nat→Nat→List UInt8
 | 0,_=>[]
 | k+1,n=>if n=0 then [] else UInt8.ofNat (48+n % 10)::qaZ k (n / 10)
def qnz (n:Nat):List UInt8:=(qaZ n n).reverse
theorem q5Z : ∀ k,qaZ k 0=[]
 | 0=>rfl
 | _+1=>rfl
theorem qbA : ∀ (k j n:Nat),n≤k→n≤j→qaZ k n=qaZ j n
 | 0,j,n,h,_=>by
  have:n=0:=by omega
  subst this
  rw[q5Z,q5Z]
 | k+1,0,n,_,h=>by
  have:n=0:=by omega
  subst this
  rw[q5Z,q5Z]
 | k+1,j+1,n,h,h2=>by
  simp only[qaZ]
  split
  ·rfl
  ·rw[qbA k j (n / 10) (by omega) (by omega)]
theorem qiF {n:Nat} (h:n≠0):qaZ n n=UInt8.ofNat (48+n % 10)::qaZ (n / 10) (n / 10):=by
 obtain ⟨m,rfl⟩ : ∃ m,n=m+1:=⟨n-1,by omega⟩
 rw[show qaZ (m+1) (m+1)=if m+1=0 then [] else UInt8.ofNat (48+(m+1) % 10)::qaZ m ((m+1) / 10) from rfl,if_neg h,qbA m ((m+1) / 10) ((m+1) / 10) (by omega) (Kr _)]


theorem qhq {s:List UInt8} {k:Nat} (hk:k≤s.length) (hd:(s.reverse.take k).all (· == 48)=true) (h:k<s.length→∃ c,s.reverse[k]?=some c∧c≠48):q0G s=k:=by
 unfold q0G
 have key : ∀ (l:List UInt8) (k:Nat),(l.take k).all (· == 48)=true→(k<l.length→∃ c,l[k]?=some c∧c≠48)→k≤l.length→(l.takeWhile (· == 48)).length=k:=by
  intro l
  induction l with
  | nil=>intro k _ _ hk; simp at hk; simp [hk]
  | cons x l ih=>
   intro k h1 h2 h3
   cases k with
   | zero=>
    obtain ⟨c,h4,h5⟩:=h2 (by simp)
    simp at h4
    subst h4
    rw[List.takeWhile_cons_of_neg (by simpa using h5)]
    rfl
   | succ k=>
    simp only[List.take_succ_cons,Vc,Kf] at h1
    rw[List.takeWhile_cons_of_pos (by simpa using h1.1)]
    simp only[Kb,Nat.add_right_cancel_iff]
    exact ih k h1.2 (fun h=>by simpa using h2 (by simpa using h)) (by simpa using h3)
 exact key s.reverse k hd (fun h2=>h (by simpa using h2)) (by simpa using hk)
theorem q9n (s:List UInt8):q0G s≤s.length:=by
 unfold q0G
 have:=(List.takeWhile_sublist (fun x=>x == (48:UInt8)) (l:=s.reverse)).length_le
 simpa using this

theorem qeT (s:List UInt8) (hs:s.length<2^31):q0e C0 155 [.str s,.int .u8 48] (.str (s.take (s.length-q0G s))):=by
 refine q04 qp0 rfl ?_
 simp (disch:=omega) only[go_sem,qp0,enter]
 refine q06 (α:=Nat) (fun k=>{ tmps:=q0h 23 [(0,.str (s.take (s.length-k))),(1,.int .u8 48)],heap:=[],base:=0 }) (fun k=>k≤s.length∧(s.reverse.take k).all (· == 48)=true) (fun k=>s.length-k) 0 (by rw[Wd,Kx]; rfl) ⟨Km _,rfl⟩ ?_
 rintro k ⟨hk,hd⟩
 have hlen:(s.take (s.length-k)).length=s.length-k:=by simp
 by_cases hlt:k<s.length
 ·obtain ⟨c,hc⟩:=q05 (s:=s) (k:=s.length-1-k) (by omega)
  have e:(((s.length-k:Nat):Int)-1).toNat=s.length-1-k:=by omega
  have hc2:(s.take (s.length-k))[s.length-1-k]?=some c:=by rw[Vb (by omega)]; exact hc
  have hr:s.reverse[k]?=some c:=by rw[List.getElem?_reverse hlt,←hc]
  have htt:List.take (s.length-1-k) (s.take (s.length-k))=s.take (s.length-(k+1)):=by rw[List.take_take]; congr 1; omega
  by_cases h48:c=48
  ·have h48i:(c.toNat:Int)=48:=(q6r c).2 h48
   (repeat' first|simp (disch:=omega) only[go_sem,hlen,e,hc2,h48i,htt]|(apply spl<;>intro h<;>try simp (disch:=omega) only[go_sem,hlen,e,hc2,h48i,htt,h]))
   refine ⟨k+1,rfl,⟨hlt,q0v hr hd (by simpa using h48)⟩,by omega⟩
  ·have h48i : ¬ (c.toNat:Int)=48:=fun e=>h48 ((q6r c).1 e)
   rw[qhq hk hd (fun _=>⟨c,hr,h48⟩)]
   (repeat' first|simp (disch:=omega) only[go_sem,hlen,e,hc2,h48i,htt])
 ·rw[qhq hk hd (fun h=>absurd h hlt)]
  (repeat' first|simp (disch:=omega) only[go_sem,hlen])

theorem q76 (s:List UInt8) (hs:s.length<2^31):q0e C0 148 [.str s,.str [48]] (.str (s.take (s.length-q0G s))):=by
 refine q04 qlW rfl ?_
 by_cases h0:s=[]
 ·subst h0
  (repeat' first|simp (disch:=omega) only[go_sem,qlW,enter])
  all_goals rfl
 ·have hb:(s == ([]:List UInt8))=false:=by simp [h0]
  have hr:=qeT s hs
  have e48:((UInt8.toNat 48:Nat):Int)=48:=rfl
  have en:(([48]:List UInt8) == [])=false:=rfl
  (repeat' first|simp (disch:=omega) only[go_sem,qlW,enter,hb,e48,en]|refine q00 _ (hr) ?_)
end Ago
namespace Ago
def Blk.refam (g:Nat→Nat):Blk→Blk
 | .row n els ro fl fam=>.row n els ro fl (g fam)
 | b=>b
def Blk.isRo:Blk→Bool
 | .row _ _ ro _ _=>ro
 | _=>false
def qsy (b:Blk):Prop:=b.refs=[]∧(∀ f g,Blk.ren f g b=Blk.refam g b)∧b.isRo=false
def Calms (H:Heap):Prop:=∀ b,b∈H→qsy b
theorem q9i (n:Nat) (els:List AV) (fam:Nat):qsy (.row n els false true fam):=⟨rfl,fun _ _=>rfl,rfl⟩
theorem qlJ:qsy .gone:=⟨rfl,fun _ _=>rfl,rfl⟩
def qdh (x:AV):Prop:=AV.refsN 6 x=[]∧∀ f,AV.renN f 6 x=x
theorem qhk {es:List (AV × AV)} (h : ∀ x,x∈es→qdh x.1∧qdh x.2):qsy (.map es):=by
 refine ⟨?_,fun f g=>?_,rfl⟩
 ·show es.flatMap (fun x=>AV.refsN 6 x.1++AV.refsN 6 x.2)=[]
  rw[List.flatMap_eq_nil_iff]
  intro x hx
  obtain ⟨h1,h2⟩:=h x hx
  rw[h1.1,h2.1]
  rfl
 ·show Blk.map (es.map fun x=>(AV.renN f 6 x.1,AV.renN f 6 x.2)) = .map es
  congr 1
  rw[List.map_congr_left (g:=id) (fun x hx=>by rw[(h x hx).1.2,(h x hx).2.2]; rfl),List.map_id]
theorem Calms.nil:Calms []:=fun b h=>by cases h
theorem Calms.cons {b:Blk} {H:Heap} (h1:qsy b) (h2:Calms H):Calms (b::H):=fun x h=>by
 rcases KI.1 h with rfl | h
 ·exact h1
 ·exact h2 x h
theorem qek (s:List UInt8):qdh (.str s):=⟨rfl,fun _=>rfl⟩
theorem qjx (b:Bool):qdh (.bool b):=⟨rfl,fun _=>rfl⟩
theorem q0E (k:Go.IntKind) (n:Int):qdh (.int k n):=⟨rfl,fun _=>rfl⟩
def q8A (n base:Nat):Nat→List Nat→List Nat→List Nat
 | 0,_,seen=>seen
 | _+1,[],seen=>seen
 | k+1,r::todo,seen=>
  if r<base then q8A n base k todo seen
  else if seen.contains r then q8A n base k todo seen
  else if r<n then q8A n base k todo (seen++[r])
  else q8A n base k todo seen
theorem q4N {H:Heap} (hH:Calms H) (base:Nat) : ∀ (k:Nat) (todo seen:List Nat),q5v H base k todo seen=q8A H.length base k todo seen
 | 0,_,_=>rfl
 | _+1,[],_=>rfl
 | k+1,r::todo,seen=>by
  unfold q5v q8A
  split
  ·exact q4N hH base k todo seen
  ·split
   ·exact q4N hH base k todo seen
   ·by_cases hlt:r<H.length
    ·rw[if_pos hlt,Ki hlt]
     simp only
     rw[(hH _ (Wc hlt)).1,Ks]
     exact q4N hH base k todo (seen++[r])
    ·rw[if_neg hlt,Vd (by omega)]
     exact q4N hH base k todo seen
theorem q8C (ks:List Nat) : ∀ (E:Heap) (j:Nat),Calms E→q2f ks E j=[]
 | [],_,_=>rfl
 | b::E,j,h=>by
  have ih:=q8C ks E (j+1) fun x hx=>h x (by simp [hx])
  have hb:=(h b (by simp)).2.2
  cases b with
  | row n els ro fl fam=>
   simp only[Blk.isRo] at hb
   subst hb
   exact ih
  | _=>exact ih
def qvh (live:List Nat) (tm:List AV) (H:Heap) (m:Nat):St:=
 let L:=q3V live 0 tm
 let ks:=q8A H.length m 4000 (L.flatMap (AV.refsN 6)) []
 { tmps:=L.map (AV.renN (q4E m ks) 6),heap:=(H.take m++ks.map fun r=>H.getD r .gone).map (Blk.refam (q9I H m ks)),base:=m,rb:=0 }
theorem q72 {live:List Nat} {tm:List AV} {H:Heap} {m rb:Nat} (hH:Calms H):St.norm live ⟨tm,H,m,rb⟩=qvh live tm H m:=by
 unfold St.norm St.normTm qvh
 have hT:Calms (H.take m):=fun b hb=>hH b (Ky hb)
 have hr:(H.take m).flatMap Blk.refs=[]:=by
  rw[List.flatMap_eq_nil_iff]
  exact fun b hb=>(hT b hb).1
 simp only[hr,KW]
 rw[q4N hH]
 generalize q8A H.length m 4000 ((q3V live 0 tm).flatMap (AV.refsN 6)) []=ks
 unfold St.normBy
 simp only
 rw[q8C ks (H.drop m) m fun b hb=>hH b (KV hb)]
 have hK:Calms (H.take m++ks.map fun r=>H.getD r .gone):=fun b hb=>by
  rcases K7.1 hb with hb | hb
  ·exact hT b hb
  ·obtain ⟨r,_,rfl⟩:=K0.1 hb
   rw[KH]
   cases hx:H[r]? with
   | none=>exact qlJ
   | some x=>exact hH x (Kc hx)
 have hc:q3Z (q4E m ks) (H.take m++ks.map fun r=>H.getD r .gone)=true:=by
  unfold q3Z
  rw[Kk]
  intro b hb
  rw[(hK b hb).1]
  rfl
 simp only[hc,qf3,qag,Bool.and_self,q9K]
 congr 1
 exact List.map_congr_left fun b hb=>(hK b hb).2.1 _ _
end Ago
set_option maxRecDepth 100000
set_option maxHeartbeats 4000000
namespace Ago
open Go (IntKind)

theorem qdk {a:Int} (h0:0≤a) (h:a<9223372036854775808):(BitVec.ofInt (IntKind.bits .i64) a).toNat=a.toNat:=by
 obtain ⟨n,rfl⟩ : ∃ n:Nat,a=n:=⟨a.toNat,by omega⟩
 have e:IntKind.bits .i64=64:=rfl
 rw[e,BitVec.toNat_ofInt]
 simp only[VM]
 omega
theorem qd1 {a m:Int} {k:Nat} (h0:0≤a) (h:a<9223372036854775808) (hm:m=2^k-1) (hk:k<60):IntKind.wrap .i64 ((BitVec.ofInt (IntKind.bits .i64) a &&& BitVec.ofInt (IntKind.bits .i64) m).toNat:Int)=a % 2^k:=by
 have hp:(2:Nat)^k<2^60:=Nat.pow_lt_pow_right (by omega) hk
 have hp0:0<(2:Nat)^k:=Nat.pow_pos (by omega)
 have hmn:m=((2^k-1:Nat):Int):=by
  rw[hm]
  have:((2^k:Nat):Int)=(2:Int)^k:=by simp
  omega
 obtain ⟨n,rfl⟩ : ∃ n:Nat,a=n:=⟨a.toNat,by omega⟩
 rw[BitVec.toNat_and,qdk h0 h,qdk (by omega) (by omega),hmn]
 simp only[VM]
 rw[VP]
 have hlt:n % 2^k<2^k:=Nat.mod_lt _ hp0
 rw[w64 (by omega) (by omega)]
 simp
theorem qoc {a:Int} (h0:0≤a) (h:a<9223372036854775808):IntKind.wrap .i64 ((BitVec.ofInt (IntKind.bits .i64) a &&& BitVec.ofInt (IntKind.bits .i64) 7).toNat:Int)=a % 8:=qd1 (k:=3) h0 h rfl (by omega)
theorem qca {a:Int} (h0:0≤a) (h:a<9223372036854775808):IntKind.wrap .i64 ((BitVec.ofInt (IntKind.bits .i64) a &&& BitVec.ofInt (IntKind.bits .i64) 15).toNat:Int)=a % 16:=qd1 (k:=4) h0 h rfl (by omega)
theorem qck {a:Int} (h0:0≤a) (h:a<9223372036854775808):IntKind.wrap .i64 ((BitVec.ofInt (IntKind.bits .i64) a &&& BitVec.ofInt (IntKind.bits .i64) 31).toNat:Int)=a % 32:=qd1 (k:=5) h0 h rfl (by omega)
theorem q5w {a:Int} (h0:0≤a) (h:a<9223372036854775808):IntKind.wrap .i64 ((BitVec.ofInt (IntKind.bits .i64) a &&& BitVec.ofInt (IntKind.bits .i64) 63).toNat:Int)=a % 64:=qd1 (k:=6) h0 h rfl (by omega)
theorem qdH {x y:Int} (k:Nat) (hx:0≤x) (hk:k<60) (hy:0≤y) (hyk:y<2^k) (hb:x * 2^k<4611686018427387904):IntKind.wrap .i64 ((BitVec.ofInt (IntKind.bits .i64) (x * 2^k) ||| BitVec.ofInt (IntKind.bits .i64) y).toNat:Int)=x * 2^k+y:=by
 have hp:(2:Nat)^k<2^60:=Nat.pow_lt_pow_right (by omega) hk
 have hpi:((2^k:Nat):Int)=(2:Int)^k:=by simp
 obtain ⟨n,rfl⟩ : ∃ n:Nat,x=n:=⟨x.toNat,by omega⟩
 obtain ⟨m,rfl⟩ : ∃ m:Nat,y=m:=⟨y.toNat,by omega⟩
 rw[←hpi] at hyk hb ⊢
 have hm:m<2^k:=by omega
 have hcast:(n:Int) * ((2^k:Nat):Int)=((n * 2^k:Nat):Int):=by simp
 rw[hcast] at hb ⊢
 rw[BitVec.toNat_or,qdk (by omega) (by omega),qdk (by omega) (by omega)]
 simp only[VM]
 rw[Nat.mul_comm n,←Nat.two_pow_add_eq_or_of_lt hm]
 rw[Nat.mul_comm n] at hb
 rw[w64 (by omega) (by omega)]
 simp
theorem q9b {x y:Int} (hx:0≤x) (hx2:x<72057594037927936) (hy:0≤y) (hyk:y<64):IntKind.wrap .i64 ((BitVec.ofInt (IntKind.bits .i64) (x * 64) ||| BitVec.ofInt (IntKind.bits .i64) y).toNat:Int)=x * 64+y:=qdH 6 hx (by omega) hy hyk (by omega)
theorem qjh {y:Int} (hy:0≤y) (hyk:y<128):IntKind.wrap .i64 ((BitVec.ofInt (IntKind.bits .i64) 128 ||| BitVec.ofInt (IntKind.bits .i64) y).toNat:Int)=128+y:=qdH (x:=1) 7 (by omega) (by omega) hy hyk (by omega)
theorem qj9 {y:Int} (hy:0≤y) (hyk:y<64):IntKind.wrap .i64 ((BitVec.ofInt (IntKind.bits .i64) 192 ||| BitVec.ofInt (IntKind.bits .i64) y).toNat:Int)=192+y:=qdH (x:=3) 6 (by omega) (by omega) hy hyk (by omega)
theorem qiB {y:Int} (hy:0≤y) (hyk:y<32):IntKind.wrap .i64 ((BitVec.ofInt (IntKind.bits .i64) 224 ||| BitVec.ofInt (IntKind.bits .i64) y).toNat:Int)=224+y:=qdH (x:=7) 5 (by omega) (by omega) hy hyk (by omega)
theorem qk8 {y:Int} (hy:0≤y) (hyk:y<16):IntKind.wrap .i64 ((BitVec.ofInt (IntKind.bits .i64) 240 ||| BitVec.ofInt (IntKind.bits .i64) y).toNat:Int)=240+y:=qdH (x:=15) 4 (by omega) (by omega) hy hyk (by omega)
end Ago
set_option maxRecDepth 100000
set_option maxHeartbeats 4000000
namespace Ago
open Go (IntKind)
theorem q2s (n:Int):qbR (.int .u8 n)=some (UInt8.ofNat n.toNat):=(rfl)
def q3P (r:Int):Bool:=decide (0≤r) && decide (r≤1114111) && (decide (r<55296) || decide (57343<r))
theorem qcz (r:Int):q0e C0 93 [.int .i64 r] (.bool (q3P r)):=by
 refine q04 qu9 rfl ?_
 unfold q3P
 (repeat' first|simp (disch:=omega) only[go_sem,qu9,enter]|(apply spl<;>intro h<;>try simp (disch:=omega) only[go_sem,qu9,enter,h]))
 all_goals rfl
def ofI (n:Int):UInt8:=UInt8.ofNat n.toNat
def q6q (r:Int):List UInt8 × Int:=
 if q3P r=false then ([],2)
 else if r<128 then ([ofI r],0)
 else if r<2048 then ([ofI (192+r / 64),ofI (128+r % 64)],0)
 else if r<65536 then ([ofI (224+r / 4096),ofI (128+r / 64 % 64),ofI (128+r % 64)],0)
 else ([ofI (240+r / 262144),ofI (128+r / 4096 % 64),ofI (128+r / 64 % 64),ofI (128+r % 64)],0)
theorem pw6:(2:Int)^min 6 (IntKind.bits .i64)=64:=(rfl)
theorem qt5:(2:Int)^min 12 (IntKind.bits .i64)=4096:=(rfl)
theorem qsX:(2:Int)^min 18 (IntKind.bits .i64)=262144:=(rfl)
theorem qt2 (a:Int):Int.fdiv a 64=a / 64:=Int.fdiv_eq_ediv_of_nonneg a (by decide)
theorem qbC (a:Int):Int.fdiv a 4096=a / 4096:=Int.fdiv_eq_ediv_of_nonneg a (by decide)
theorem q6l (a:Int):Int.fdiv a 262144=a / 262144:=Int.fdiv_eq_ediv_of_nonneg a (by decide)
theorem qgE {r:Int} (h:q3P r=true):0≤r∧r≤1114111:=by
 unfold q3P at h
 simp only[Kf,decide_eq_true_eq] at h
 omega
theorem q6a (r:Int):q0e C0 83 [.int .i64 r] (.tup [.str (q6q r).1,.int .i64 (q6q r).2]):=by
 have hc:=qcz r
 refine q04 qiJ rfl ?_
 cases hb:q3P r with
 | false=>
  rw[hb] at hc
  (repeat' first|simp (disch:=omega) only[go_sem,qiJ,enter]|refine q00 _ (hc) ?_|(apply spl<;>intro h<;>try simp (disch:=omega) only[go_sem,qiJ,enter ,h]))
  all_goals simp [q6q,hb]
 | true=>
  rw[hb] at hc
  obtain ⟨h0,h1⟩:=qgE hb
  by_cases h2:r<128
  ·(repeat' first|simp (disch:=omega) only[go_sem,qiJ,enter,q2s]|refine q00 _ (hc) ?_|(apply spl<;>intro h<;>try simp (disch:=omega) only[go_sem,qiJ,enter,q2s ,h]))
   all_goals simp [q6q,hb,h2,ofI]
  ·by_cases h3:r<2048
   ·(repeat' first|simp (disch:=omega) only[go_sem,qiJ,enter,q2s,pw6,qt5,qsX,qt2,qbC,q6l,q5w,qjh,qj9,qiB,qk8]|refine q00 _ (hc) ?_|(apply spl<;>intro h<;>try simp (disch:=omega) only[go_sem,qiJ,enter,q2s,pw6,qt5,qsX,qt2,qbC,q6l,q5w,qjh,qj9,qiB,qk8 ,h]))
    all_goals simp [q6q,hb,h2,h3,ofI]
   ·by_cases h4:r<65536
    ·(repeat' first|simp (disch:=omega) only[go_sem,qiJ,enter,q2s,pw6,qt5,qsX,qt2,qbC,q6l,q5w,qjh,qj9,qiB,qk8]|refine q00 _ (hc) ?_|(apply spl<;>intro h<;>try simp (disch:=omega) only[go_sem,qiJ,enter,q2s,pw6,qt5,qsX,qt2,qbC,q6l,q5w,qjh,qj9,qiB,qk8 ,h]))
     all_goals simp [q6q,hb,h2,h3,h4,ofI]
    ·(repeat' first|simp (disch:=omega) only[go_sem,qiJ,enter,q2s,pw6,qt5,qsX,qt2,qbC,q6l,q5w,qjh,qj9,qiB,qk8]|refine q00 _ (hc) ?_|(apply spl<;>intro h<;>try simp (disch:=omega) only[go_sem,qiJ,enter,q2s,pw6,qt5,qsX,qt2,qbC,q6l,q5w,qjh,qj9,qiB,qk8 ,h]))
     all_goals simp [q6q,hb,h2,h3,h4,ofI]


def q1p (c:UInt8):Bool:=decide (128≤c.toNat) && decide (c.toNat<192)
def q7W (r:Int):Nat:=if r<128 then 1 else if r<2048 then 2 else if r<65536 then 3 else 4
def q1l (r:Int) (n:Nat):Int × Int:=if q3P r && q7W r == n then (r,n) else (0,0)
def qx1 (b:UInt8):Option UInt8→Int × Int
 | some c=>if q1p c then q1l ((b.toNat-192) * 64+(c.toNat-128)) 2 else (0,0)
 | none=>(0,0)
def qxx (b:UInt8):Option UInt8→Option UInt8→Int × Int
 | some c,some d=>if q1p c && q1p d then q1l (((b.toNat-224) * 64+(c.toNat-128)) * 64+(d.toNat-128)) 3 else (0,0)
 | _,_=>(0,0)
def qwY (b:UInt8):Option UInt8→Option UInt8→Option UInt8→Int × Int
 | some c,some d,some e=>if q1p c && q1p d && q1p e then q1l ((((b.toNat-240) * 64+(c.toNat-128)) * 64+(d.toNat-128)) * 64+(e.toNat-128)) 4 else (0,0)
 | _,_,_=>(0,0)
def q4p (s:List UInt8) (k:Nat) (b:UInt8):Int × Int:=
 if b.toNat<128 then (b.toNat,1)
 else if b.toNat<192 then (0,0)
 else if b.toNat<224 then qx1 b s[k+1]?
 else if b.toNat<240 then qxx b s[k+1]? s[k+2]?
 else if b.toNat<248 then qwY b s[k+1]? s[k+2]? s[k+3]?
 else (0,0)
def qds (s:List UInt8) (k:Nat):Int × Int:=
 match s[k]? with
 | some b=>q4p s k b
 | none=>(0,0)

theorem qir {s:List UInt8} {k:Nat} {a:UInt8} (h1:s[k]?=some a):(s.take (k+1)).drop k=[a]:=by
 apply V6
 intro i
 rw[Vu]
 match i with
 | 0=>rw[Vb (by omega)]; exact h1
 | i+1=>rw[List.getElem?_take_eq_none (by omega)]; rfl
theorem qj2 {s:List UInt8} {k:Nat} {a b:UInt8} (h1:s[k]?=some a) (h2:s[k+1]?=some b):(s.take (k+2)).drop k=[a,b]:=by
 apply V6
 intro i
 rw[Vu]
 match i with
 | 0=>rw[Vb (by omega)]; exact h1
 | 1=>rw[Vb (by omega),h2]; rfl
 | i+2=>rw[List.getElem?_take_eq_none (by omega)]; rfl
theorem qjl {s:List UInt8} {k:Nat} {a b c:UInt8} (h1:s[k]?=some a) (h2:s[k+1]?=some b) (h3:s[k+2]?=some c):(s.take (k+3)).drop k=[a,b,c]:=by
 apply V6
 intro i
 rw[Vu]
 match i with
 | 0=>rw[Vb (by omega)]; exact h1
 | 1=>rw[Vb (by omega),h2]; rfl
 | 2=>rw[Vb (by omega),h3]; rfl
 | i+3=>rw[List.getElem?_take_eq_none (by omega)]; rfl
theorem qjJ {s:List UInt8} {k:Nat} {a b c d:UInt8} (h1:s[k]?=some a) (h2:s[k+1]?=some b) (h3:s[k+2]?=some c) (h4:s[k+3]?=some d):(s.take (k+4)).drop k=[a,b,c,d]:=by
 apply V6
 intro i
 rw[Vu]
 match i with
 | 0=>rw[Vb (by omega)]; exact h1
 | 1=>rw[Vb (by omega),h2]; rfl
 | 2=>rw[Vb (by omega),h3]; rfl
 | 3=>rw[Vb (by omega),h4]; rfl
 | i+4=>rw[List.getElem?_take_eq_none (by omega)]; rfl

theorem q5I {n:Int} {c:UInt8} (h0:0≤n) (h:n<256):ofI n=c↔n=c.toNat:=by
 unfold ofI
 constructor
 ·intro h1
  rw[←h1,UInt8.toNat_ofNat']
  omega
 ·intro h1
  rw[h1]
  simp

def q18 (r:Int) (l:List UInt8) (n:Nat):Int × Int:=if (q6q r).2=0∧(q6q r).1=l then (r,n) else (0,0)
theorem qyV (b:UInt8):q18 b.toNat [b] 1=if b.toNat<128 then ((b.toNat:Int),1) else (0,0):=by
 have hb:=b.toNat_lt
 by_cases h:b.toNat<128
 ·have hc:q3P b.toNat=true:=by unfold q3P; simp; omega
  have h1:(b.toNat:Int)<128:=by omega
  have h2:ofI b.toNat=b:=(q5I (by omega) (by omega)).2 rfl
  simp [q18,q6q,hc,h1,h,h2]
 ·have hc:q3P b.toNat=true:=by unfold q3P; simp; omega
  have h1 : ¬ (b.toNat:Int)<128:=by omega
  have h2:(b.toNat:Int)<2048:=by omega
  simp [q18,q6q,hc,h1,h,h2]
theorem q6Y (b c:UInt8):qx1 b (some c)=if q1p c=true then q1l ((b.toNat-192) * 64+(c.toNat-128)) 2 else (0,0):=rfl
theorem q7x (b c d:UInt8):qxx b (some c) (some d)=if (q1p c && q1p d)=true then q1l (((b.toNat-224) * 64+(c.toNat-128)) * 64+(d.toNat-128)) 3 else (0,0):=rfl
theorem q7R (b c d e:UInt8):qwY b (some c) (some d) (some e)=if (q1p c && q1p d && q1p e)=true then q1l ((((b.toNat-240) * 64+(c.toNat-128)) * 64+(d.toNat-128)) * 64+(e.toNat-128)) 4 else (0,0):=rfl
theorem q0H {c:UInt8}:q1p c=true↔128≤c.toNat∧c.toNat<192:=by unfold q1p; simp
theorem qyS {b c:UInt8} (hb:192≤b.toNat) (hb2:b.toNat<224):q18 ((b.toNat:Int) % 32 * 64+(c.toNat:Int) % 64) [b,c] 2=qx1 b (some c):=by
 have hc:=c.toNat_lt
 obtain ⟨r,hr⟩ : ∃ r:Int,r=(b.toNat:Int) % 32 * 64+(c.toNat:Int) % 64:=⟨_,rfl⟩
 rw[←hr]
 have hcm:q3P r=true:=by unfold q3P; simp; omega
 have e1:ofI (192+r / 64)=b:=(q5I (by omega) (by omega)).2 (by omega)
 have e2:ofI (128+r % 64)=c↔q1p c=true:=by rw[q5I (by omega) (by omega),q0H]; omega
 rw[q6Y]
 cases hcc:q1p c with
 | true=>
  rw[hcc] at e2
  have hcc':=q0H.1 hcc
  have er:((b.toNat:Int)-192) * 64+((c.toNat:Int)-128)=r:=by omega
  rw[er]
  by_cases h1:r<128
  ·simp [q18,q6q,q1l,q7W,hcm,h1]
  ·have h2:r<2048:=by omega
   simp [q18,q6q,q1l,q7W,hcm,h1,h2,e1,e2]
 | false=>
  rw[hcc] at e2
  by_cases h1:r<128
  ·simp [q18,q6q,hcm,h1]
  ·have h2:r<2048:=by omega
   simp [q18,q6q,hcm,h1,h2,e1,e2]
theorem qyX {b c d:UInt8} (hb:224≤b.toNat) (hb2:b.toNat<240):q18 (((b.toNat:Int) % 16 * 64+(c.toNat:Int) % 64) * 64+(d.toNat:Int) % 64) [b,c,d] 3=qxx b (some c) (some d):=by
 have hc:=c.toNat_lt
 have hd:=d.toNat_lt
 obtain ⟨r,hr⟩ : ∃ r:Int,r=((b.toNat:Int) % 16 * 64+(c.toNat:Int) % 64) * 64+(d.toNat:Int) % 64:=⟨_,rfl⟩
 rw[←hr]
 have e1:ofI (224+r / 4096)=b:=(q5I (by omega) (by omega)).2 (by omega)
 have e2:ofI (128+r / 64 % 64)=c↔q1p c=true:=by rw[q5I (by omega) (by omega),q0H]; omega
 have e3:ofI (128+r % 64)=d↔q1p d=true:=by rw[q5I (by omega) (by omega),q0H]; omega
 have h65:r<65536:=by omega
 have er:q1p c=true→q1p d=true→(((b.toNat:Int)-224) * 64+((c.toNat:Int)-128)) * 64+((d.toNat:Int)-128)=r:=fun h1 h2=>by
  have:=q0H.1 h1
  have:=q0H.1 h2
  omega
 rw[q7x]
 cases hcm:q3P r with
 | false=>
  have e0:q18 r [b,c,d] 3=(0,0):=by simp [q18,q6q,hcm]
  rw[e0]
  split
  ·rename_i h
   simp only[Kf] at h
   rw[er h.1 h.2]
   simp [q1l,hcm]
  ·rfl
 | true=>
  by_cases h1:r<128
  ·have e0:q18 r [b,c,d] 3=(0,0):=by simp [q18,q6q,hcm,h1]
   rw[e0]
   split
   ·rename_i h
    simp only[Kf] at h
    rw[er h.1 h.2]
    simp [q1l,q7W,h1]
   ·rfl
  ·by_cases h2:r<2048
   ·have e0:q18 r [b,c,d] 3=(0,0):=by simp [q18,q6q,hcm,h1,h2]
    rw[e0]
    split
    ·rename_i h
     simp only[Kf] at h
     rw[er h.1 h.2]
     simp [q1l,q7W,h1,h2]
    ·rfl
   ·split
    ·rename_i h
     simp only[Kf] at h
     rw[er h.1 h.2]
     rw[h.1] at e2
     rw[h.2] at e3
     simp [q18,q6q,q1l,q7W,hcm,h1,h2,h65,e1,e2,e3]
    ·rename_i h
     simp only[Kf] at h
     have hne : ¬ (ofI (128+r / 64 % 64)=c∧ofI (128+r % 64)=d):=fun h3=>h ⟨e2.1 h3.1,e3.1 h3.2⟩
     simp only[q18,q6q,hcm,h1,h2,h65,if_true,if_false,e1,List.cons.injEq,true_and,and_true,KY,hne]
theorem qyP {b c d e:UInt8} (hb:240≤b.toNat) (hb2:b.toNat<248):q18 ((((b.toNat:Int) % 8 * 64+(c.toNat:Int) % 64) * 64+(d.toNat:Int) % 64) * 64+(e.toNat:Int) % 64) [b,c,d,e] 4=qwY b (some c) (some d) (some e):=by
 have hc:=c.toNat_lt
 have hd:=d.toNat_lt
 have he:=e.toNat_lt
 obtain ⟨r,hr⟩ : ∃ r:Int,r=(((b.toNat:Int) % 8 * 64+(c.toNat:Int) % 64) * 64+(d.toNat:Int) % 64) * 64+(e.toNat:Int) % 64:=⟨_,rfl⟩
 rw[←hr]
 have e1:ofI (240+r / 262144)=b:=(q5I (by omega) (by omega)).2 (by omega)
 have e2:ofI (128+r / 4096 % 64)=c↔q1p c=true:=by rw[q5I (by omega) (by omega),q0H]; omega
 have e3:ofI (128+r / 64 % 64)=d↔q1p d=true:=by rw[q5I (by omega) (by omega),q0H]; omega
 have e4:ofI (128+r % 64)=e↔q1p e=true:=by rw[q5I (by omega) (by omega),q0H]; omega
 have er:q1p c=true→q1p d=true→q1p e=true→((((b.toNat:Int)-240) * 64+((c.toNat:Int)-128)) * 64+((d.toNat:Int)-128)) * 64+((e.toNat:Int)-128)=r:=fun h1 h2 h3=>by
  have:=q0H.1 h1
  have:=q0H.1 h2
  have:=q0H.1 h3
  omega
 rw[q7R]
 cases hcm:q3P r with
 | false=>
  have e0:q18 r [b,c,d,e] 4=(0,0):=by simp [q18,q6q,hcm]
  rw[e0]
  split
  ·rename_i h
   simp only[Kf] at h
   rw[er h.1.1 h.1.2 h.2]
   simp [q1l,hcm]
  ·rfl
 | true=>
  by_cases h1:r<65536
  ·have e0:q18 r [b,c,d,e] 4=(0,0):=by
    by_cases h2:r<128
    ·simp [q18,q6q,hcm,h2]
    ·by_cases h3:r<2048
     ·simp [q18,q6q,hcm,h2,h3]
     ·simp [q18,q6q,hcm,h1,h2,h3]
   rw[e0]
   have hw : ¬ q7W r=4:=by
    unfold q7W
    split
    ·decide
    ·split
     ·decide
     ·decide
   split
   ·rename_i h
    simp only[Kf] at h
    rw[er h.1.1 h.1.2 h.2]
    simp [q1l,hw]
   ·rfl
  ·have h2 : ¬ r<128:=by omega
   have h3 : ¬ r<2048:=by omega
   split
   ·rename_i h
    simp only[Kf] at h
    rw[er h.1.1 h.1.2 h.2]
    rw[h.1.1] at e2
    rw[h.1.2] at e3
    rw[h.2] at e4
    simp [q18,q6q,q1l,q7W,hcm,h1,h2,h3,e1,e2,e3,e4]
   ·rename_i h
    simp only[Kf] at h
    have hne : ¬ (ofI (128+r / 4096 % 64)=c∧ofI (128+r / 64 % 64)=d∧ofI (128+r % 64)=e):=fun h4=>h ⟨⟨e2.1 h4.1,e3.1 h4.2.1⟩,e4.1 h4.2.2⟩
    simp only[q18,q6q,hcm,h1,h2,h3,if_true,if_false,e1,List.cons.injEq,true_and,and_true,KY,hne]
theorem qyY {b c d e:UInt8} (hb:248≤b.toNat) (r:Int) (h0:0≤r) (h:r<2097152):q18 r [b,c,d,e] 4=(0,0):=by
 have e1:ofI (240+r / 262144)≠b:=fun e=>by
  rw[q5I (by omega) (by omega)] at e
  omega
 have hne : ¬ ((q6q r).2=0∧(q6q r).1=[b,c,d,e]):=fun h2=>by
  unfold q6q at h2
  split at h2
  ·exact absurd h2.1 (by decide)
  ·split at h2
   ·exact absurd h2.2 (by simp)
   ·split at h2
    ·exact absurd h2.2 (by simp)
    ·split at h2
     ·exact absurd h2.2 (by simp)
     ·have h3:=h2.2
      simp only[List.cons.injEq] at h3
      exact e1 h3.1
 unfold q18
 rw[if_neg hne]
end Ago
set_option maxRecDepth 100000
set_option maxHeartbeats 4000000
namespace Ago
open Go (IntKind)
def q2a (a b c d:Int) (i:Nat):Int:=if i=1 then a else if i=2 then b else if i=3 then c else d
theorem c1':((1:Nat):Int)=1:=rfl
theorem c2':((2:Nat):Int)=2:=rfl
theorem c3':((3:Nat):Int)=3:=rfl
theorem c4':((4:Nat):Int)=4:=rfl
theorem qbY (s:List UInt8) (k:Nat) (hs:s.length<2^31) (hk:k<s.length):q0e C0 60 [.str s,.int .i64 k] (.tup [.int .i64 (qds s k).1,.int .i64 (qds s k).2]):=by
 obtain ⟨b,hb⟩:=q05 hk
 have hbt:=b.toNat_lt
 have hdm:qds s k=q4p s k b:=by unfold qds; rw[hb]
 have hkn:(k:Int).toNat=k:=rfl
 rw[hdm]
 refine q04 qhG rfl ?_
 by_cases h1:b.toNat<192
 ·have hi1:(b.toNat:Int)<192:=by omega
  (repeat' first|simp (disch:=omega) only[go_sem,qhG,enter,hb,hkn]|(apply spl<;>intro h<;>try simp (disch:=omega) only[go_sem,qhG,enter,hb,hkn,h]))
  refine q06 (α:=Unit) (fun _=>{ tmps:=q0h 80 [(0,.str s),(1,.int .i64 k),(7,.int .i64 1),(8,.int .i64 b.toNat),(9,.int .i64 1)],heap:=[],base:=0 }) (fun _=>True) (fun _=>0) () rfl trivial ?_
  rintro _ _
  obtain ⟨r,hr⟩ : ∃ r:Int,r=(b.toNat:Int):=⟨_,rfl⟩
  obtain ⟨l,hl⟩ : ∃ l:List UInt8,l=[b]:=⟨_,rfl⟩
  have hsl:=qir hb
  have hkn2:((k:Int)+1).toNat=k+1:=by omega
  have hfin:q4p s k b=q18 r l 1:=by
   rw[hr,hl,qyV]
   unfold q4p
   repeat' split
   all_goals first | rfl | omega
  unfold q18 at hfin
  have he:=q6a r
  rw[←hr]
  generalize q6q r=te at he hfin
  obtain ⟨t,e0⟩:=te
  simp only at he hfin
  by_cases h1:e0=0
  ·by_cases h2:t=l
   ·have hb2:(t == l)=true:=by simpa using h2
    subst h1
    rw[if_pos ⟨rfl,h2⟩] at hfin
    rw[hfin]
    rw[hl] at hb2
    (repeat' first|simp (disch:=omega) only[go_sem,hkn,hkn2,hsl,hb2]|refine q00 _ (he) ?_)
   ·have hb2:(t == l)=false:=by simpa using h2
    subst h1
    rw[if_neg (fun h=>h2 h.2)] at hfin
    rw[hfin]
    rw[hl] at hb2
    (repeat' first|simp (disch:=omega) only[go_sem,hkn,hkn2,hsl,hb2]|refine q00 _ (he) ?_)
  ·rw[if_neg (fun h=>h1 h.1)] at hfin
   rw[hfin]
   (repeat' first|simp (disch:=omega) only[go_sem,hkn,h1]|refine q00 _ (he) ?_)
 by_cases g2:192≤b.toNat∧b.toNat<224
 ·obtain ⟨g1,g2⟩:=g2
  have gi1:192≤(b.toNat:Int):=by omega
  have gi2:(b.toNat:Int)<224:=by omega
  by_cases hlen:s.length<k+2
  ·have hnone:s[k+1]?=none:=Vd (by omega)
   have hdec:q4p s k b=(0,0):=by
    unfold q4p
    repeat' split
    all_goals first | rfl | omega | (rw[hnone]; first | rfl | (cases s[k+1]?<;>first | rfl | (cases s[k+2]?<;>rfl)))
   rw[hdec]
   (repeat' first|simp (disch:=omega) only[go_sem,qhG,enter,hb,hkn,qoc,qca,qck])
  ·obtain ⟨c,hc⟩:=q05 (s:=s) (k:=k+1) (by omega)
   have ct:=c.toNat_lt
   have kn1:((k:Int)+1).toNat=k+1:=by omega
   (repeat' first|simp (disch:=omega) only[go_sem,qhG,enter,hb,hkn,qoc,qca,qck]|(apply spl<;>intro h<;>try simp (disch:=omega) only[go_sem,qhG,enter,hb,hkn,qoc,qca,qck,h]))
   refine q06 (α:=Nat) (fun i=>{ tmps:=q0h 80 [(0,.str s),(1,.int .i64 k),(7,.int .i64 2),(8,.int .i64 (q2a ((b.toNat:Int) % 32) (((b.toNat:Int) % 32) * 64+(c.toNat:Int) % 64) 0 0 i)),(9,.int .i64 i)],heap:=[],base:=0 }) (fun i=>1≤i∧i≤2) (fun i=>2-i) 1 rfl (by omega) ?_
   rintro i ⟨hi1,hi2⟩
   rcases (by omega:i=1∨i=2) with rfl | rfl
   ·have hp:q2a ((b.toNat:Int) % 32) (((b.toNat:Int) % 32) * 64+(c.toNat:Int) % 64) 0 0 1=((b.toNat:Int) % 32):=rfl
    have hq:q2a ((b.toNat:Int) % 32) (((b.toNat:Int) % 32) * 64+(c.toNat:Int) % 64) 0 0 2=(((b.toNat:Int) % 32) * 64+(c.toNat:Int) % 64):=rfl
    rw[hp]
    (repeat' first|simp (disch:=omega) only[go_sem,hkn,kn1,hc,pw6,q5w,q9b,c1',c2',c3',c4']|(apply spl<;>intro h<;>try simp (disch:=omega) only[go_sem,hkn,kn1,hc,pw6,q5w,q9b,c1',c2',c3',c4',h]))
    exact ⟨2,by rw[hq]; rfl,by omega,by omega⟩
   ·have hp:q2a ((b.toNat:Int) % 32) (((b.toNat:Int) % 32) * 64+(c.toNat:Int) % 64) 0 0 2=(((b.toNat:Int) % 32) * 64+(c.toNat:Int) % 64):=rfl
    rw[hp]
    obtain ⟨r,hr⟩ : ∃ r:Int,r=(((b.toNat:Int) % 32) * 64+(c.toNat:Int) % 64):=⟨_,rfl⟩
    obtain ⟨l,hl⟩ : ∃ l:List UInt8,l=[b,c]:=⟨_,rfl⟩
    have hsl:=qj2 hb hc
    have hkn2:((k:Int)+2).toNat=k+2:=by omega
    have hfin:q4p s k b=q18 r l 2:=by
     rw[hr,hl]
     rw[qyS g1 g2]
     unfold q4p
     repeat' split
     all_goals first | omega | (rw[hc])
    unfold q18 at hfin
    have he:=q6a r
    rw[←hr]
    generalize q6q r=te at he hfin
    obtain ⟨t,e0⟩:=te
    simp only at he hfin
    by_cases h1:e0=0
    ·by_cases h2:t=l
     ·have hb2:(t == l)=true:=by simpa using h2
      subst h1
      rw[if_pos ⟨rfl,h2⟩] at hfin
      rw[hfin]
      rw[hl] at hb2
      (repeat' first|simp (disch:=omega) only[go_sem,hkn,hkn2,hsl,hb2]|refine q00 _ (he) ?_)
     ·have hb2:(t == l)=false:=by simpa using h2
      subst h1
      rw[if_neg (fun h=>h2 h.2)] at hfin
      rw[hfin]
      rw[hl] at hb2
      (repeat' first|simp (disch:=omega) only[go_sem,hkn,hkn2,hsl,hb2]|refine q00 _ (he) ?_)
    ·rw[if_neg (fun h=>h1 h.1)] at hfin
     rw[hfin]
     (repeat' first|simp (disch:=omega) only[go_sem,hkn,h1]|refine q00 _ (he) ?_)
 by_cases g3:224≤b.toNat∧b.toNat<240
 ·obtain ⟨g1,g2⟩:=g3
  have gi1:224≤(b.toNat:Int):=by omega
  have gi2:(b.toNat:Int)<240:=by omega
  by_cases hlen:s.length<k+3
  ·have hnone:s[k+2]?=none:=Vd (by omega)
   have hdec:q4p s k b=(0,0):=by
    unfold q4p
    repeat' split
    all_goals first | rfl | omega | (rw[hnone]; first | rfl | (cases s[k+1]?<;>first | rfl | (cases s[k+2]?<;>rfl)))
   rw[hdec]
   (repeat' first|simp (disch:=omega) only[go_sem,qhG,enter,hb,hkn,qoc,qca,qck])
  ·obtain ⟨c,hc⟩:=q05 (s:=s) (k:=k+1) (by omega)
   have ct:=c.toNat_lt
   have kn1:((k:Int)+1).toNat=k+1:=by omega
   obtain ⟨d,hd⟩:=q05 (s:=s) (k:=k+2) (by omega)
   have dt:=d.toNat_lt
   have kn2:((k:Int)+2).toNat=k+2:=by omega
   (repeat' first|simp (disch:=omega) only[go_sem,qhG,enter,hb,hkn,qoc,qca,qck]|(apply spl<;>intro h<;>try simp (disch:=omega) only[go_sem,qhG,enter,hb,hkn,qoc,qca,qck,h]))
   refine q06 (α:=Nat) (fun i=>{ tmps:=q0h 80 [(0,.str s),(1,.int .i64 k),(7,.int .i64 3),(8,.int .i64 (q2a ((b.toNat:Int) % 16) (((b.toNat:Int) % 16) * 64+(c.toNat:Int) % 64) ((((b.toNat:Int) % 16) * 64+(c.toNat:Int) % 64) * 64+(d.toNat:Int) % 64) 0 i)),(9,.int .i64 i)],heap:=[],base:=0 }) (fun i=>1≤i∧i≤3) (fun i=>3-i) 1 rfl (by omega) ?_
   rintro i ⟨hi1,hi2⟩
   rcases (by omega:i=1∨i=2∨i=3) with rfl | rfl | rfl
   ·have hp:q2a ((b.toNat:Int) % 16) (((b.toNat:Int) % 16) * 64+(c.toNat:Int) % 64) ((((b.toNat:Int) % 16) * 64+(c.toNat:Int) % 64) * 64+(d.toNat:Int) % 64) 0 1=((b.toNat:Int) % 16):=rfl
    have hq:q2a ((b.toNat:Int) % 16) (((b.toNat:Int) % 16) * 64+(c.toNat:Int) % 64) ((((b.toNat:Int) % 16) * 64+(c.toNat:Int) % 64) * 64+(d.toNat:Int) % 64) 0 2=(((b.toNat:Int) % 16) * 64+(c.toNat:Int) % 64):=rfl
    rw[hp]
    (repeat' first|simp (disch:=omega) only[go_sem,hkn,kn1,hc,pw6,q5w,q9b,c1',c2',c3',c4']|(apply spl<;>intro h<;>try simp (disch:=omega) only[go_sem,hkn,kn1,hc,pw6,q5w,q9b,c1',c2',c3',c4',h]))
    exact ⟨2,by rw[hq]; rfl,by omega,by omega⟩
   ·have hp:q2a ((b.toNat:Int) % 16) (((b.toNat:Int) % 16) * 64+(c.toNat:Int) % 64) ((((b.toNat:Int) % 16) * 64+(c.toNat:Int) % 64) * 64+(d.toNat:Int) % 64) 0 2=(((b.toNat:Int) % 16) * 64+(c.toNat:Int) % 64):=rfl
    have hq:q2a ((b.toNat:Int) % 16) (((b.toNat:Int) % 16) * 64+(c.toNat:Int) % 64) ((((b.toNat:Int) % 16) * 64+(c.toNat:Int) % 64) * 64+(d.toNat:Int) % 64) 0 3=((((b.toNat:Int) % 16) * 64+(c.toNat:Int) % 64) * 64+(d.toNat:Int) % 64):=rfl
    rw[hp]
    (repeat' first|simp (disch:=omega) only[go_sem,hkn,kn2,hd,pw6,q5w,q9b,c1',c2',c3',c4']|(apply spl<;>intro h<;>try simp (disch:=omega) only[go_sem,hkn,kn2,hd,pw6,q5w,q9b,c1',c2',c3',c4',h]))
    exact ⟨3,by rw[hq]; rfl,by omega,by omega⟩
   ·have hp:q2a ((b.toNat:Int) % 16) (((b.toNat:Int) % 16) * 64+(c.toNat:Int) % 64) ((((b.toNat:Int) % 16) * 64+(c.toNat:Int) % 64) * 64+(d.toNat:Int) % 64) 0 3=((((b.toNat:Int) % 16) * 64+(c.toNat:Int) % 64) * 64+(d.toNat:Int) % 64):=rfl
    rw[hp]
    obtain ⟨r,hr⟩ : ∃ r:Int,r=((((b.toNat:Int) % 16) * 64+(c.toNat:Int) % 64) * 64+(d.toNat:Int) % 64):=⟨_,rfl⟩
    obtain ⟨l,hl⟩ : ∃ l:List UInt8,l=[b,c,d]:=⟨_,rfl⟩
    have hsl:=qjl hb hc hd
    have hkn2:((k:Int)+3).toNat=k+3:=by omega
    have hfin:q4p s k b=q18 r l 3:=by
     rw[hr,hl]
     rw[qyX g1 g2]
     unfold q4p
     repeat' split
     all_goals first | omega | (rw[hc,hd])
    unfold q18 at hfin
    have he:=q6a r
    rw[←hr]
    generalize q6q r=te at he hfin
    obtain ⟨t,e0⟩:=te
    simp only at he hfin
    by_cases h1:e0=0
    ·by_cases h2:t=l
     ·have hb2:(t == l)=true:=by simpa using h2
      subst h1
      rw[if_pos ⟨rfl,h2⟩] at hfin
      rw[hfin]
      rw[hl] at hb2
      (repeat' first|simp (disch:=omega) only[go_sem,hkn,hkn2,hsl,hb2]|refine q00 _ (he) ?_)
     ·have hb2:(t == l)=false:=by simpa using h2
      subst h1
      rw[if_neg (fun h=>h2 h.2)] at hfin
      rw[hfin]
      rw[hl] at hb2
      (repeat' first|simp (disch:=omega) only[go_sem,hkn,hkn2,hsl,hb2]|refine q00 _ (he) ?_)
    ·rw[if_neg (fun h=>h1 h.1)] at hfin
     rw[hfin]
     (repeat' first|simp (disch:=omega) only[go_sem,hkn,h1]|refine q00 _ (he) ?_)
 by_cases g4:240≤b.toNat∧b.toNat<256
 ·obtain ⟨g1,g2⟩:=g4
  have gi1:240≤(b.toNat:Int):=by omega
  have gi2:(b.toNat:Int)<256:=by omega
  by_cases hlen:s.length<k+4
  ·have hnone:s[k+3]?=none:=Vd (by omega)
   have hdec:q4p s k b=(0,0):=by
    unfold q4p
    repeat' split
    all_goals first | rfl | omega | (rw[hnone]; first | rfl | (cases s[k+1]?<;>first | rfl | (cases s[k+2]?<;>rfl)))
   rw[hdec]
   (repeat' first|simp (disch:=omega) only[go_sem,qhG,enter,hb,hkn,qoc,qca,qck])
  ·obtain ⟨c,hc⟩:=q05 (s:=s) (k:=k+1) (by omega)
   have ct:=c.toNat_lt
   have kn1:((k:Int)+1).toNat=k+1:=by omega
   obtain ⟨d,hd⟩:=q05 (s:=s) (k:=k+2) (by omega)
   have dt:=d.toNat_lt
   have kn2:((k:Int)+2).toNat=k+2:=by omega
   obtain ⟨e,he⟩:=q05 (s:=s) (k:=k+3) (by omega)
   have et:=e.toNat_lt
   have kn3:((k:Int)+3).toNat=k+3:=by omega
   (repeat' first|simp (disch:=omega) only[go_sem,qhG,enter,hb,hkn,qoc,qca,qck]|(apply spl<;>intro h<;>try simp (disch:=omega) only[go_sem,qhG,enter,hb,hkn,qoc,qca,qck,h]))
   refine q06 (α:=Nat) (fun i=>{ tmps:=q0h 80 [(0,.str s),(1,.int .i64 k),(7,.int .i64 4),(8,.int .i64 (q2a ((b.toNat:Int) % 8) (((b.toNat:Int) % 8) * 64+(c.toNat:Int) % 64) ((((b.toNat:Int) % 8) * 64+(c.toNat:Int) % 64) * 64+(d.toNat:Int) % 64) (((((b.toNat:Int) % 8) * 64+(c.toNat:Int) % 64) * 64+(d.toNat:Int) % 64) * 64+(e.toNat:Int) % 64) i)),(9,.int .i64 i)],heap:=[],base:=0 }) (fun i=>1≤i∧i≤4) (fun i=>4-i) 1 rfl (by omega) ?_
   rintro i ⟨hi1,hi2⟩
   rcases (by omega:i=1∨i=2∨i=3∨i=4) with rfl | rfl | rfl | rfl
   ·have hp:q2a ((b.toNat:Int) % 8) (((b.toNat:Int) % 8) * 64+(c.toNat:Int) % 64) ((((b.toNat:Int) % 8) * 64+(c.toNat:Int) % 64) * 64+(d.toNat:Int) % 64) (((((b.toNat:Int) % 8) * 64+(c.toNat:Int) % 64) * 64+(d.toNat:Int) % 64) * 64+(e.toNat:Int) % 64) 1=((b.toNat:Int) % 8):=rfl
    have hq:q2a ((b.toNat:Int) % 8) (((b.toNat:Int) % 8) * 64+(c.toNat:Int) % 64) ((((b.toNat:Int) % 8) * 64+(c.toNat:Int) % 64) * 64+(d.toNat:Int) % 64) (((((b.toNat:Int) % 8) * 64+(c.toNat:Int) % 64) * 64+(d.toNat:Int) % 64) * 64+(e.toNat:Int) % 64) 2=(((b.toNat:Int) % 8) * 64+(c.toNat:Int) % 64):=rfl
    rw[hp]
    (repeat' first|simp (disch:=omega) only[go_sem,hkn,kn1,hc,pw6,q5w,q9b,c1',c2',c3',c4']|(apply spl<;>intro h<;>try simp (disch:=omega) only[go_sem,hkn,kn1,hc,pw6,q5w,q9b,c1',c2',c3',c4',h]))
    exact ⟨2,by rw[hq]; rfl,by omega,by omega⟩
   ·have hp:q2a ((b.toNat:Int) % 8) (((b.toNat:Int) % 8) * 64+(c.toNat:Int) % 64) ((((b.toNat:Int) % 8) * 64+(c.toNat:Int) % 64) * 64+(d.toNat:Int) % 64) (((((b.toNat:Int) % 8) * 64+(c.toNat:Int) % 64) * 64+(d.toNat:Int) % 64) * 64+(e.toNat:Int) % 64) 2=(((b.toNat:Int) % 8) * 64+(c.toNat:Int) % 64):=rfl
    have hq:q2a ((b.toNat:Int) % 8) (((b.toNat:Int) % 8) * 64+(c.toNat:Int) % 64) ((((b.toNat:Int) % 8) * 64+(c.toNat:Int) % 64) * 64+(d.toNat:Int) % 64) (((((b.toNat:Int) % 8) * 64+(c.toNat:Int) % 64) * 64+(d.toNat:Int) % 64) * 64+(e.toNat:Int) % 64) 3=((((b.toNat:Int) % 8) * 64+(c.toNat:Int) % 64) * 64+(d.toNat:Int) % 64):=rfl
    rw[hp]
    (repeat' first|simp (disch:=omega) only[go_sem,hkn,kn2,hd,pw6,q5w,q9b,c1',c2',c3',c4']|(apply spl<;>intro h<;>try simp (disch:=omega) only[go_sem,hkn,kn2,hd,pw6,q5w,q9b,c1',c2',c3',c4',h]))
    exact ⟨3,by rw[hq]; rfl,by omega,by omega⟩
   ·have hp:q2a ((b.toNat:Int) % 8) (((b.toNat:Int) % 8) * 64+(c.toNat:Int) % 64) ((((b.toNat:Int) % 8) * 64+(c.toNat:Int) % 64) * 64+(d.toNat:Int) % 64) (((((b.toNat:Int) % 8) * 64+(c.toNat:Int) % 64) * 64+(d.toNat:Int) % 64) * 64+(e.toNat:Int) % 64) 3=((((b.toNat:Int) % 8) * 64+(c.toNat:Int) % 64) * 64+(d.toNat:Int) % 64):=rfl
    have hq:q2a ((b.toNat:Int) % 8) (((b.toNat:Int) % 8) * 64+(c.toNat:Int) % 64) ((((b.toNat:Int) % 8) * 64+(c.toNat:Int) % 64) * 64+(d.toNat:Int) % 64) (((((b.toNat:Int) % 8) * 64+(c.toNat:Int) % 64) * 64+(d.toNat:Int) % 64) * 64+(e.toNat:Int) % 64) 4=(((((b.toNat:Int) % 8) * 64+(c.toNat:Int) % 64) * 64+(d.toNat:Int) % 64) * 64+(e.toNat:Int) % 64):=rfl
    rw[hp]
    (repeat' first|simp (disch:=omega) only[go_sem,hkn,kn3,he,pw6,q5w,q9b,c1',c2',c3',c4']|(apply spl<;>intro h<;>try simp (disch:=omega) only[go_sem,hkn,kn3,he,pw6,q5w,q9b,c1',c2',c3',c4',h]))
    exact ⟨4,by rw[hq]; rfl,by omega,by omega⟩
   ·have hp:q2a ((b.toNat:Int) % 8) (((b.toNat:Int) % 8) * 64+(c.toNat:Int) % 64) ((((b.toNat:Int) % 8) * 64+(c.toNat:Int) % 64) * 64+(d.toNat:Int) % 64) (((((b.toNat:Int) % 8) * 64+(c.toNat:Int) % 64) * 64+(d.toNat:Int) % 64) * 64+(e.toNat:Int) % 64) 4=(((((b.toNat:Int) % 8) * 64+(c.toNat:Int) % 64) * 64+(d.toNat:Int) % 64) * 64+(e.toNat:Int) % 64):=rfl
    rw[hp]
    obtain ⟨r,hr⟩ : ∃ r:Int,r=(((((b.toNat:Int) % 8) * 64+(c.toNat:Int) % 64) * 64+(d.toNat:Int) % 64) * 64+(e.toNat:Int) % 64):=⟨_,rfl⟩
    obtain ⟨l,hl⟩ : ∃ l:List UInt8,l=[b,c,d,e]:=⟨_,rfl⟩
    have hsl:=qjJ hb hc hd he
    have hkn2:((k:Int)+4).toNat=k+4:=by omega
    have hfin:q4p s k b=q18 r l 4:=by
     rw[hr,hl]
     by_cases g5:b.toNat<248
     ·rw[qyP g1 g5]
      unfold q4p
      repeat' split
      all_goals first | omega | (rw[hc,hd,he])
     ·rw[qyY (by omega) _ (by omega) (by omega)]
      unfold q4p
      repeat' split
      all_goals first | omega | rfl
    unfold q18 at hfin
    have he:=q6a r
    rw[←hr]
    generalize q6q r=te at he hfin
    obtain ⟨t,e0⟩:=te
    simp only at he hfin
    by_cases h1:e0=0
    ·by_cases h2:t=l
     ·have hb2:(t == l)=true:=by simpa using h2
      subst h1
      rw[if_pos ⟨rfl,h2⟩] at hfin
      rw[hfin]
      rw[hl] at hb2
      (repeat' first|simp (disch:=omega) only[go_sem,hkn,hkn2,hsl,hb2]|refine q00 _ (he) ?_)
     ·have hb2:(t == l)=false:=by simpa using h2
      subst h1
      rw[if_neg (fun h=>h2 h.2)] at hfin
      rw[hfin]
      rw[hl] at hb2
      (repeat' first|simp (disch:=omega) only[go_sem,hkn,hkn2,hsl,hb2]|refine q00 _ (he) ?_)
    ·rw[if_neg (fun h=>h1 h.1)] at hfin
     rw[hfin]
     (repeat' first|simp (disch:=omega) only[go_sem,hkn,h1]|refine q00 _ (he) ?_)
 omega
end Ago
set_option maxRecDepth 100000
set_option maxHeartbeats 4000000
namespace Ago
open Go (IntKind)
theorem qfS {r:Int} {n:Nat}:(q1l r n).2=0∨(q1l r n).2=n:=by
 unfold q1l
 split
 ·exact .inr rfl
 ·exact .inl rfl
theorem q75 (s:List UInt8) (k:Nat) : ∃ n:Nat,(qds s k).2=n∧(n=0∨k+n≤s.length):=by
 have get_lt : ∀ {j:Nat} {c:UInt8},s[j]?=some c→j<s.length:=fun h=>(KA.1 h).1
 have zero : ∃ n:Nat,(((0,0):Int × Int)).2=n∧(n=0∨k+n≤s.length):=⟨0,rfl,.inl rfl⟩
 have fin : ∀ (r:Int) (m:Nat),k+m≤s.length→∃ n:Nat,(q1l r m).2=n∧(n=0∨k+n≤s.length):=fun r m h=>by
  rcases qfS (r:=r) (n:=m) with e | e
  ·exact ⟨0,e,.inl rfl⟩
  ·exact ⟨m,e,.inr h⟩
 unfold qds
 cases hb:s[k]? with
 | none=>exact zero
 | some b=>
  have:=get_lt hb
  simp only
  unfold q4p
  split
  ·exact ⟨1,rfl,.inr (by omega)⟩
  ·split
   ·exact zero
   ·split
    ·cases hc:s[k+1]? with
     | none=>exact zero
     | some c=>
      have:=get_lt hc
      rw[q6Y]
      split
      ·exact fin _ _ (by omega)
      ·exact zero
    ·split
     ·cases hc:s[k+1]? with
      | none=>exact zero
      | some c=>
       cases hd:s[k+2]? with
       | none=>exact zero
       | some d=>
        have:=get_lt hd
        rw[q7x]
        split
        ·exact fin _ _ (by omega)
        ·exact zero
     ·split
      ·cases hc:s[k+1]? with
       | none=>exact zero
       | some c=>
        cases hd:s[k+2]? with
        | none=>exact zero
        | some d=>
         cases he:s[k+3]? with
         | none=>exact zero
         | some e=>
          have:=get_lt he
          rw[q7R]
          split
          ·exact fin _ _ (by omega)
          ·exact zero
      ·exact zero

def q6O (s:List UInt8):Nat→Nat→Bool
 | 0,_=>true
 | f+1,k=>if s.length≤k then true else if (qds s k).2=0 then false else q6O s f (k+(qds s k).2.toNat)
def utf (s:List UInt8):Bool:=q6O s (s.length+1) 0
theorem qbF (s:List UInt8) : ∀ (f g k:Nat),s.length-k<f→s.length-k<g→q6O s f k=q6O s g k
 | 0,_,_,h,_=>by omega
 | _,0,_,_,h=>by omega
 | f+1,g+1,k,h1,h2=>by
  obtain ⟨n,hn,h⟩:=q75 s k
  simp only[q6O]
  split
  ·rfl
  ·split
   ·rfl
   ·exact qbF s f g _ (by omega) (by omega)
theorem qc9 {s:List UInt8} {k:Nat} (h:s.length≤k):q6O s (s.length-k+1) k=true:=by
 simp only[q6O]
 rw[if_pos h]
theorem qao {s:List UInt8} {k:Nat} (h:k<s.length) (h0:(qds s k).2=0):q6O s (s.length-k+1) k=false:=by
 simp only[q6O]
 rw[if_neg (by omega),if_pos h0]
theorem qa1 {s:List UInt8} {k n:Nat} (h:k<s.length) (hn:(qds s k).2=n) (h0:n≠0):q6O s (s.length-k+1) k=q6O s (s.length-(k+n)+1) (k+n):=by
 conv=>lhs; simp only[q6O]
 rw[if_neg (by omega),if_neg (by omega),hn]
 exact qbF s _ _ _ (by simp; omega) (by simp)

theorem qdq (s:List UInt8) (hs:s.length<2^30) : ∃ l,q0e C0 42 [.str s] (.tup [.tsl 1 l,.bool (utf s)]):=by
 have h:=q4y (C:=C0) (f:=42) (ts:=[.str s]) (k:=fun v=>∃ l,v = .tup [.tsl 1 l,.bool (utf s)]) qqT rfl (by
  (repeat' first|simp (disch:=omega) only[go_sem,qqT,enter]|(apply spl<;>intro h<;>try simp (disch:=omega) only[go_sem,qqT,enter,h]))
  refine q06 (α:=Nat × List AV) (fun a=>{ tmps:=q0h 30 [(0,.str s),(4,.sref 1 0 0 a.2.length),(5,.int .i64 a.1)],heap:=[.row 1 a.2 false true 0],base:=0 }) (fun a=>a.1≤s.length∧a.2.length≤a.1+1∧utf s=q6O s (s.length-a.1+1) a.1) (fun a=>s.length-a.1) (0,[.int .i64 0]) rfl ⟨by simp,by simp,rfl⟩ ?_
  rintro ⟨k,els⟩ ⟨hk,hl,hw⟩
  simp only at hk hl hw
  by_cases hlt:k<s.length
  ·have hd:=qbY s k (by omega) hlt
   obtain ⟨m,hm,hsz⟩:=q75 s k
   rw[hm] at hd
   by_cases h0:m=0
   ·subst h0
    rw[qao hlt hm] at hw
    rw[hw]
    (repeat' first|simp (disch:=omega) only[go_sem]|refine q00 _ (hd) ?_|(apply spl<;>intro h<;>try simp (disch:=omega) only[go_sem,h]))
    exact ⟨_,rfl⟩
   ·rw[qa1 hlt hm h0] at hw
    (repeat' first|simp (disch:=omega) only[go_sem]|refine q00 _ (hd) ?_|(apply spl<;>intro h<;>try simp (disch:=omega) only[go_sem,h]))
    have e:(els++[AV.int .i64 ((k:Int)+m)]).length=els.length+1:=by simp
    refine ⟨(k+m,els++[.int .i64 ((k:Int)+m)]),?_,⟨by simp only; omega,by simp only[e]; omega,hw⟩,by simp only; omega⟩
    simp only[e]
    rfl
  ·rw[qc9 (by omega)] at hw
   rw[hw]
   (repeat' first|simp (disch:=omega) only[go_sem]|(apply spl<;>intro h<;>try simp (disch:=omega) only[go_sem,h]))
   exact ⟨_,rfl⟩)
 obtain ⟨v,h1,l,rfl⟩:=h
 exact ⟨l,h1⟩

theorem qco (s:List UInt8) (hs:s.length<2^30):q0e C0 24 [.str s] (.bool (utf s)):=by
 obtain ⟨l,hb⟩:=qdq s hs
 refine q04 qwR rfl ?_
 (repeat' first|simp (disch:=omega) only[go_sem,qwR,enter]|refine q00 _ (hb) ?_)
end Ago
set_option maxRecDepth 100000
set_option maxHeartbeats 4000000
namespace Ago
open Go (IntKind)
def q7z (s:List UInt8):Nat→Nat→Nat
 | 0,_=>0
 | f+1,k=>if k<s.length then 1+q7z s f (k+(Go.Utf8.decode ⟨s.toArray⟩ k).2) else 0
def qfv (s:List UInt8):Nat:=q7z s s.length 0
end Ago
