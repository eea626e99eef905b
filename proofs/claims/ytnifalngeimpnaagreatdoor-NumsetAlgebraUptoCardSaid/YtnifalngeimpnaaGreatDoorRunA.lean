/- Layers 1 and 2 of the references: numerals and decimals. -/
import Derived.Test.YtnifalngeimpnaaGreatDoorCodeZ
import Derived.Test.YtnifalngeimpnaaGreatDoorMachE
import Derived.Test.YtnifalngeimpnaaGreatDoorCode
set_option linter.unusedSimpArgs false
set_option linter.unusedVariables false
set_option maxRecDepth 100000
namespace Ago
def digit (b:UInt8):Bool:=decide (48≤b.toNat∧b.toNat≤57)
def digits (s:List UInt8):Bool:=s.all digit
theorem take_succ_all {α:Type} {s:List α} {k:Nat} {c:α} {p:α→Bool} (hc:s[k]?=some c) (h:(s.take k).all p=true) (hp:p c=true):(s.take (k+1)).all p=true:=by
 rw[List.take_add_one,hc]
 simp_all
theorem not_all {α:Type} {s:List α} {k:Nat} {c:α} {p:α→Bool} (hc:s[k]?=some c) (hp:p c=false):s.all p=false:=by
 rw[List.all_eq_false]
 exact ⟨c,List.mem_of_getElem? hc,by simp [hp]⟩
theorem get_some {α:Type} {s:List α} {k:Nat} (h:k<s.length) : ∃ c,s[k]?=some c:=⟨_,List.getElem?_eq_getElem h⟩

def numeral (s:List UInt8):Bool:=decide (s.length≤600) && digits s && decide (s[0]?≠some 48)

theorem zero48 (c:UInt8):(c.toNat:Int)=48↔c=48:=by
 constructor
 ·intro h
  have:c.toNat=48:=by omega
  exact UInt8.toNat_inj.1 this
 ·rintro rfl; rfl

theorem e00:(0:Int).toNat=0:=(rfl)
def encB (l:List UInt8):List AV:=l.map fun c=>.int .u8 c.toNat
theorem omap_encB : ∀ l,omap byteOf (encB l)=some l
 | []=>rfl
 | c::l=>by simp [encB,omap,byteOf] at *; have:=omap_encB l; simp [encB] at this; simp [this]

def zeros (s:List UInt8):Nat:=(s.reverse.takeWhile (· == 48)).length

def fold10 (s:List UInt8):Int:=s.foldl (fun n c=>10 * n+c.toNat-48) 0
theorem fold10_succ {s:List UInt8} {k:Nat} {c:UInt8} (h:s[k]?=some c):fold10 (s.take (k+1))=10 * fold10 (s.take k)+c.toNat-48:=by
 unfold fold10
 rw[List.take_add_one,h]
 simp
theorem fold10_bound (s:List UInt8) (hd:digits s=true):0≤fold10 s∧fold10 s<10^s.length:=by
 have key : ∀ k,k≤s.length→0≤fold10 (s.take k)∧fold10 (s.take k)<10^k:=by
  intro k
  induction k with
  | zero=>intro _; simp [fold10]
  | succ k ih=>
   intro hk
   obtain ⟨h1,h2⟩:=ih (by omega)
   obtain ⟨c,hc⟩:=get_some (s:=s) (k:=k) (by omega)
   have hcd:digit c=true:=List.all_eq_true.1 hd c (List.mem_of_getElem? hc)
   simp only[digit,decide_eq_true_eq] at hcd
   rw[fold10_succ hc,Int.pow_succ]
   omega
 have:=key s.length (Nat.le_refl _)
 rwa [List.take_length] at this

theorem foldl10 : ∀ (s:List UInt8) (a:Int),s.foldl (fun n c=>10 * n+(c.toNat:Int)-48) a=a * 10^s.length+fold10 s
 | [],a=>by simp [fold10]
 | c::s,a=>by
  unfold fold10
  simp only[List.foldl_cons,List.length_cons]
  rw[foldl10 s,foldl10 s,Int.pow_succ]
  generalize (10:Int)^s.length=p
  generalize fold10 s=q
  generalize (c.toNat:Int)=x
  rw[show (10 * a+x-48) * p=10 * a * p+x * p-48 * p by rw[Int.sub_mul,Int.add_mul],show (10 * 0+x-48) * p=x * p-48 * p by rw[Int.sub_mul]; simp,show a * (p * 10)=10 * a * p by rw[Int.mul_comm p 10,←Int.mul_assoc,Int.mul_comm a 10]]
  omega
theorem fold10_cons (c:UInt8) (s:List UInt8):fold10 (c::s)=(c.toNat-48) * 10^s.length+fold10 s:=by
 have:=foldl10 s (10 * 0+(c.toNat:Int)-48)
 unfold fold10
 rw[List.foldl_cons,this]
 simp [fold10]

theorem less10 : ∀ (a b:List UInt8),digits a=true→digits b=true→a.length=b.length→(Go.Op.bytesLess a b=true↔fold10 a<fold10 b)
 | [],[],_,_,_=>by simp [Go.Op.bytesLess,fold10]
 | [],_::_,_,_,h=>by simp at h
 | _::_,[],_,_,h=>by simp at h
 | x::a,y::b,ha,hb,h=>by
  simp only[digits,List.all_cons,Bool.and_eq_true] at ha hb
  have ih:=less10 a b ha.2 hb.2 (by simpa using h)
  have l1:=fold10_bound a ha.2
  have l2:=fold10_bound b hb.2
  have hl:a.length=b.length:=by simpa using h
  have hx:=ha.1
  have hy:=hb.1
  simp only[digit,decide_eq_true_eq] at hx hy
  rw[fold10_cons,fold10_cons]
  rw[hl] at l1 ⊢
  generalize hp:(10:Int)^b.length=p at l1 l2 ⊢
  have step : ∀ u v:Int,u<v→(u-48) * p+p≤(v-48) * p:=fun u v huv=>by
   have h1:=Int.mul_le_mul_of_nonneg_right (show u-48+1≤v-48 by omega) (show 0≤p by omega)
   rw[Int.add_mul,Int.one_mul] at h1
   exact h1
  have e1:(Go.Op.bytesLess (x::a) (y::b)=true)↔(x.toNat<y.toNat∨(x.toNat=y.toNat∧Go.Op.bytesLess a b=true)):=by
   simp only[Go.Op.bytesLess,Bool.or_eq_true,decide_eq_true_eq,Bool.and_eq_true,beq_iff_eq,UInt8.lt_iff_toNat_lt]
   rw[←UInt8.toNat_inj]
  rw[e1]
  rcases Nat.lt_trichotomy x.toNat y.toNat with hlt | heq | hgt
  ·have:=step x.toNat y.toNat (by omega)
   constructor
   ·intro _; omega
   ·intro _; exact .inl hlt
  ·rw[heq,ih]
   constructor
   ·rintro (h | ⟨_,h⟩)
    ·omega
    ·omega
   ·intro h; exact .inr ⟨rfl,by omega⟩
  ·have:=step y.toNat x.toNat (by omega)
   constructor
   ·rintro (h | ⟨h,_⟩)<;>omega
   ·intro h; omega

end Ago
set_option maxRecDepth 100000
namespace Ago
theorem pow10_le {a b:Nat} (h:a≤b):(10:Int)^a≤10^b:=by
 have:=Nat.pow_le_pow_right (n:=10) (by omega) h
 have e : ∀ k:Nat,(10:Int)^k=((10^k:Nat):Int):=fun k=>by simp
 rw[e,e]
 omega
theorem take_len {α:Type} {s:List α} {k:Nat} (h : ¬ k<s.length) (h2:k≤s.length):s.take k=s:=List.take_of_length_le (by omega)

structure Dec where
 neg:Bool
 digits:List UInt8
 exp:Int
def encDec (d:Dec):AV:=.agg [.bool d.neg,.str d.digits,.int .i64 d.exp]

def decOk (d:Dec):Bool:=
 if d.digits=[] then !d.neg && d.exp == 0
 else decide (d.digits.length≤120) && numeral d.digits && decide (zeros d.digits=0) && decide (-400≤d.exp) && decide (d.exp≤400)

theorem digits_append {a b:List UInt8} (h:digits a=true) (h':digits b=true):digits (a++b)=true:=by simp_all [digits]
theorem digits_noughts (n:Nat):digits (List.replicate n 48)=true:=by
 refine List.all_eq_true.2 fun x hx=>?_
 rw[(List.mem_replicate.1 hx).2]
 rfl

end Ago
set_option maxRecDepth 100000
namespace Ago
open Go (IntKind)

structure Tm where
 kind:Int
 day:Int
 nano:Int
 off:Int
structure VS where
 kind:Int
 bool:Bool
 num:Dec
 time:Tm
 text:List UInt8
 bytes:List UInt8
inductive V where
 | mk (s:VS) (l:List V) (f:List (List UInt8 × V))

def V.s:V→VS | .mk s _ _=>s
def V.l:V→List V | .mk _ l _=>l
def V.f:V→List (List UInt8 × V) | .mk _ _ f=>f

mutual
def encV:V→AV
 | .mk s l f=>.agg [.int .i64 s.kind,.bool s.bool,.bool s.num.neg,.str s.num.digits,.int .i64 s.num.exp,.int .i64 s.time.kind,.int .i64 s.time.day,.int .i64 s.time.nano,.int .i64 s.time.off,.str s.text,.tsl 1 (encB s.bytes),.tsl 13 (encL l),.tsl 14 (encF f)]
def encL:List V→List AV
 | []=>[]
 | v::l=>encV v::encL l
def encF:List (List UInt8 × V)→List AV
 | []=>[]
 | (k,v)::f=>.agg (.str k::(encV v).cells)::encF f
end

def V.bulk (v:V):Nat:=(encV v).bulk
theorem bulks_mem : ∀ {l:List AV} {x:AV},x∈l→x.bulk≤AV.bulks l
 | [],x,h=>by cases h
 | y::l,x,h=>by
  rcases List.mem_cons.1 h with rfl | h
  ·simp [AV.bulks]
  ·have:=bulks_mem h; simp [AV.bulks]; omega
theorem bulks_len : ∀ (l:List AV),l.length≤AV.bulks l
 | []=>by simp [AV.bulks]
 | x::l=>by have:=bulks_len l; have:=bulk_one x; simp [AV.bulks]; omega
theorem encB_len (l:List UInt8):(encB l).length=l.length:=by simp [encB]

structure V.Lens (v:V) (N:Nat):Prop where
 digits:v.s.num.digits.length<N
 text:v.s.text.length<N
 bytes:v.s.bytes.length<N
 list:v.l.length<N
 fields:v.f.length<N
 kids : ∀ x,x∈v.l→x.bulk<v.bulk
 fkids : ∀ x,x∈v.f→x.2.bulk<v.bulk∧x.1.length<N
def outSl (n b:Nat):List AV→AV
 | []=>.snil n
 | x::l=>.sref n b 0 (l.length+1)
def outHp (n b:Nat):List AV→Heap
 | []=>[]
 | x::l=>[.row n (x::l) false true b]
theorem map_get {α β:Type} {g:α→β} {l:List α} {k:Nat} {x:α} (h:l[k]?=some x):(l.map g)[k]?=some (g x):=by rw[List.getElem?_map,h]; rfl
end Ago
set_option maxRecDepth 100000
set_option maxHeartbeats 4000000
namespace Ago
open Go (IntKind)

structure PS where
 op:Int
 lo:Int
 hi:Int
 min:Int
 max:Int
inductive Pat where
 | mk (s:PS) (a:List Pat)
def Pat.s:Pat→PS | .mk s _=>s
def Pat.a:Pat→List Pat | .mk _ a=>a
mutual
def encPat:Pat→AV
 | .mk s a=>.agg [.int .i64 s.op,.int .i64 s.lo,.int .i64 s.hi,.int .i64 s.min,.int .i64 s.max,.tsl 6 (encPatL a)]
def encPatL:List Pat→List AV
 | []=>[]
 | p::l=>encPat p::encPatL l
end
def Pat.bulk (p:Pat):Nat:=(encPat p).bulk
structure Pat.Lens (p:Pat) (N:Nat):Prop where
 args:p.a.length<N
 kids : ∀ x,x∈p.a→x.bulk<p.bulk
structure Bnd where
 set:Bool
 num:Dec
 opn:Bool
structure Prt where
 lo:Bnd
 hi:Bnd
 sort:Int
def encPrt (p:Prt):AV:=.agg [.bool p.lo.set,.bool p.lo.num.neg,.str p.lo.num.digits,.int .i64 p.lo.num.exp,.bool p.lo.opn,.bool p.hi.set,.bool p.hi.num.neg,.str p.hi.num.digits,.int .i64 p.hi.num.exp,.bool p.hi.opn,.int .i64 p.sort]
def encBnd (b:Bnd):AV:=.agg [.bool b.set,.bool b.num.neg,.str b.num.digits,.int .i64 b.num.exp,.bool b.opn]
def encNS (l:List Prt):AV:=.agg [.tsl 11 (l.map encPrt)]
theorem encPrt_bulk (p:Prt):(encPrt p).bulk=p.lo.num.digits.length+p.hi.num.digits.length+12:=by
 simp [encPrt,AV.bulk,AV.bulks]
 omega

structure SS where
 op:Int
 mask:Int
 min:Int
 max:Int
 name:List UInt8
 parts:List Prt
 pat:Pat
 vals:List V
structure PK where
 key:List UInt8
 req:Bool
inductive Sch where
 | mk (s:SS) (p:List (PK × Sch)) (a:List Sch)
def Sch.s:Sch→SS | .mk s _ _=>s
def Sch.p:Sch→List (PK × Sch) | .mk _ p _=>p
def Sch.a:Sch→List Sch | .mk _ _ a=>a
def SS.cells (s:SS):List AV:=[.int .i64 s.op,.int .i64 s.mask,.int .i64 s.min,.int .i64 s.max,.str s.name,.tsl 11 (s.parts.map encPrt),.int .i64 s.pat.s.op,.int .i64 s.pat.s.lo,.int .i64 s.pat.s.hi,.int .i64 s.pat.s.min,.int .i64 s.pat.s.max,.tsl 6 (s.pat.a.map encPat),.tsl 13 (s.vals.map encV)]
mutual
def encSch:Sch→AV
 | .mk s p a=>.agg (s.cells++[.tsl 17 (encSchP p),.tsl 15 (encSchL a)])
def encSchL:List Sch→List AV
 | []=>[]
 | v::l=>encSch v::encSchL l
def encSchP:List (PK × Sch)→List AV
 | []=>[]
 | (k,v)::f=>.agg (.str k.key :: .bool k.req::(encSch v).cells)::encSchP f
end
def Sch.bulk (v:Sch):Nat:=(encSch v).bulk
structure Sch.Lens (v:Sch) (N:Nat):Prop where
 name:v.s.name.length<N
 parts:v.s.parts.length<N
 part : ∀ x,x∈v.s.parts→x.lo.num.digits.length<N∧x.hi.num.digits.length<N
 pat:v.s.pat.bulk<v.bulk
 vals:v.s.vals.length<N
 val : ∀ x,x∈v.s.vals→x.bulk<v.bulk
 props:v.p.length<N
 args:v.a.length<N
 kids : ∀ x,x∈v.a→x.bulk<v.bulk
 pkids : ∀ x,x∈v.p→x.2.bulk<v.bulk∧x.1.key.length<N
def encDef (x:List UInt8 × Sch):AV:=.agg (.str x.1::(encSch x.2).cells)
structure Schs where
 defs:List (List UInt8 × Sch)
 root:Sch
def encSchs (s:Schs):AV:=.agg (.tsl 16 (s.defs.map encDef)::(encSch s.root).cells)
def Schs.bulk (s:Schs):Nat:=(encSchs s).bulk
def Sch.kids (v:Sch):List Sch:=v.p.map (·.2)++v.a
end Ago
set_option maxRecDepth 100000
set_option maxHeartbeats 4000000
namespace Ago
open Go (IntKind)
structure Stp where
 byIndex:Bool
 key:List UInt8
 index:Int
 deriving DecidableEq
end Ago
set_option maxRecDepth 100000
set_option maxHeartbeats 4000000
namespace Ago
open Go (IntKind)

def PostR (base:Nat) (res:List ResV) (v:AV) (H':Heap) (e:Ex) (s:St):Prop:=(e = .normal∨e = .ret)∧∃ u,results res s=some u∧(tidy base u s.heap).tmps.getD 0 .dead=v∧(tidy base u s.heap).heap=H'
theorem postR_of {base:Nat} {res:List ResV} {v:AV} {H':Heap} {e:Ex} {s:St} (he:e = .normal∨e = .ret) (u:AV) (h1:results res s=some u) (h2:(tidy base u s.heap).tmps.getD 0 .dead=v) (h3:(tidy base u s.heap).heap=H'):PostR base res v H' e s:=⟨he,u,h1,h2,h3⟩
theorem runR_of {C:Ctx} {f:Nat} (fn:AFn) {args:List AV} {H:Heap} {v:AV} {H':Heap} (hf:C.code f=some fn) (h : @withStI (enter fn args H) ⟨aw (RunOf C) (PRun C) fn.body (PostR H.length fn.res v H')⟩):RunOf C f args H v H':=by
 unfold withStI at h
 exact run_of_aw hf h


theorem encB_get {l:List UInt8} {i:Nat} {c:UInt8} (h:l[i]?=some c):(encB l)[i]?=some (.int .u8 c.toNat):=by simp [encB,h]
theorem encB_set (l:List UInt8) (i:Nat) (c:UInt8):(encB l).set i (.int .u8 c.toNat)=encB (l.set i c):=by simp [encB,List.map_set]
theorem encB_length (l:List UInt8):(encB l).length=l.length:=by simp [encB]

theorem reverse_run (l:List UInt8) (hl:l.length<2^24) (h0:l≠[]):RunOf C0 143 [.sref 1 0 0 l.length] [.row 1 (encB l) false true 0] (.tup []) [.row 1 (encB l.reverse) false true 0]:=by
 refine runR_of ac143 rfl ?_
 have hpos:0<l.length:=List.length_pos_iff.2 h0
 simp (disch:=omega) only[go_sem,ac143,enter]
 refine loop_of (α:=Nat × List UInt8) (fun a=>{ tmps:=slots 28 [(0,.sref 1 0 0 l.length),(2,.int .i64 a.1),(3,.int .i64 ((l.length:Int)-1-a.1))],heap:=[.row 1 (encB a.2) false true 0],base:=1 })
  (fun a=>a.1≤l.length∧a.2.length=l.length∧∀ i,a.2[i]?=if i<a.1∨l.length≤i+a.1 then l.reverse[i]? else l[i]?) (fun a=>l.length-a.1) (0,l) (by simp only[Int.sub_zero,Int.natCast_zero]; rfl) ⟨Nat.zero_le _,rfl,fun i=>by
   simp only
   split
   ·rename_i h
    rw[List.getElem?_eq_none (l:=l) (by omega),List.getElem?_eq_none (by simp; omega)]
   ·rfl⟩ ?_
 rintro ⟨k,m⟩ ⟨hk,hm,hget⟩
 simp only at hk hm hget ⊢
 by_cases hlt:2 * k+1<l.length
 ·obtain ⟨c,hc⟩:=get_some (s:=m) (k:=k) (by omega)
  obtain ⟨d,hd⟩:=get_some (s:=m) (k:=l.length-1-k) (by omega)
  have e1:((l.length:Int)-1-k).toNat=l.length-1-k:=by omega
  have hd2:(m.set k d)[l.length-1-k]?=some d:=by rw[List.getElem?_set_ne (by omega)]; exact hd
  (repeat' first|simp (disch:=omega) only[go_sem,e1,encB_get hc,encB_get hd,encB_get hd2,encB_set,encB_length,hm,List.length_set]|(apply spl<;>intro h<;>try simp (disch:=omega) only[go_sem,e1,encB_get hc,encB_get hd,encB_get hd2,encB_set,encB_length,hm,List.length_set,h]))
  refine ⟨(k+1,(m.set k d).set (l.length-1-k) c),?_,⟨by simp only; omega,by simp [hm],fun i=>?_⟩,by simp only; omega⟩
  ·have e3:((l.length:Int)-1-((k+1:Nat):Int))=l.length-1-k-1:=by omega
   simp only[e3]
   rfl
  ·have hkc:l[k]?=some c:=by have:=hget k; rw[if_neg (by omega),hc] at this; exact this.symm
   have hkd:l[l.length-1-k]?=some d:=by have:=hget (l.length-1-k); rw[if_neg (by omega),hd] at this; exact this.symm
   simp only
   by_cases h1:i=l.length-1-k
   ·subst h1
    rw[List.getElem?_set_self (by simp; omega),if_pos (by omega),List.getElem?_reverse (by omega),←hkc]
    congr 1
    omega
   ·rw[List.getElem?_set_ne (Ne.symm h1)]
    by_cases h2:i=k
    ·subst h2
     rw[List.getElem?_set_self (by omega),if_pos (by omega),List.getElem?_reverse (by omega),←hkd]
    ·rw[List.getElem?_set_ne (Ne.symm h2),hget i]
     by_cases h3:i<k∨l.length≤i+k
     ·rw[if_pos h3,if_pos (by omega)]
     ·rw[if_neg h3,if_neg (by omega)]
 ·have hrev:m=l.reverse:=by
   apply List.ext_getElem?
   intro i
   rw[hget i]
   split
   ·rfl
   ·rename_i h
    have hi:i=k:=by omega
    rw[List.getElem?_reverse (by omega)]
    congr 1
    omega
  subst hrev
  (repeat' first|simp (disch:=omega) only[go_sem,encB_length,hm]|(apply spl<;>intro h<;>try simp (disch:=omega) only[go_sem,encB_length,hm,h]))
  exact postR_of (.inl rfl) (.tup []) rfl rfl rfl
theorem reverse_nil:RunOf C0 143 [.snil 1] [] (.tup []) []:=by
 refine runR_of ac143 rfl ?_
 simp (disch:=omega) only[go_sem,ac143,enter]
 refine loop_of (α:=Unit) (fun _=>{ tmps:=slots 28 [(0,.snil 1),(2,.int .i64 0),(3,.int .i64 (-1))],heap:=[],base:=0 }) (fun _=>True) (fun _=>0) () rfl trivial ?_
 rintro _ _
 (repeat' first|simp (disch:=omega) only[go_sem]|(apply spl<;>intro h<;>try simp (disch:=omega) only[go_sem,h]))
 exact postR_of (.inl rfl) (.tup []) rfl rfl rfl

def bSl (n b:Nat):List AV→AV
 | []=>.snil n
 | x::l=>.sref n b 0 (l.length+1)
def bHp (n b:Nat):List AV→Heap
 | []=>[]
 | x::l=>[.row n (x::l) false true b]


def digsR:Nat→Nat→List UInt8
 | 0,_=>[]
 | k+1,n=>if n=0 then [] else UInt8.ofNat (48+n % 10)::digsR k (n / 10)
def digs (n:Nat):List UInt8:=(digsR n n).reverse
theorem digsR_zero : ∀ k,digsR k 0=[]
 | 0=>rfl
 | _+1=>rfl
theorem digsR_fuel : ∀ (k j n:Nat),n≤k→n≤j→digsR k n=digsR j n
 | 0,j,n,h,_=>by
  have:n=0:=by omega
  subst this
  rw[digsR_zero,digsR_zero]
 | k+1,0,n,_,h=>by
  have:n=0:=by omega
  subst this
  rw[digsR_zero,digsR_zero]
 | k+1,j+1,n,h,h2=>by
  simp only[digsR]
  split
  ·rfl
  ·rw[digsR_fuel k j (n / 10) (by omega) (by omega)]
theorem digsR_step {n:Nat} (h:n≠0):digsR n n=UInt8.ofNat (48+n % 10)::digsR (n / 10) (n / 10):=by
 obtain ⟨m,rfl⟩ : ∃ m,n=m+1:=⟨n-1,by omega⟩
 rw[show digsR (m+1) (m+1)=if m+1=0 then [] else UInt8.ofNat (48+(m+1) % 10)::digsR m ((m+1) / 10) from rfl,if_neg h,digsR_fuel m ((m+1) / 10) ((m+1) / 10) (by omega) (Nat.le_refl _)]

theorem toDigits_run (n:Nat) (hn:n≤2^17):PRun C0 136 [.int .i64 n] (.str (digs n)):=by
 refine prun_of ac136 rfl ?_
 simp (disch:=omega) only[go_sem,ac136,enter]
 refine loop_of (α:=Nat × List UInt8) (fun a=>{ tmps:=slots 19 [(0,.int .i64 a.1),(3,bSl 1 0 (encB a.2))],heap:=bHp 1 0 (encB a.2),base:=0 }) (fun a=>a.1+a.2.length≤n∧a.2++digsR a.1 a.1=digsR n n) (fun a=>a.1) (n,[]) rfl ⟨by simp,rfl⟩ ?_
 rintro ⟨k,m⟩ ⟨hk,hm⟩
 simp only at hk hm ⊢
 by_cases h0:k=0
 ·subst h0
  rw[digsR_zero,List.append_nil] at hm
  have hd:digs n=m.reverse:=by rw[hm]; rfl
  rw[hd]
  cases m with
  | nil=>
   have hr:=reverse_nil
   (repeat' first|simp (disch:=omega) only[go_sem,encB,bSl,bHp]|(refine call_of _ _ hr ?_)|(apply spl<;>intro h<;>try simp (disch:=omega) only[go_sem,encB,bSl,bHp ,h]))
   rfl
  | cons c m=>
   have hr:=reverse_run (c::m) (by omega) (by simp)
   simp only[List.length_cons] at hr
   simp only[encB,List.map_cons] at hr
   have hom:=omap_encB (c::m).reverse
   simp only[encB] at hom
   have htk:List.take (m.length+1) (List.map (fun c=>AV.int IntKind.u8 c.toNat) (c::m).reverse)=List.map (fun c=>AV.int IntKind.u8 c.toNat) (c::m).reverse:=List.take_of_length_le (by simp)
   (repeat' first|simp (disch:=omega) only[go_sem,encB,bSl,bHp,List.length_map,htk,hom,List.length_reverse]|(refine call_of _ _ hr ?_)|(apply spl<;>intro h<;>try simp (disch:=omega) only[go_sem,encB,bSl,bHp,List.length_map,htk,hom,List.length_reverse ,h]))
 ·have hmod:(k:Int).tmod 10=((k % 10:Nat):Int):=by rw[Int.tmod_eq_emod_of_nonneg (by omega)]; omega
  have hdiv:(k:Int).tdiv 10=((k / 10:Nat):Int):=by rw[Int.tdiv_eq_ediv_of_nonneg (by omega)]; omega
  have hc8:(48:Int)+((k % 10:Nat):Int)=((UInt8.ofNat (48+k % 10)).toNat:Int):=by
   have:(UInt8.ofNat (48+k % 10)).toNat=48+k % 10:=by
    rw[UInt8.toNat_ofNat']
    omega
   rw[this]
   omega
  have hst:=digsR_step h0
  rw[hst] at hm
  have hm2:(m++[UInt8.ofNat (48+k % 10)])++digsR (k / 10) (k / 10)=digsR n n:=by simpa using hm
  cases m with
  | nil=>
   (repeat' first|simp (disch:=omega) only[go_sem,encB,bSl,bHp,hmod,hdiv]|(apply spl<;>intro h<;>try simp (disch:=omega) only[go_sem,encB,bSl,bHp,hmod,hdiv,h]))
   refine ⟨(k / 10,[UInt8.ofNat (48+k % 10)]),?_,⟨by simp at hk ⊢; omega,hm2⟩,by simp only; omega⟩
   simp only[hc8,List.map_cons,List.map_nil,List.length_nil]
   rfl
  | cons c m=>
   simp only[List.length_cons] at hk
   (repeat' first|simp (disch:=omega) only[go_sem,encB,bSl,bHp,hmod,hdiv,List.length_map,Nat.mul_one]|(apply spl<;>intro h<;>try simp (disch:=omega) only[go_sem,encB,bSl,bHp,hmod,hdiv,List.length_map,Nat.mul_one,h]))
   refine ⟨(k / 10,(c::m)++[UInt8.ofNat (48+k % 10)]),?_,⟨by simp at hk ⊢; omega,hm2⟩,by simp only; omega⟩
   simp only[hc8,List.map_cons,List.map_nil,List.cons_append,List.map_append,List.length_append,List.length_map,List.length_cons,List.length_nil]
   rfl


theorem zeros_eq {s:List UInt8} {k:Nat} (hk:k≤s.length) (hd:(s.reverse.take k).all (· == 48)=true) (h:k<s.length→∃ c,s.reverse[k]?=some c∧c≠48):zeros s=k:=by
 unfold zeros
 have key : ∀ (l:List UInt8) (k:Nat),(l.take k).all (· == 48)=true→(k<l.length→∃ c,l[k]?=some c∧c≠48)→k≤l.length→(l.takeWhile (· == 48)).length=k:=by
  intro l
  induction l with
  | nil=>intro k _ _ hk; simp at hk; simp [hk]
  | cons x l ih=>
   intro k h1 h2 h3
   cases k with
   | zero=>
    obtain ⟨c,h4,h5⟩:=h2 (by simp)
    simp at h4
    subst h4
    rw[List.takeWhile_cons_of_neg (by simpa using h5)]
    rfl
   | succ k=>
    simp only[List.take_succ_cons,List.all_cons,Bool.and_eq_true] at h1
    rw[List.takeWhile_cons_of_pos (by simpa using h1.1)]
    simp only[List.length_cons,Nat.add_right_cancel_iff]
    exact ih k h1.2 (fun h=>by simpa using h2 (by simpa using h)) (by simpa using h3)
 exact key s.reverse k hd (fun h2=>h (by simpa using h2)) (by simpa using hk)
theorem zeros_le (s:List UInt8):zeros s≤s.length:=by
 unfold zeros
 have:=(List.takeWhile_sublist (fun x=>x == (48:UInt8)) (l:=s.reverse)).length_le
 simpa using this

theorem trimByte_run (s:List UInt8) (hs:s.length<2^31):PRun C0 155 [.str s,.int .u8 48] (.str (s.take (s.length-zeros s))):=by
 refine prun_of ac155 rfl ?_
 simp (disch:=omega) only[go_sem,ac155,enter]
 refine loop_of (α:=Nat) (fun k=>{ tmps:=slots 23 [(0,.str (s.take (s.length-k))),(1,.int .u8 48)],heap:=[],base:=0 }) (fun k=>k≤s.length∧(s.reverse.take k).all (· == 48)=true) (fun k=>s.length-k) 0 (by rw[Nat.sub_zero,List.take_length]; rfl) ⟨Nat.zero_le _,rfl⟩ ?_
 rintro k ⟨hk,hd⟩
 have hlen:(s.take (s.length-k)).length=s.length-k:=by simp
 by_cases hlt:k<s.length
 ·obtain ⟨c,hc⟩:=get_some (s:=s) (k:=s.length-1-k) (by omega)
  have e:(((s.length-k:Nat):Int)-1).toNat=s.length-1-k:=by omega
  have hc2:(s.take (s.length-k))[s.length-1-k]?=some c:=by rw[List.getElem?_take_of_lt (by omega)]; exact hc
  have hr:s.reverse[k]?=some c:=by rw[List.getElem?_reverse hlt,←hc]
  have htt:List.take (s.length-1-k) (s.take (s.length-k))=s.take (s.length-(k+1)):=by rw[List.take_take]; congr 1; omega
  by_cases h48:c=48
  ·have h48i:(c.toNat:Int)=48:=(zero48 c).2 h48
   (repeat' first|simp (disch:=omega) only[go_sem,hlen,e,hc2,h48i,htt]|(apply spl<;>intro h<;>try simp (disch:=omega) only[go_sem,hlen,e,hc2,h48i,htt,h]))
   refine ⟨k+1,rfl,⟨hlt,take_succ_all hr hd (by simpa using h48)⟩,by omega⟩
  ·have h48i : ¬ (c.toNat:Int)=48:=fun e=>h48 ((zero48 c).1 e)
   rw[zeros_eq hk hd (fun _=>⟨c,hr,h48⟩)]
   (repeat' first|simp (disch:=omega) only[go_sem,hlen,e,hc2,h48i,htt]|(apply spl<;>intro h<;>try simp (disch:=omega) only[go_sem,hlen,e,hc2,h48i,htt,h]))
 ·rw[zeros_eq hk hd (fun h=>absurd h hlt)]
  (repeat' first|simp (disch:=omega) only[go_sem,hlen]|(apply spl<;>intro h<;>try simp (disch:=omega) only[go_sem,hlen,h]))

theorem trimRight_run (s:List UInt8) (hs:s.length<2^31):PRun C0 148 [.str s,.str [48]] (.str (s.take (s.length-zeros s))):=by
 refine prun_of ac148 rfl ?_
 by_cases h0:s=[]
 ·subst h0
  (repeat' first|simp (disch:=omega) only[go_sem,ac148,enter]|(apply spl<;>intro h<;>try simp (disch:=omega) only[go_sem,ac148,enter,h]))
  all_goals rfl
 ·have hb:(s == ([]:List UInt8))=false:=by simp [h0]
  have hr:=trimByte_run s hs
  have e48:((UInt8.toNat 48:Nat):Int)=48:=rfl
  have en:(([48]:List UInt8) == [])=false:=rfl
  (repeat' first|simp (disch:=omega) only[go_sem,ac148,enter,hb,e48,en]|refine pure_of _ (hr) ?_|(apply spl<;>intro h<;>try simp (disch:=omega) only[go_sem,ac148,enter,hb,e48,en ,h]))
end Ago
set_option maxRecDepth 100000
set_option maxHeartbeats 4000000
namespace Ago
open Go (IntKind)
attribute [go_sem] List.length_map encB_len
end Ago
set_option maxRecDepth 100000
set_option maxHeartbeats 4000000
namespace Ago
open Go (IntKind)
end Ago
set_option maxRecDepth 100000
set_option maxHeartbeats 4000000
namespace Ago
open Go (IntKind)

def normD (s:List UInt8):Dec:=if s=[] then ⟨false,[],0⟩ else ⟨false,s.take (s.length-zeros s),zeros s⟩
theorem norm_run (s:List UInt8) (hs:s.length≤100):PRun C0 138 [.bool false,.str s,.int .i64 0] (.tup [encDec (normD s),.int .i64 0]):=by
 refine prun_of ac138 rfl ?_
 unfold normD encDec
 by_cases h0:s=[]
 ·subst h0
  (repeat' first|simp (disch:=omega) only[go_sem,ac138,enter]|(apply spl<;>intro h<;>try simp (disch:=omega) only[go_sem,ac138,enter,h]))
 ·have hb:(s == ([]:List UInt8))=false:=by simp [h0]
  have hr:=trimRight_run s (by omega)
  have hz:=zeros_le s
  have hlen:(s.take (s.length-zeros s)).length=s.length-zeros s:=by simp
  have e1:((s.length:Int)-((s.length-zeros s:Nat):Int))=zeros s:=by omega
  have e2:((s.length:Int)-(zeros s:Int)).toNat=s.length-zeros s:=by omega
  rw[if_neg h0]
  (repeat' first|simp (disch:=omega) only[go_sem,ac138,enter,hb,hlen,e1,e2]|refine pure_of _ (hr) ?_|(apply spl<;>intro h<;>try simp (disch:=omega) only[go_sem,ac138,enter,hb,hlen,e1,e2 ,h]))
  rw[Int.zero_add]

theorem digsR_len : ∀ (k n:Nat),n<10^k→(digsR n n).length≤k
 | 0,n,h=>by
  have:n=0:=by omega
  subst this
  simp [digsR]
 | k+1,n,h=>by
  by_cases h0:n=0
  ·subst h0
   simp [digsR]
  ·rw[digsR_step h0]
   have:=digsR_len k (n / 10) (by rw[Nat.pow_succ] at h; omega)
   simp
   omega
theorem digs_len {n:Nat} (h:n≤65536):(digs n).length≤5:=by
 unfold digs
 rw[List.length_reverse]
 exact digsR_len 5 n (by omega)

def numD (n:Nat):Dec:=normD (digs n)
theorem fromInt_run (n:Nat) (hn:n≤65536):PRun C0 129 [.int .i64 n] (encDec (numD n)):=by
 refine prun_of ac129 rfl ?_
 have h1:=toDigits_run n (by omega)
 have h2:=norm_run (digs n) (by have:=digs_len hn; omega)
 unfold numD
 unfold encDec at *
 (repeat' first|simp (disch:=omega) only[go_sem,ac129,enter]|refine pure_of _ (h1) ?_|refine pure_of _ (h2) ?_|(apply spl<;>intro h<;>try simp (disch:=omega) only[go_sem,ac129,enter ,h]))


theorem fold10_append (a b:List UInt8):fold10 (a++b)=fold10 a * 10^b.length+fold10 b:=by
 unfold fold10
 rw[List.foldl_append,foldl10]
 rfl
theorem ofNat_digit (n:Nat):(UInt8.ofNat (48+n % 10)).toNat=48+n % 10:=by
 rw[UInt8.toNat_ofNat']
 omega
theorem digs_step {n:Nat} (h:n≠0):digs n=digs (n / 10)++[UInt8.ofNat (48+n % 10)]:=by
 unfold digs
 rw[digsR_step h,List.reverse_cons]
theorem digs_ok : ∀ (n:Nat),digits (digs n)=true∧fold10 (digs n)=n∧(n≠0→(digs n)[0]?≠some 48∧digs n≠[])
 | 0=>⟨rfl,rfl,fun h=>(h rfl).elim⟩
 | n+1=>by
  obtain ⟨h1,h2,h3⟩:=digs_ok ((n+1) / 10)
  rw[digs_step (by omega)]
  have hd:=ofNat_digit (n+1)
  refine ⟨digits_append h1 (by simp [digits,digit,hd]; omega),?_,fun _=>⟨?_,by simp⟩⟩
  ·rw[fold10_append,h2]
   simp only[fold10,List.foldl_cons,List.foldl_nil,List.length_cons,List.length_nil,hd]
   omega
  ·by_cases h0:(n+1) / 10=0
   ·rw[h0]
    have e:digs 0=[]:=rfl
    rw[e,List.nil_append,List.getElem?_cons_zero]
    intro h
    have h4:=congrArg UInt8.toNat (Option.some.inj h)
    rw[hd] at h4
    have e48:UInt8.toNat 48=48:=rfl
    rw[e48] at h4
    omega
   ·obtain ⟨h4,h5⟩:=h3 h0
    rw[List.getElem?_append_left (List.length_pos_iff.2 h5)]
    exact h4
termination_by n=>n
decreasing_by omega

theorem zeros_split (s:List UInt8):s.take (s.length-zeros s)++List.replicate (zeros s) 48=s∧zeros (s.take (s.length-zeros s))=0:=by
 have h:=List.takeWhile_append_dropWhile (p:=fun x=>x == (48:UInt8)) (l:=s.reverse)
 have hall:s.reverse.takeWhile (fun x=>x == (48:UInt8))=List.replicate (zeros s) 48:=by
  refine List.eq_replicate_iff.2 ⟨rfl,fun b hb=>?_⟩
  have:=List.all_eq_true.1 (List.all_takeWhile (p:=fun x=>x == (48:UInt8)) (l:=s.reverse)) b hb
  simpa using this
 rw[hall] at h
 have h2:s=(s.reverse.dropWhile (fun x=>x == (48:UInt8))).reverse++List.replicate (zeros s) 48:=by
  have:=congrArg List.reverse h
  simpa using this.symm
 have hlen:(s.reverse.dropWhile (fun x=>x == (48:UInt8))).length=s.length-zeros s:=by
  have:=congrArg List.length h2
  simp at this
  omega
 have ht:s.take (s.length-zeros s)=(s.reverse.dropWhile (fun x=>x == (48:UInt8))).reverse:=by
  have gen : ∀ (a b:List UInt8) (m:Nat),s=a++b→a.length=m→s.take m=a:=by
   rintro a b m rfl rfl
   simp
  exact gen _ _ _ h2 (by rw[List.length_reverse,hlen])
 refine ⟨by rw[ht]; exact h2.symm,?_⟩
 rw[ht]
 unfold zeros
 rw[List.reverse_reverse]
 cases hd:s.reverse.dropWhile (fun x=>x == (48:UInt8)) with
 | nil=>rfl
 | cons c l=>
  have hne:s.reverse.dropWhile (fun x=>x == (48:UInt8))≠[]:=by simp [hd]
  have:=List.head_dropWhile_not (fun x=>x == (48:UInt8)) hne
  simp only[hd,List.head_cons] at this
  rw[List.takeWhile_cons_of_neg (by simpa using this)]
  rfl

end Ago
set_option maxRecDepth 100000
set_option maxHeartbeats 4000000
namespace Ago
open Go (IntKind)
theorem allI_run (s:List UInt8) (hs:s.length<2^31):PRun C0 158 [.str s] (.bool (digits s)):=by
 refine prun_of ac158 rfl ?_
 simp (disch:=omega) only[go_sem,ac158,enter]
 refine loop_of (α:=Nat) (fun k=>{ tmps:=slots 20 [(0,.str s),(5,.int .i64 s.length),(6,.int .i64 k)],heap:=[],base:=0 }) (fun k=>k≤s.length∧(s.take k).all digit=true) (fun k=>s.length-k) 0 rfl ⟨Nat.zero_le _,rfl⟩ ?_
 rintro k ⟨hk,hd⟩
 by_cases hlt:k<s.length
 ·obtain ⟨c,hc⟩:=get_some hlt
  by_cases h:48≤c.toNat∧c.toNat≤57
  ·(repeat' first|simp (disch:=omega) only[go_sem,hc]|(apply spl<;>intro h<;>try simp (disch:=omega) only[go_sem,hc,h]))
   exact ⟨k+1,rfl,⟨hlt,take_succ_all hc hd (by simp [digit,h])⟩,by omega⟩
  ·have hn:digits s=false:=not_all hc (by simp [digit]; omega)
   rw[hn]
   (repeat' first|simp (disch:=omega) only[go_sem,hc]|(apply spl<;>intro h<;>try simp (disch:=omega) only[go_sem,hc,h]))
 ·rw[take_len hlt hk] at hd
  have hn:digits s=true:=hd
  rw[hn]
  (repeat' first|simp (disch:=omega) only[go_sem]|(apply spl<;>intro h<;>try simp (disch:=omega) only[go_sem,h]))
theorem validD_run (s:List UInt8) (hs:s.length<2^31):PRun C0 149 [.str s] (.bool (numeral s)):=by
 have ha:=allI_run s hs
 refine prun_of ac149 rfl ?_
 unfold numeral
 cases s with
 | nil=>
  (repeat' first|simp (disch:=omega) only[go_sem,ac149,enter]|refine pure_of _ (ha) ?_|(apply spl<;>intro h<;>try simp (disch:=omega) only[go_sem,ac149,enter ,h]))
  all_goals rfl
 | cons c s=>
  have hb:(c::s == ([]:List UInt8))=false:=rfl
  have hc:=zero48 c
  simp only[List.length_cons] at hs
  by_cases hl:(c::s).length≤600
  ·cases hd:digits (c::s) with
   | true=>
    rw[hd] at ha
    by_cases h0:c=48
    ·have h0':=hc.2 h0
     (repeat' first|simp (disch:=omega) only[go_sem,ac149,enter,hb,h0',hl]|refine pure_of _ (ha) ?_|(apply spl<;>intro h<;>try simp (disch:=omega) only[go_sem,ac149,enter,hb,h0',hl ,h]))
     all_goals (first | omega | simp_all)
     all_goals omega
    ·have h0' : ¬ (c.toNat:Int)=48:=fun e=>h0 (hc.1 e)
     (repeat' first|simp (disch:=omega) only[go_sem,ac149,enter,hb,h0',hl]|refine pure_of _ (ha) ?_|(apply spl<;>intro h<;>try simp (disch:=omega) only[go_sem,ac149,enter,hb,h0',hl ,h]))
     all_goals (first | omega | simp_all)
     all_goals omega
   | false=>
    rw[hd] at ha
    (repeat' first|simp (disch:=omega) only[go_sem,ac149,enter,hb,hl]|refine pure_of _ (ha) ?_|(apply spl<;>intro h<;>try simp (disch:=omega) only[go_sem,ac149,enter,hb,hl ,h]))
    all_goals simp_all
  ·have hl2:600<s.length+1:=by simp at hl; omega
   (repeat' first|simp (disch:=omega) only[go_sem,ac149,enter,hb,hl]|refine pure_of _ (ha) ?_|(apply spl<;>intro h<;>try simp (disch:=omega) only[go_sem,ac149,enter,hb,hl ,h]))
   all_goals (first | omega | simp_all)
   all_goals (intros; omega)
theorem zerosI_run (s:List UInt8) (hs:s.length<2^31):PRun C0 150 [.str s] (.int .i64 (zeros s)):=by
 have hr:=trimRight_run s hs
 have hz:=zeros_le s
 have hlen:(s.take (s.length-zeros s)).length=s.length-zeros s:=by simp
 have e1:((s.length:Int)-((s.length-zeros s:Nat):Int))=zeros s:=by omega
 refine prun_of ac150 rfl ?_
 (repeat' first|simp (disch:=omega) only[go_sem,ac150,enter,hlen,e1]|refine pure_of _ (hr) ?_|(apply spl<;>intro h<;>try simp (disch:=omega) only[go_sem,ac150,enter,hlen,e1 ,h]))
theorem decOkI_run (d:Dec) (hs:d.digits.length<2^31):PRun C0 140 [encDec d] (.bool (decOk d)):=by
 refine prun_of ac140 rfl ?_
 obtain ⟨neg,ds,exp⟩:=d
 simp only[encDec] at *
 by_cases h0:ds=[]
 ·subst h0
  (repeat' first|simp (disch:=omega) only[go_sem,ac140,enter]|(apply spl<;>intro h<;>try simp (disch:=omega) only[go_sem,ac140,enter,h]))
  all_goals simp [decOk]
 ·have hb:(ds == ([]:List UInt8))=false:=by simp [h0]
  have hz:=zerosI_run ds hs
  have hv:=validD_run ds hs
  (repeat' first|simp (disch:=omega) only[go_sem,ac140,enter,hb]|refine pure_of _ (hv) ?_|refine pure_of _ (hz) ?_|(apply spl<;>intro h<;>try simp (disch:=omega) only[go_sem,ac140,enter,hb ,h]))
  all_goals simp [decOk,h0]
  all_goals first | omega | (intros; omega) | (simp_all; done) | skip
  all_goals (have:(zeros ds:Int)=0↔zeros ds=0:=by omega)
  all_goals simp_all
  all_goals omega
end Ago
namespace Ago
open Go (IntKind)
end Ago
set_option maxRecDepth 100000
set_option maxHeartbeats 4000000
namespace Ago
open Go (IntKind)

end Ago
set_option maxRecDepth 100000
set_option maxHeartbeats 4000000
namespace Ago
open Go (IntKind)

end Ago
set_option maxRecDepth 100000
set_option maxHeartbeats 4000000
namespace Ago
open Go (IntKind)
end Ago
set_option maxRecDepth 100000
set_option maxHeartbeats 4000000
namespace Ago
open Go (IntKind)
end Ago
set_option maxRecDepth 100000
set_option maxHeartbeats 4000000
namespace Ago
open Go (IntKind)
def OwnOk (v:V):Prop:=(v.s.kind=6∨v.l.length=0)∧(v.s.kind=7∨v.f.length=0)
end Ago
set_option maxRecDepth 100000
set_option maxHeartbeats 4000000
namespace Ago
open Go (IntKind)

end Ago
set_option maxRecDepth 100000
set_option maxHeartbeats 4000000
namespace Ago
open Go (IntKind)
def V.kids (v:V):List V:=if v.s.kind=7 then v.f.map (·.2) else v.l

inductive Good:Nat→V→Prop where
 | mk {n:Nat} {v:V} (h:decOk v.s.num=true) (ho:OwnOk v) (hk : ∀ x,x∈v.kids→Good n x):Good (n+1) v

end Ago
set_option maxRecDepth 100000
set_option maxHeartbeats 4000000
namespace Ago
open Go (IntKind)
theorem upN {f:Nat} {ts:List AV} {v:AV} (h:PRun C0 f ts v):PRun CN f ts v:=
 funCtx_up (bs_ext (C:=C0) (C':=mkCtx codeN clRN clPN) (fun f fn h=>by
  have h:code f=some fn:=h
  show codeN f=some fn
  unfold codeN
  rw[h]) (fun _ _ _ _ _ h=>by
   obtain ⟨p,x,h,h2⟩:=h
   refine ⟨p,x,?_,h2⟩
   unfold clR at h
   first | (split at h<;>first | exact h | cases h) | cases h) (fun f t v h=>by
   obtain ⟨p,l,h,h2⟩:=h
   refine ⟨p,l,?_,h2⟩
   unfold clP at h
   first | (split at h<;>first | exact h | cases h) | cases h) h)
def bndOk (b:Bnd):Bool:=if b.set=true then decOk b.num else !b.num.neg && b.num.digits == [] && b.num.exp == 0 && !b.opn
def prtOk (p:Prt):Bool:=bndOk p.lo && bndOk p.hi && decide (0≤p.sort) && decide (p.sort≤2)
def setOk (l:List Prt):Bool:=decide (l.length≤256) && l.all prtOk
theorem bndI_run (b:Bnd) (hs:b.num.digits.length<2^31):PRun CN 262 [encBnd b] (.bool (bndOk b)):=by
 have hd:=upN (decOkI_run b.num hs)
 refine prun_of ac262 rfl ?_
 obtain ⟨set,⟨neg,ds,exp⟩,opn⟩:=b
 simp only[encBnd,encDec] at *
 cases set
 ·(repeat' first|simp (disch:=omega) only[go_sem,ac262,enter]|(apply spl<;>intro h<;>try simp (disch:=omega) only[go_sem,ac262,enter,h]))
  all_goals (try simp [bndOk,Bool.and_assoc])
 ·(repeat' first|simp (disch:=omega) only[go_sem,ac262,enter]|refine pure_of _ (hd) ?_|(apply spl<;>intro h<;>try simp (disch:=omega) only[go_sem,ac262,enter ,h]))
  all_goals (try simp [bndOk,Bool.and_assoc])
theorem prtI_run (p:Prt) (h1:p.lo.num.digits.length<2^31) (h2:p.hi.num.digits.length<2^31):PRun CN 250 [encPrt p] (.bool (prtOk p)):=by
 have h1:=bndI_run p.lo h1
 have h2:=bndI_run p.hi h2
 refine prun_of ac250 rfl ?_
 obtain ⟨⟨s1,⟨n1,d1,e1⟩,o1⟩,⟨s2,⟨n2,d2,e2⟩,o2⟩,sort⟩:=p
 simp only[encBnd,encPrt] at *
 unfold prtOk
 cases hb1:bndOk ⟨s1,⟨n1,d1,e1⟩,o1⟩
 ·rw[hb1] at h1
  (repeat' first|simp (disch:=omega) only[go_sem,ac250,enter]|refine pure_of _ (h1) ?_|(apply spl<;>intro h<;>try simp (disch:=omega) only[go_sem,ac250,enter ,h]))
 ·rw[hb1] at h1
  cases hb2:bndOk ⟨s2,⟨n2,d2,e2⟩,o2⟩
  ·rw[hb2] at h2
   (repeat' first|simp (disch:=omega) only[go_sem,ac250,enter]|refine pure_of _ (h1) ?_|refine pure_of _ (h2) ?_|(apply spl<;>intro h<;>try simp (disch:=omega) only[go_sem,ac250,enter ,h]))
  ·rw[hb2] at h2
   (repeat' first|simp (disch:=omega) only[go_sem,ac250,enter]|refine pure_of _ (h1) ?_|refine pure_of _ (h2) ?_|(apply spl<;>intro h<;>try simp (disch:=omega) only[go_sem,ac250,enter ,h]))
   all_goals (simp; try omega)
end Ago
set_option maxRecDepth 100000
set_option maxHeartbeats 4000000
namespace Ago
open Go (IntKind)
open Go.Lib (compareBytes repeatL)
theorem rep48 : ∀ n,repeatL [48] n=List.replicate n 48
 | 0=>rfl
 | n+1=>by simp [repeatL,rep48 n,List.replicate_succ]
theorem cmpB_self : ∀ l:List UInt8,compareBytes l l=0
 | []=>rfl
 | a::l=>by
  have : ¬ a<a:=fun h=>UInt8.lt_irrefl a h
  simp [compareBytes,this,cmpB_self l]
theorem cmpB_bl : ∀ a b:List UInt8,compareBytes a b=if Go.Op.bytesLess a b=true then -1 else if a=b then 0 else 1
 | [],[]=>by simp [compareBytes,Go.Op.bytesLess]
 | [],_::_=>by simp [compareBytes,Go.Op.bytesLess]
 | _::_,[]=>by simp [compareBytes,Go.Op.bytesLess]
 | a::xs,b::bs=>by
  unfold compareBytes
  rw[cmpB_bl xs bs]
  by_cases h:a<b
  ·simp [h,Go.Op.bytesLess]
  ·by_cases h2:b<a
   ·have h3 : ¬ a=b:=fun e=>h (by rw[e]; rw[e] at h2; exact h2)
    simp [h,h2,h3,Go.Op.bytesLess]
   ·have h3:a=b:=UInt8.le_antisymm (UInt8.not_lt.1 h2) (UInt8.not_lt.1 h)
    subst h3
    simp [h,Go.Op.bytesLess]
theorem cmpB_app : ∀ (a b z:List UInt8),a.length=b.length→compareBytes (a++z) (b++z)=compareBytes a b
 | [],[],z,_=>by simp [compareBytes,cmpB_self]
 | [],_::_,_,h=>by simp at h
 | _::_,[],_,h=>by simp at h
 | a::xs,b::bs,z,h=>by
  have ih:=cmpB_app xs bs z (by simpa using h)
  simp [compareBytes,ih]
def cmpS (a b:List UInt8):Int:=if a.length<b.length then -1 else if b.length<a.length then 1 else compareBytes a b
def pad (a:List UInt8) (n:Nat):List UInt8:=a++List.replicate n 48
def sizeM (a b:Dec):Int:=
 if a.digits=[]∨b.digits=[] then cmpS a.digits b.digits
 else if a.digits.length+a.exp<b.digits.length+b.exp then -1
 else if b.digits.length+b.exp<a.digits.length+a.exp then 1
 else compareBytes (pad a.digits (max a.digits.length b.digits.length-a.digits.length)) (pad b.digits (max a.digits.length b.digits.length-b.digits.length))
def cmpM (a b:Dec):Int:=
 if a.neg=true∧b.neg=false then -1 else if b.neg=true∧a.neg=false then 1 else if a.neg=true then sizeM b a else sizeM a b
theorem size_align (a b:Dec) (ha:a.digits≠[]) (hb:b.digits≠[]) (m:Int) (h1:m≤a.exp) (h2:m≤b.exp) :
  cmpS (pad a.digits (a.exp-m).toNat) (pad b.digits (b.exp-m).toNat)=sizeM a b:=by
 have hs:sizeM a b=if (a.digits.length:Int)+a.exp<b.digits.length+b.exp then -1 else if (b.digits.length:Int)+b.exp<a.digits.length+a.exp then 1
   else compareBytes (pad a.digits (max a.digits.length b.digits.length-a.digits.length)) (pad b.digits (max a.digits.length b.digits.length-b.digits.length)):=by
  unfold sizeM
  rw[if_neg (by simp [ha,hb])]
 rw[hs]
 unfold cmpS
 have l1:(pad a.digits (a.exp-m).toNat).length=a.digits.length+(a.exp-m).toNat:=by simp [pad]
 have l2:(pad b.digits (b.exp-m).toNat).length=b.digits.length+(b.exp-m).toNat:=by simp [pad]
 rw[l1,l2]
 by_cases h:(a.digits.length:Int)+a.exp<b.digits.length+b.exp
 ·rw[if_pos h,if_pos (show a.digits.length+(a.exp-m).toNat<b.digits.length+(b.exp-m).toNat by omega)]
 rw[if_neg h,if_neg (show ¬ a.digits.length+(a.exp-m).toNat<b.digits.length+(b.exp-m).toNat by omega)]
 by_cases h':(b.digits.length:Int)+b.exp<a.digits.length+a.exp
 ·rw[if_pos h',if_pos (show b.digits.length+(b.exp-m).toNat<a.digits.length+(a.exp-m).toNat by omega)]
 rw[if_neg h',if_neg (show ¬ b.digits.length+(b.exp-m).toNat<a.digits.length+(a.exp-m).toNat by omega)]
 have key : ∀ (x y:List UInt8) (p q:Nat),x.length+p=y.length+q→compareBytes (pad x p) (pad y q)=compareBytes (pad x (max x.length y.length-x.length)) (pad y (max x.length y.length-y.length)):=by
  intro x y p q h
  have e1:pad x p=pad x (max x.length y.length-x.length)++List.replicate (x.length+p-max x.length y.length) 48:=by
   simp only[pad,List.append_assoc,List.replicate_append_replicate]
   congr 2
   omega
  have e2:pad y q=pad y (max x.length y.length-y.length)++List.replicate (x.length+p-max x.length y.length) 48:=by
   simp only[pad,List.append_assoc,List.replicate_append_replicate]
   congr 2
   omega
  rw[e1,e2]
  exact cmpB_app _ _ _ (by simp [pad]; omega)
 exact key _ _ _ _ (by omega)
theorem compare_run (a b:List UInt8):PRun CN 257 [.str a,.str b] (.int .i64 (compareBytes a b)):=by
 have hc:PRun CN 272 [.str a,.str b] (.int .i64 (compareBytes a b)):=fun_run (F:=cmpF) rfl rfl
 refine prun_of ac257 rfl ?_
 (repeat' first|simp (disch:=omega) only[go_sem,ac257,enter]|refine pure_of _ (hc) ?_|(apply spl<;>intro h<;>try simp (disch:=omega) only[go_sem,ac257,enter ,h]))
theorem cmpI_run (a b:List UInt8) (ha:a.length<2^31) (hb:b.length<2^31):PRun CN 286 [.str a,.str b] (.int .i64 (cmpS a b)):=by
 have hc:=compare_run a b
 refine prun_of ac286 rfl ?_
 unfold cmpS
 (repeat' first|simp (disch:=omega) only[go_sem,ac286,enter]|refine pure_of _ (hc) ?_|(apply spl<;>intro h<;>try simp (disch:=omega) only[go_sem,ac286,enter ,h]))
 all_goals first | (rw[if_pos (by omega)]; done) | (rw[if_neg (by omega),if_pos (by omega)]; done) | (rw[if_neg (by omega),if_neg (by omega)]; done) | skip
theorem wholeI_run (d:Dec):PRun CN 264 [encDec d] (.bool (decide (0≤d.exp))):=by
 refine prun_of ac264 rfl ?_
 obtain ⟨neg,ds,exp⟩:=d
 simp only[encDec]
 (repeat' first|simp (disch:=omega) only[go_sem,ac264,enter]|(apply spl<;>intro h<;>try simp (disch:=omega) only[go_sem,ac264,enter,h]))
 all_goals (simp; try omega)
end Ago
set_option maxRecDepth 100000
set_option maxHeartbeats 4000000
namespace Ago
open Go (IntKind)
open Go.Lib (compareBytes repeatL)
theorem decOk_facts {d:Dec} (h:decOk d=true):d.digits.length≤120∧-400≤d.exp∧d.exp≤400:=by
 unfold decOk at h
 split at h
 ·rename_i h0
  simp at h
  rw[h0]
  simp
  omega
 ·simp at h
  omega
theorem repeat_run (n:Nat) (h:n≤2147483648):PRun CN 291 [.str [48],.int .i64 n] (.str (List.replicate n 48)):=by
 have h1:=repF_eq [48] n (by simp; omega) h
 rw[rep48] at h1
 exact fun_run (F:=repF) rfl h1
theorem align_run (a b:Dec) (ha:decOk a=true) (hb:decOk b=true) : ∃ x y e,PRun CN 285 [encDec a,encDec b] (.tup [.str x,.str y,.int .i64 e])∧cmpS x y=sizeM a b∧x.length≤1000∧y.length≤1000:=by
 obtain ⟨fa1,fa2,fa3⟩:=decOk_facts ha
 obtain ⟨fb1,fb2,fb3⟩:=decOk_facts hb
 have va:=upN (decOkI_run a (by omega))
 have vb:=upN (decOkI_run b (by omega))
 rw[ha] at va
 rw[hb] at vb
 obtain ⟨na,da,ea⟩:=a
 obtain ⟨nb,db,eb⟩:=b
 simp only[encDec] at *
 by_cases h1:da=[]
 ·subst h1
  refine ⟨[],db,eb,prun_of ac285 rfl ?_,by simp [sizeM],by simp,by omega⟩
  (repeat' first|simp (disch:=omega) only[go_sem,ac285,enter]|refine pure_of _ (va) ?_|refine pure_of _ (vb) ?_|(apply spl<;>intro h<;>try simp (disch:=omega) only[go_sem,ac285,enter ,h]))
 have hb1:(da == ([]:List UInt8))=false:=by simp [h1]
 by_cases h2:db=[]
 ·subst h2
  refine ⟨da,[],ea,prun_of ac285 rfl ?_,by simp [sizeM],by omega,by simp⟩
  (repeat' first|simp (disch:=omega) only[go_sem,ac285,enter,hb1]|refine pure_of _ (va) ?_|refine pure_of _ (vb) ?_|(apply spl<;>intro h<;>try simp (disch:=omega) only[go_sem,ac285,enter,hb1 ,h]))
 have hb2:(db == ([]:List UInt8))=false:=by simp [h2]
 have key : ∀ m:Int,m≤ea→m≤eb→-400≤m→PRun CN 291 [.str [48],.int .i64 (ea-m)] (.str (List.replicate (ea-m).toNat 48))∧PRun CN 291 [.str [48],.int .i64 (eb-m)] (.str (List.replicate (eb-m).toNat 48)):=by
  intro m k1 k2 k3
  have r1:=repeat_run (ea-m).toNat (by omega)
  have r2:=repeat_run (eb-m).toNat (by omega)
  rw[show (((ea-m).toNat:Nat):Int)=ea-m by omega] at r1
  rw[show (((eb-m).toNat:Nat):Int)=eb-m by omega] at r2
  exact ⟨r1,r2⟩
 have hl : ∀ (n:Nat),(List.replicate n (48:UInt8)).length=n:=fun n=>List.length_replicate
 by_cases h:ea≤eb
 ·obtain ⟨r1,r2⟩:=key ea (by omega) h (by omega)
  refine ⟨pad da (ea-ea).toNat,pad db (eb-ea).toNat,ea,prun_of ac285 rfl ?_,size_align ⟨na,da,ea⟩ ⟨nb,db,eb⟩ h1 h2 ea (by simp) h,by simp [pad]; omega,by simp [pad]; omega⟩
  have hm : ¬ eb<ea:=by omega
  (repeat' first|simp (disch:=omega) only[go_sem,ac285,enter,hb1,hb2,hm,hl,pad]|refine pure_of _ (va) ?_|refine pure_of _ (vb) ?_|refine pure_of _ (r1) ?_|refine pure_of _ (r2) ?_|(apply spl<;>intro h<;>try simp (disch:=omega) only[go_sem,ac285,enter,hb1,hb2,hm,hl,pad ,h]))
  all_goals omega
 ·obtain ⟨r1,r2⟩:=key eb (by omega) (by omega) (by omega)
  refine ⟨pad da (ea-eb).toNat,pad db (eb-eb).toNat,eb,prun_of ac285 rfl ?_,size_align ⟨na,da,ea⟩ ⟨nb,db,eb⟩ h1 h2 eb (by simp only; omega) (by simp),by simp [pad]; omega,by simp [pad]; omega⟩
  have hm:eb<ea:=by omega
  (repeat' first|simp (disch:=omega) only[go_sem,ac285,enter,hb1,hb2,hm,hl,pad]|refine pure_of _ (va) ?_|refine pure_of _ (vb) ?_|refine pure_of _ (r1) ?_|refine pure_of _ (r2) ?_|(apply spl<;>intro h<;>try simp (disch:=omega) only[go_sem,ac285,enter,hb1,hb2,hm,hl,pad ,h]))
  all_goals omega
theorem sizeI_run (a b:Dec) (ha:decOk a=true) (hb:decOk b=true):PRun CN 273 [encDec a,encDec b] (.int .i64 (sizeM a b)):=by
 obtain ⟨x,y,e,hr,hc,l1,l2⟩:=align_run a b ha hb
 have hk:=cmpI_run x y (by omega) (by omega)
 rw[hc] at hk
 refine prun_of ac273 rfl ?_
 simp only[encDec] at *
 (repeat' first|simp (disch:=omega) only[go_sem,ac273,enter]|refine pure_of _ (hr) ?_|refine pure_of _ (hk) ?_|(apply spl<;>intro h<;>try simp (disch:=omega) only[go_sem,ac273,enter ,h]))
theorem CmpI_run (a b:Dec) (ha:decOk a=true) (hb:decOk b=true):PRun CN 263 [encDec a,encDec b] (.int .i64 (cmpM a b)):=by
 have r1:=sizeI_run a b ha hb
 have r2:=sizeI_run b a hb ha
 refine prun_of ac263 rfl ?_
 unfold cmpM
 obtain ⟨na,da,ea⟩:=a
 obtain ⟨nb,db,eb⟩:=b
 simp only[encDec] at *
 cases na<;>cases nb
 ·try simp only[Bool.false_eq_true,false_and,if_false]
  (repeat' first|simp (disch:=omega) only[go_sem,ac263,enter]|refine pure_of _ (r1) ?_|(apply spl<;>intro h<;>try simp (disch:=omega) only[go_sem,ac263,enter ,h]))
 ·try simp only[Bool.false_eq_true,false_and,if_false,true_and,if_true]
  (repeat' first|simp (disch:=omega) only[go_sem,ac263,enter]|refine pure_of _ (r1) ?_|(apply spl<;>intro h<;>try simp (disch:=omega) only[go_sem,ac263,enter ,h]))
 ·try simp only[Bool.false_eq_true,false_and,if_false,true_and,if_true]
  (repeat' first|simp (disch:=omega) only[go_sem,ac263,enter]|refine pure_of _ (r1) ?_|(apply spl<;>intro h<;>try simp (disch:=omega) only[go_sem,ac263,enter ,h]))
 ·try simp only[Bool.true_eq_false,and_false,if_false,if_true]
  (repeat' first|simp (disch:=omega) only[go_sem,ac263,enter]|refine pure_of _ (r2) ?_|(apply spl<;>intro h<;>try simp (disch:=omega) only[go_sem,ac263,enter ,h]))
end Ago
set_option maxRecDepth 100000
set_option maxHeartbeats 4000000
namespace Ago
open Go (IntKind)
def inM (p:Prt) (d:Dec):Bool:=
 if p.lo.set=true∧(cmpM d p.lo.num<0∨cmpM d p.lo.num=0∧p.lo.opn=true) then false
 else if p.hi.set=true∧(0<cmpM d p.hi.num∨cmpM d p.hi.num=0∧p.hi.opn=true) then false
 else if p.sort=0 then true
 else decide (0≤d.exp) == decide (p.sort=1)
theorem prt_lo {p:Prt} (h:prtOk p=true) (hs:p.lo.set=true):decOk p.lo.num=true:=by
 unfold prtOk bndOk at h
 simp [hs] at h
 exact h.1.1.1
theorem prt_hi {p:Prt} (h:prtOk p=true) (hs:p.hi.set=true):decOk p.hi.num=true:=by
 unfold prtOk bndOk at h
 simp [hs] at h
 exact h.1.1.2
theorem inside_run (p:Prt) (d:Dec) (hp:prtOk p=true) (hd:decOk d=true):PRun CN 251 [encPrt p,encDec d] (.bool (inM p d)):=by
 have rl:p.lo.set=true→PRun CN 263 [encDec d,encDec p.lo.num] (.int .i64 (cmpM d p.lo.num)):=fun h=>CmpI_run d _ hd (prt_lo hp h)
 have rh:p.hi.set=true→PRun CN 263 [encDec d,encDec p.hi.num] (.int .i64 (cmpM d p.hi.num)):=fun h=>CmpI_run d _ hd (prt_hi hp h)
 have rw_:=wholeI_run d
 refine prun_of ac251 rfl ?_
 unfold inM
 obtain ⟨c1,hc1⟩ : ∃ c,cmpM d p.lo.num=c:=⟨_,rfl⟩
 obtain ⟨c2,hc2⟩ : ∃ c,cmpM d p.hi.num=c:=⟨_,rfl⟩
 rw[hc1] at rl ⊢
 rw[hc2] at rh ⊢
 clear hc1 hc2 hp hd
 obtain ⟨⟨s1,⟨n1,d1,e1⟩,o1⟩,⟨s2,⟨n2,d2,e2⟩,o2⟩,sort⟩:=p
 obtain ⟨neg,ds,exp⟩:=d
 simp only[encPrt,encDec] at *
 cases s1<;>cases s2<;>cases o1<;>cases o2<;>simp only[Bool.false_eq_true,false_and,and_false,or_false,if_false,true_and,and_true,forall_const] at rl rh ⊢
 all_goals
  (repeat' first|simp (disch:=omega) only[go_sem,ac251,enter]|refine pure_of _ (rl) ?_|refine pure_of _ (rh) ?_|refine pure_of _ (rw_) ?_|(apply spl<;>intro h<;>try simp (disch:=omega) only[go_sem,ac251,enter ,h]))
 all_goals first
  | (simp; omega)
  | (simp_all; done)
  | (simp_all; omega)
  | (
   have e1:(sort == 1)=decide (sort=1):=by by_cases q:sort=1<;>simp [q]
   by_cases q1:sort=0<;>by_cases q2:sort=1<;>by_cases q3:0≤exp<;>simp [e1,q1,q2,q3]<;>omega)
  | (by_cases q1:sort=0<;>by_cases q2:sort=1<;>by_cases q3:0≤exp<;>simp_all)
  | skip
end Ago
set_option maxRecDepth 100000
set_option maxHeartbeats 4000000
namespace Ago
open Go (IntKind)
def slimP (l:List Prt):Prop:=l.length<2^24∧∀ p,p∈l→p.lo.num.digits.length<2^31∧p.hi.num.digits.length<2^31
theorem setI_run (l:List Prt) (hl:slimP l):PRun CN 229 [encNS l] (.bool (setOk l)):=by
 obtain ⟨hl1,hl2⟩:=hl
 refine prun_of ac229 rfl ?_
 unfold encNS setOk
 by_cases h256:l.length≤256
 case neg=>
  rw[decide_eq_false h256]
  (repeat' first|simp (disch:=omega) only[go_sem,ac229,enter,List.length_map]|(apply spl<;>intro h<;>try simp (disch:=omega) only[go_sem,ac229,enter,List.length_map,h]))
  all_goals omega
 rw[decide_eq_true h256,Bool.true_and]
 (repeat' first|simp (disch:=omega) only[go_sem,ac229,enter,List.length_map]|(apply spl<;>intro h<;>try simp (disch:=omega) only[go_sem,ac229,enter,List.length_map,h]))
 all_goals try omega
 refine loop_of (α:=Nat) (fun k=>{ tmps:=slots 20 [(10,.tsl 11 (l.map encPrt)),(11,.int .i64 l.length),(12,.int .i64 k)],heap:=[],base:=0 }) (fun k=>k≤l.length∧(l.take k).all prtOk=true) (fun k=>l.length-k) 0 rfl ⟨Nat.zero_le _,rfl⟩ ?_
 rintro k ⟨hk,hd⟩
 by_cases hlt:k<l.length
 ·obtain ⟨p,hp⟩:=get_some hlt
  have hp2:=map_get (g:=encPrt) hp
  obtain ⟨q1,q2⟩:=hl2 p (List.mem_of_getElem? hp)
  have hr:=prtI_run p q1 q2
  simp only[encPrt] at hp2 hr
  cases hb:prtOk p with
  | true=>
   rw[hb] at hr
   (repeat' first|simp (disch:=omega) only[go_sem,hp2,List.length_map]|refine pure_of _ (hr) ?_|(apply spl<;>intro h<;>try simp (disch:=omega) only[go_sem,hp2,List.length_map ,h]))
   all_goals try omega
   exact ⟨k+1,rfl,⟨hlt,take_succ_all hp hd hb⟩,by omega⟩
  | false=>
   rw[hb] at hr
   have hn:l.all prtOk=false:=not_all hp hb
   rw[hn]
   (repeat' first|simp (disch:=omega) only[go_sem,hp2,List.length_map]|refine pure_of _ (hr) ?_|(apply spl<;>intro h<;>try simp (disch:=omega) only[go_sem,hp2,List.length_map ,h]))
   all_goals omega
 ·rw[take_len hlt hk] at hd
  rw[hd]
  (repeat' first|simp (disch:=omega) only[go_sem,List.length_map]|(apply spl<;>intro h<;>try simp (disch:=omega) only[go_sem,List.length_map,h]))
  all_goals omega
def hasM (l:List Prt) (d:Dec):Bool:=setOk l && decOk d && l.any fun p=>inM p d
end Ago
set_option maxRecDepth 100000
set_option maxHeartbeats 4000000
namespace Ago
open Go (IntKind)
theorem setOk_all {l:List Prt} (h:setOk l=true) : ∀ p,p∈l→prtOk p=true:=by
 unfold setOk at h
 simp only[Bool.and_eq_true,List.all_eq_true] at h
 exact h.2
theorem setOk_len {l:List Prt} (h:setOk l=true):l.length≤256:=by
 unfold setOk at h
 simp only[Bool.and_eq_true,decide_eq_true_eq] at h
 exact h.1
theorem take_succ_none {α:Type} {l:List α} {k:Nat} {x:α} {f:α→Bool} (hx:l[k]?=some x) (h:(l.take k).any f=false) (hf:f x=false):(l.take (k+1)).any f=false:=by
 rw[List.take_add_one,hx,List.any_append,h]
 simp [hf]
theorem any_at {α:Type} {l:List α} {k:Nat} {x:α} {f:α→Bool} (hx:l[k]?=some x) (hf:f x=true):l.any f=true:=List.any_eq_true.2 ⟨x,List.mem_of_getElem? hx,hf⟩
theorem HasI_run (l:List Prt) (d:Dec) (hl:slimP l) (hs:d.digits.length<2^31):PRun CN 235 [encNS l,encDec d] (.bool (hasM l d)):=by
 have hv:=setI_run l hl
 have hd:=upN (decOkI_run d hs)
 unfold hasM
 refine prun_of ac235 rfl ?_
 cases h1:setOk l
 ·rw[h1] at hv
  unfold encNS encDec at *
  try simp only[Bool.false_and]
  (repeat' first|simp (disch:=omega) only[go_sem,ac235,enter,List.length_map]|refine pure_of _ (hv) ?_|(apply spl<;>intro h<;>try simp (disch:=omega) only[go_sem,ac235,enter,List.length_map ,h]))
 rw[h1] at hv
 cases h2:decOk d
 ·rw[h2] at hd
  unfold encNS encDec at *
  try simp only[Bool.false_and,Bool.and_false]
  (repeat' first|simp (disch:=omega) only[go_sem,ac235,enter,List.length_map]|refine pure_of _ (hv) ?_|refine pure_of _ (hd) ?_|(apply spl<;>intro h<;>try simp (disch:=omega) only[go_sem,ac235,enter,List.length_map ,h]))
 rw[h2] at hd
 have hlen:=setOk_len h1
 have hi : ∀ p,p∈l→PRun CN 251 [encPrt p,encDec d] (.bool (inM p d)):=fun p hp=>inside_run p d (setOk_all h1 p hp) h2
 try simp only[Bool.true_and]
 unfold encNS encDec at *
 (repeat' first|simp (disch:=omega) only[go_sem,ac235,enter,List.length_map]|refine pure_of _ (hv) ?_|refine pure_of _ (hd) ?_|(apply spl<;>intro h<;>try simp (disch:=omega) only[go_sem,ac235,enter,List.length_map ,h]))
 refine loop_of (α:=Nat) (fun k=>{ tmps:=slots 26 [(3,.ptr 3 0 0 0),(16,.tsl 11 (l.map encPrt)),(17,.int .i64 l.length),(18,.int .i64 k)],heap:=[.row 3 [.agg [.bool d.neg,.str d.digits,.int .i64 d.exp]] false true 0],base:=0 }) (fun k=>k≤l.length∧(l.take k).any (fun p=>inM p d)=false) (fun k=>l.length-k) 0 rfl ⟨Nat.zero_le _,rfl⟩ ?_
 rintro k ⟨hk,hd⟩
 by_cases hlt:k<l.length
 ·obtain ⟨p,hp⟩:=get_some hlt
  have hp2:=map_get (g:=encPrt) hp
  have hr:=hi p (List.mem_of_getElem? hp)
  simp only[encPrt] at hp2 hr
  cases hb:inM p d with
  | true=>
   rw[hb] at hr
   rw[any_at (f:=fun p=>inM p d) hp hb]
   (repeat' first|simp (disch:=omega) only[go_sem,hp2,List.length_map]|refine pure_of _ (hr) ?_|(apply spl<;>intro h<;>try simp (disch:=omega) only[go_sem,hp2,List.length_map ,h]))
   all_goals omega
  | false=>
   rw[hb] at hr
   (repeat' first|simp (disch:=omega) only[go_sem,hp2,List.length_map]|refine pure_of _ (hr) ?_|(apply spl<;>intro h<;>try simp (disch:=omega) only[go_sem,hp2,List.length_map ,h]))
   all_goals try omega
   exact ⟨k+1,rfl,⟨hlt,take_succ_none hp hd hb⟩,by omega⟩
 ·rw[take_len hlt hk] at hd
  rw[hd]
  (repeat' first|simp (disch:=omega) only[go_sem,List.length_map]|(apply spl<;>intro h<;>try simp (disch:=omega) only[go_sem,List.length_map,h]))
  all_goals omega
end Ago
set_option maxRecDepth 100000
set_option maxHeartbeats 4000000
namespace Ago
open Go (IntKind)
def encNR (r:List Prt × Int):AV:=.tup [encNS r.1,.int .i64 r.2]
def allPrt:Prt:=⟨⟨false,⟨false,[],0⟩,false⟩,⟨false,⟨false,[],0⟩,false⟩,0⟩
theorem AllI_run:PRun CN 683 [] (encNS [allPrt]):=by
 refine prun_of ac683 rfl ?_
 (repeat' first|simp (disch:=omega) only[go_sem,ac683,enter]|(apply spl<;>intro h<;>try simp (disch:=omega) only[go_sem,ac683,enter,h]))
 all_goals rfl
end Ago
