/- Layers 1 and 2 of the references: numerals and decimals. -/
import Derived.Test.YtglenpfcanlbgaaGreatDoorPCodeZ
import Derived.Test.YtglenpfcanlbgaaGreatDoorPMachE
set_option linter.unusedSimpArgs false
set_option linter.unusedVariables false
set_option maxRecDepth 100000
namespace Ago
def digit (b:UInt8):Bool:=decide (48≤b.toNat∧b.toNat≤57)
def digits (s:List UInt8):Bool:=s.all digit
theorem take_succ_all {α:Type} {s:List α} {k:Nat} {c:α} {p:α→Bool} (hc:s[k]?=some c) (h:(s.take k).all p=true) (hp:p c=true):(s.take (k+1)).all p=true:=by
 rw[List.take_add_one,hc]
 simp_all
theorem not_all {α:Type} {s:List α} {k:Nat} {c:α} {p:α→Bool} (hc:s[k]?=some c) (hp:p c=false):s.all p=false:=by
 rw[List.all_eq_false]
 exact ⟨c,List.mem_of_getElem? hc,by simp [hp]⟩
theorem get_some {α:Type} {s:List α} {k:Nat} (h:k<s.length) : ∃ c,s[k]?=some c:=⟨_,List.getElem?_eq_getElem h⟩

theorem digits_run (s:List UInt8) (hs:s.length<2^31):PRun C0 82 [.str s] (.bool (digits s)):=by
 refine prun_of ac82 rfl ?_
 simp (disch:=omega) only[go_sem,ac82,enter]
 refine loop_of (α:=Nat) (fun k=>{ tmps:=slots 20 [(0,.str s),(3,.int .i64 k)],heap:=[],base:=0 }) (fun k=>k≤s.length∧(s.take k).all digit=true) (fun k=>s.length-k) 0 rfl ⟨Nat.zero_le _,rfl⟩ ?_
 rintro k ⟨hk,hd⟩
 by_cases hlt:k<s.length
 ·obtain ⟨c,hc⟩:=get_some hlt
  (repeat' first|simp (disch:=omega) only[go_sem,hc]|(apply spl<;>intro h<;>try simp (disch:=omega) only[go_sem,hc,h]))
  ·rw[digits,not_all hc (by simp [digit]; omega)]
  ·exact ⟨k+1,rfl,⟨hlt,take_succ_all hc hd (by simp [digit]; omega)⟩,by omega⟩
  ·rw[digits,not_all hc (by simp [digit]; omega)]
 ·(repeat' first|simp (disch:=omega) only[go_sem]|(apply spl<;>intro h<;>try simp (disch:=omega) only[go_sem,h]))
  have:k=s.length:=by omega
  subst this
  simpa [digits] using hd

def numeral (s:List UInt8):Bool:=decide (s.length≤600) && digits s && decide (s[0]?≠some 48)

theorem zero48 (c:UInt8):(c.toNat:Int)=48↔c=48:=by
 constructor
 ·intro h
  have:c.toNat=48:=by omega
  exact UInt8.toNat_inj.1 this
 ·rintro rfl; rfl

theorem e00:(0:Int).toNat=0:=(rfl)
theorem valid01_run (s:List UInt8) (hs:s.length<2^31):PRun C0 59 [.str s] (.bool (numeral s)):=by
 refine prun_of ac59 rfl ?_
 by_cases h0:s.length=0
 ·have hn:s=[]:=List.eq_nil_of_length_eq_zero h0
  (repeat' first|simp (disch:=omega) only[go_sem,ac59,enter,h0]|refine pure_of _ (digits_run _ hs) ?_|(apply spl<;>intro h<;>try simp (disch:=omega) only[go_sem,ac59,enter,h0 ,h]))
  all_goals simp_all [numeral]
 ·obtain ⟨c,hc⟩:=get_some (s:=s) (k:=0) (by omega)
  (repeat' first|simp (disch:=omega) only[go_sem,ac59,enter,hc,e00]|refine pure_of _ (digits_run _ hs) ?_|(apply spl<;>intro h<;>try simp (disch:=omega) only[go_sem,ac59,enter,hc,e00 ,h]))
  all_goals simp_all [numeral,bne,zero48,bne_dec,beq_dec]
  all_goals omega

def encB (l:List UInt8):List AV:=l.map fun c=>.int .u8 c.toNat
theorem omap_encB : ∀ l,omap byteOf (encB l)=some l
 | []=>rfl
 | c::l=>by simp [encB,omap,byteOf] at *; have:=omap_encB l; simp [encB] at this; simp [this]

def zeros (s:List UInt8):Nat:=(s.reverse.takeWhile (· == 48)).length

theorem zeros_run (s:List UInt8) (hs:s.length<2^31):PRun C0 90 [.str s] (.int .i64 (zeros s)):=by
 refine prun_of ac90 rfl ?_
 simp (disch:=omega) only[go_sem,ac90,enter]
 refine loop_of (α:=Nat) (fun k=>{ tmps:=slots 21 [(0,.str s),(3,.int .i64 k)],heap:=[],base:=0 }) (fun k=>k≤s.length∧(s.reverse.take k).all (· == 48)=true) (fun k=>s.length-k) 0 rfl ⟨Nat.zero_le _,rfl⟩ ?_
 rintro k ⟨hk,hd⟩
 have fin:(k<s.length→∃ c,s.reverse[k]?=some c∧c≠48)→zeros s=k:=fun h=>by
  unfold zeros
  have key : ∀ (l:List UInt8) (k:Nat),(l.take k).all (· == 48)=true→(k<l.length→∃ c,l[k]?=some c∧c≠48)→k≤l.length→(l.takeWhile (· == 48)).length=k:=by
   intro l
   induction l with
   | nil=>intro k _ _ hk; simp at hk; simp [hk]
   | cons x l ih=>
    intro k h1 h2 h3
    cases k with
    | zero=>
     obtain ⟨c,h4,h5⟩:=h2 (by simp)
     simp at h4
     subst h4
     rw[List.takeWhile_cons_of_neg (by simpa using h5)]
     rfl
    | succ k=>
     simp only[List.take_succ_cons,List.all_cons,Bool.and_eq_true] at h1
     rw[List.takeWhile_cons_of_pos (by simpa using h1.1)]
     simp only[List.length_cons,Nat.add_right_cancel_iff]
     exact ih k h1.2 (fun h=>by simpa using h2 (by simpa using h)) (by simpa using h3)
  exact key s.reverse k hd (fun h2=>h (by simpa using h2)) (by simpa using hk)
 by_cases hlt:k<s.length
 ·obtain ⟨c,hc⟩:=get_some (s:=s) (k:=s.length-1-k) (by omega)
  have e:((s.length:Int)-1-k).toNat=s.length-1-k:=by omega
  have hr:s.reverse[k]?=some c:=by rw[List.getElem?_reverse hlt,hc]
  (repeat' first|simp (disch:=omega) only[go_sem,e,hc]|(apply spl<;>intro h<;>try simp (disch:=omega) only[go_sem,e,hc,h]))
  ·refine ⟨k+1,rfl,⟨hlt,take_succ_all hr hd ?_⟩,by omega⟩
   simpa using (zero48 c).1 h
  ·rw[fin fun _=>⟨c,hr,fun e=>h ((zero48 c).2 e)⟩]
 ·(repeat' first|simp (disch:=omega) only[go_sem]|(apply spl<;>intro h<;>try simp (disch:=omega) only[go_sem,h]))
  rw[fin fun h=>absurd h hlt]

end Ago
set_option maxRecDepth 100000
namespace Ago
theorem take_len {α:Type} {s:List α} {k:Nat} (h : ¬ k<s.length) (h2:k≤s.length):s.take k=s:=List.take_of_length_le (by omega)

structure Dec where
 neg:Bool
 digits:List UInt8
 exp:Int
def encDec (d:Dec):AV:=.agg [.bool d.neg,.str d.digits,.int .i64 d.exp]

def decOk (d:Dec):Bool:=
 if d.digits=[] then !d.neg && d.exp == 0
 else decide (d.digits.length≤120) && numeral d.digits && decide (zeros d.digits=0) && decide (-400≤d.exp) && decide (d.exp≤400)

theorem decOk_run (d:Dec) (hs:d.digits.length<2^31):PRun C0 79 [encDec d] (.bool (decOk d)):=by
 refine prun_of ac79 rfl ?_
 obtain ⟨neg,ds,exp⟩:=d
 simp only[encDec] at *
 by_cases h0:ds=[]
 ·subst h0
  (repeat' first|simp (disch:=omega) only[go_sem,ac79,enter]|(apply spl<;>intro h<;>try simp (disch:=omega) only[go_sem,ac79,enter,h]))
  all_goals simp [decOk]
 ·have hb:(ds == ([]:List UInt8))=false:=by simp [h0]
  have hz:=zeros_run ds hs
  (repeat' first|simp (disch:=omega) only[go_sem,ac79,enter,hb]|refine pure_of _ (valid01_run _ hs) ?_|refine pure_of _ (hz) ?_|(apply spl<;>intro h<;>try simp (disch:=omega) only[go_sem,ac79,enter,hb ,h]))
  all_goals simp [decOk,h0]
  all_goals first | omega | (intros; omega) | (simp_all; done) | skip
  all_goals (have:(zeros ds:Int)=0↔zeros ds=0:=by omega)
  all_goals simp_all
  all_goals omega

end Ago
set_option maxRecDepth 100000
namespace Ago
open Go (IntKind)

structure Tm where
 kind:Int
 day:Int
 nano:Int
 off:Int
structure VS where
 kind:Int
 bool:Bool
 num:Dec
 time:Tm
 text:List UInt8
 bytes:List UInt8
inductive V where
 | mk (s:VS) (l:List V) (f:List (List UInt8 × V))

def V.s:V→VS | .mk s _ _=>s
def V.l:V→List V | .mk _ l _=>l
def V.f:V→List (List UInt8 × V) | .mk _ _ f=>f

mutual
def encV:V→AV
 | .mk s l f=>.agg [.int .i64 s.kind,.bool s.bool,.bool s.num.neg,.str s.num.digits,.int .i64 s.num.exp,.int .i64 s.time.kind,.int .i64 s.time.day,.int .i64 s.time.nano,.int .i64 s.time.off,.str s.text,.tsl 1 (encB s.bytes),.tsl 13 (encL l),.tsl 14 (encF f)]
def encL:List V→List AV
 | []=>[]
 | v::l=>encV v::encL l
def encF:List (List UInt8 × V)→List AV
 | []=>[]
 | (k,v)::f=>.agg (.str k::(encV v).cells)::encF f
end

theorem encL_map : ∀ l,encL l=l.map encV
 | []=>by simp [encL]
 | v::l=>by simp [encL,encL_map l]
def encFd (x:List UInt8 × V):AV:=.agg (.str x.1::(encV x.2).cells)
theorem encF_map : ∀ l,encF l=l.map encFd
 | []=>by simp [encF]
 | (k,v)::l=>by simp [encF,encF_map l,encFd]
theorem encV_eq (v:V):encV v = .agg [.int .i64 v.s.kind,.bool v.s.bool,.bool v.s.num.neg,.str v.s.num.digits,.int .i64 v.s.num.exp,.int .i64 v.s.time.kind,.int .i64 v.s.time.day,.int .i64 v.s.time.nano,.int .i64 v.s.time.off,.str v.s.text,.tsl 1 (encB v.s.bytes),.tsl 13 (v.l.map encV),.tsl 14 (v.f.map encFd)]:=by
 cases v with
 | mk s l f=>simp [encV,V.s,V.l,V.f,encL_map,encF_map]
theorem encFd_eq (x:List UInt8 × V):encFd x = .agg [.str x.1,.int .i64 x.2.s.kind,.bool x.2.s.bool,.bool x.2.s.num.neg,.str x.2.s.num.digits,.int .i64 x.2.s.num.exp,.int .i64 x.2.s.time.kind,.int .i64 x.2.s.time.day,.int .i64 x.2.s.time.nano,.int .i64 x.2.s.time.off,.str x.2.s.text,.tsl 1 (encB x.2.s.bytes),.tsl 13 (x.2.l.map encV),.tsl 14 (x.2.f.map encFd)]:=by
 unfold encFd
 rw[encV_eq]
 rfl

def V.bulk (v:V):Nat:=(encV v).bulk
theorem bulks_mem : ∀ {l:List AV} {x:AV},x∈l→x.bulk≤AV.bulks l
 | [],x,h=>by cases h
 | y::l,x,h=>by
  rcases List.mem_cons.1 h with rfl | h
  ·simp [AV.bulks]
  ·have:=bulks_mem h; simp [AV.bulks]; omega
theorem bulks_len : ∀ (l:List AV),l.length≤AV.bulks l
 | []=>by simp [AV.bulks]
 | x::l=>by have:=bulks_len l; have:=bulk_one x; simp [AV.bulks]; omega
theorem V.bulk_eq (v:V):v.bulk=v.s.num.digits.length+v.s.text.length+AV.bulks (encB v.s.bytes)+AV.bulks (v.l.map encV)+AV.bulks (v.f.map encFd)+14:=by
 unfold V.bulk
 rw[encV_eq]
 simp [AV.bulk,AV.bulks]
 omega
theorem encB_len (l:List UInt8):(encB l).length=l.length:=by simp [encB]

structure V.Lens (v:V) (N:Nat):Prop where
 digits:v.s.num.digits.length<N
 text:v.s.text.length<N
 bytes:v.s.bytes.length<N
 list:v.l.length<N
 fields:v.f.length<N
 kids : ∀ x,x∈v.l→x.bulk<v.bulk
 fkids : ∀ x,x∈v.f→x.2.bulk<v.bulk∧x.1.length<N
theorem V.lens {v:V} {N:Nat} (h:v.bulk≤N):v.Lens N:=by
 have e:=v.bulk_eq
 have h1:=bulks_len (encB v.s.bytes)
 have h2:=bulks_len (v.l.map encV)
 have h3:=bulks_len (v.f.map encFd)
 rw[encB_len] at h1
 rw[List.length_map] at h2 h3
 refine ⟨by omega,by omega,by omega,by omega,by omega,fun x hx=>?_,fun x hx=>?_⟩
 ·have:=bulks_mem (List.mem_map_of_mem (f:=encV) hx)
  show (encV x).bulk<_
  omega
 ·have:=bulks_mem (List.mem_map_of_mem (f:=encFd) hx)
  have e2:(encFd x).bulk=x.2.bulk+x.1.length+1:=by
   unfold V.bulk encFd
   rw[encV_eq]
   simp [AV.bulk,AV.bulks,AV.cells]
   omega
  omega
def outSl (n b:Nat):List AV→AV
 | []=>.snil n
 | x::l=>.sref n b 0 (l.length+1)
def outHp (n b:Nat):List AV→Heap
 | []=>[]
 | x::l=>[.row n (x::l) false true b]
theorem map_get {α β:Type} {g:α→β} {l:List α} {k:Nat} {x:α} (h:l[k]?=some x):(l.map g)[k]?=some (g x):=by rw[List.getElem?_map,h]; rfl
end Ago
set_option maxRecDepth 100000
set_option maxHeartbeats 4000000
namespace Ago
open Go (IntKind)

structure PS where
 op:Int
 lo:Int
 hi:Int
 min:Int
 max:Int
inductive Pat where
 | mk (s:PS) (a:List Pat)
def Pat.s:Pat→PS | .mk s _=>s
def Pat.a:Pat→List Pat | .mk _ a=>a
mutual
def encPat:Pat→AV
 | .mk s a=>.agg [.int .i64 s.op,.int .i64 s.lo,.int .i64 s.hi,.int .i64 s.min,.int .i64 s.max,.tsl 6 (encPatL a)]
def encPatL:List Pat→List AV
 | []=>[]
 | p::l=>encPat p::encPatL l
end
theorem encPatL_map : ∀ l,encPatL l=l.map encPat
 | []=>by simp [encPatL]
 | v::l=>by simp [encPatL,encPatL_map l]
theorem encPat_eq (p:Pat):encPat p = .agg [.int .i64 p.s.op,.int .i64 p.s.lo,.int .i64 p.s.hi,.int .i64 p.s.min,.int .i64 p.s.max,.tsl 6 (p.a.map encPat)]:=by
 cases p with
 | mk s l=>simp [encPat,Pat.s,Pat.a,encPatL_map]
def Pat.bulk (p:Pat):Nat:=(encPat p).bulk
theorem Pat.bulk_eq (p:Pat):p.bulk=AV.bulks (p.a.map encPat)+7:=by
 unfold Pat.bulk
 rw[encPat_eq]
 simp [AV.bulk,AV.bulks]
 omega
structure Pat.Lens (p:Pat) (N:Nat):Prop where
 args:p.a.length<N
 kids : ∀ x,x∈p.a→x.bulk<p.bulk
theorem Pat.lens {p:Pat} {N:Nat} (h:p.bulk≤N):p.Lens N:=by
 have e:=p.bulk_eq
 have h2:=bulks_len (p.a.map encPat)
 rw[List.length_map] at h2
 refine ⟨by omega,fun x hx=>?_⟩
 have:=bulks_mem (List.mem_map_of_mem (f:=encPat) hx)
 show (encPat x).bulk<_
 omega

structure Bnd where
 set:Bool
 num:Dec
 opn:Bool
structure Prt where
 lo:Bnd
 hi:Bnd
 sort:Int
def encPrt (p:Prt):AV:=.agg [.bool p.lo.set,.bool p.lo.num.neg,.str p.lo.num.digits,.int .i64 p.lo.num.exp,.bool p.lo.opn,.bool p.hi.set,.bool p.hi.num.neg,.str p.hi.num.digits,.int .i64 p.hi.num.exp,.bool p.hi.opn,.int .i64 p.sort]
def encBnd (b:Bnd):AV:=.agg [.bool b.set,.bool b.num.neg,.str b.num.digits,.int .i64 b.num.exp,.bool b.opn]
def encNS (l:List Prt):AV:=.agg [.tsl 11 (l.map encPrt)]
theorem encPrt_bulk (p:Prt):(encPrt p).bulk=p.lo.num.digits.length+p.hi.num.digits.length+12:=by
 simp [encPrt,AV.bulk,AV.bulks]
 omega

structure SS where
 op:Int
 mask:Int
 min:Int
 max:Int
 name:List UInt8
 parts:List Prt
 pat:Pat
 vals:List V
structure PK where
 key:List UInt8
 req:Bool
inductive Sch where
 | mk (s:SS) (p:List (PK × Sch)) (a:List Sch)
def Sch.s:Sch→SS | .mk s _ _=>s
def Sch.p:Sch→List (PK × Sch) | .mk _ p _=>p
def Sch.a:Sch→List Sch | .mk _ _ a=>a
def SS.cells (s:SS):List AV:=[.int .i64 s.op,.int .i64 s.mask,.int .i64 s.min,.int .i64 s.max,.str s.name,.tsl 11 (s.parts.map encPrt),.int .i64 s.pat.s.op,.int .i64 s.pat.s.lo,.int .i64 s.pat.s.hi,.int .i64 s.pat.s.min,.int .i64 s.pat.s.max,.tsl 6 (s.pat.a.map encPat),.tsl 13 (s.vals.map encV)]
mutual
def encSch:Sch→AV
 | .mk s p a=>.agg (s.cells++[.tsl 17 (encSchP p),.tsl 15 (encSchL a)])
def encSchL:List Sch→List AV
 | []=>[]
 | v::l=>encSch v::encSchL l
def encSchP:List (PK × Sch)→List AV
 | []=>[]
 | (k,v)::f=>.agg (.str k.key :: .bool k.req::(encSch v).cells)::encSchP f
end
theorem encSchL_map : ∀ l,encSchL l=l.map encSch
 | []=>by simp [encSchL]
 | v::l=>by simp [encSchL,encSchL_map l]
def encPr (x:PK × Sch):AV:=.agg (.str x.1.key :: .bool x.1.req::(encSch x.2).cells)
theorem encSchP_map : ∀ l,encSchP l=l.map encPr
 | []=>by simp [encSchP]
 | (k,v)::l=>by simp [encSchP,encSchP_map l,encPr]
theorem encSch_eq (v:Sch):encSch v = .agg [.int .i64 v.s.op,.int .i64 v.s.mask,.int .i64 v.s.min,.int .i64 v.s.max,.str v.s.name,.tsl 11 (v.s.parts.map encPrt),.int .i64 v.s.pat.s.op,.int .i64 v.s.pat.s.lo,.int .i64 v.s.pat.s.hi,.int .i64 v.s.pat.s.min,.int .i64 v.s.pat.s.max,.tsl 6 (v.s.pat.a.map encPat),.tsl 13 (v.s.vals.map encV),.tsl 17 (v.p.map encPr),.tsl 15 (v.a.map encSch)]:=by
 cases v with
 | mk s p a=>simp [encSch,Sch.s,Sch.p,Sch.a,encSchL_map,encSchP_map,SS.cells]
theorem encPr_eq (x:PK × Sch):encPr x = .agg [.str x.1.key,.bool x.1.req,.int .i64 x.2.s.op,.int .i64 x.2.s.mask,.int .i64 x.2.s.min,.int .i64 x.2.s.max,.str x.2.s.name,.tsl 11 (x.2.s.parts.map encPrt),.int .i64 x.2.s.pat.s.op,.int .i64 x.2.s.pat.s.lo,.int .i64 x.2.s.pat.s.hi,.int .i64 x.2.s.pat.s.min,.int .i64 x.2.s.pat.s.max,.tsl 6 (x.2.s.pat.a.map encPat),.tsl 13 (x.2.s.vals.map encV),.tsl 17 (x.2.p.map encPr),.tsl 15 (x.2.a.map encSch)]:=by
 show AV.agg (.str x.1.key :: .bool x.1.req::(encSch x.2).cells)=_
 rw[encSch_eq]
 simp only[AV.cells]
def Sch.bulk (v:Sch):Nat:=(encSch v).bulk
theorem Sch.bulk_eq (v:Sch):v.bulk=v.s.name.length+AV.bulks (v.s.parts.map encPrt)+AV.bulks (v.s.pat.a.map encPat)+AV.bulks (v.s.vals.map encV)+AV.bulks (v.p.map encPr)+AV.bulks (v.a.map encSch)+16:=by
 unfold Sch.bulk
 rw[encSch_eq]
 simp [AV.bulk,AV.bulks]
 omega
structure Sch.Lens (v:Sch) (N:Nat):Prop where
 name:v.s.name.length<N
 parts:v.s.parts.length<N
 part : ∀ x,x∈v.s.parts→x.lo.num.digits.length<N∧x.hi.num.digits.length<N
 pat:v.s.pat.bulk<v.bulk
 vals:v.s.vals.length<N
 val : ∀ x,x∈v.s.vals→x.bulk<v.bulk
 props:v.p.length<N
 args:v.a.length<N
 kids : ∀ x,x∈v.a→x.bulk<v.bulk
 pkids : ∀ x,x∈v.p→x.2.bulk<v.bulk∧x.1.key.length<N
theorem Sch.lens {v:Sch} {N:Nat} (h:v.bulk≤N):v.Lens N:=by
 have e:=v.bulk_eq
 have h1:=bulks_len (v.s.parts.map encPrt)
 have h2:=bulks_len (v.s.vals.map encV)
 have h3:=bulks_len (v.p.map encPr)
 have h4:=bulks_len (v.a.map encSch)
 have h5:=v.s.pat.bulk_eq
 rw[List.length_map] at h1 h2 h3 h4
 refine ⟨by omega,by omega,fun x hx=>?_,by omega,by omega,fun x hx=>?_,by omega,by omega,fun x hx=>?_,fun x hx=>?_⟩
 ·have:=bulks_mem (List.mem_map_of_mem (f:=encPrt) hx)
  rw[encPrt_bulk] at this
  omega
 ·have:=bulks_mem (List.mem_map_of_mem (f:=encV) hx)
  show (encV x).bulk<_
  omega
 ·have:=bulks_mem (List.mem_map_of_mem (f:=encSch) hx)
  show (encSch x).bulk<_
  omega
 ·have:=bulks_mem (List.mem_map_of_mem (f:=encPr) hx)
  have e2:(encPr x).bulk=x.2.bulk+x.1.key.length+2:=by
   unfold Sch.bulk encPr
   rw[encSch_eq]
   simp [AV.bulk,AV.bulks,AV.cells]
   omega
  omega
def encDef (x:List UInt8 × Sch):AV:=.agg (.str x.1::(encSch x.2).cells)
theorem encDef_eq (x:List UInt8 × Sch):encDef x = .agg [.str x.1,.int .i64 x.2.s.op,.int .i64 x.2.s.mask,.int .i64 x.2.s.min,.int .i64 x.2.s.max,.str x.2.s.name,.tsl 11 (x.2.s.parts.map encPrt),.int .i64 x.2.s.pat.s.op,.int .i64 x.2.s.pat.s.lo,.int .i64 x.2.s.pat.s.hi,.int .i64 x.2.s.pat.s.min,.int .i64 x.2.s.pat.s.max,.tsl 6 (x.2.s.pat.a.map encPat),.tsl 13 (x.2.s.vals.map encV),.tsl 17 (x.2.p.map encPr),.tsl 15 (x.2.a.map encSch)]:=by
 show AV.agg (.str x.1::(encSch x.2).cells)=_
 rw[encSch_eq]
 simp only[AV.cells]
theorem encDef_bulk (x:List UInt8 × Sch):(encDef x).bulk=x.1.length+x.2.bulk+1:=by
 unfold Sch.bulk encDef
 rw[encSch_eq]
 simp [AV.bulk,AV.bulks,AV.cells]
 omega
structure Schs where
 defs:List (List UInt8 × Sch)
 root:Sch
def encSchs (s:Schs):AV:=.agg (.tsl 16 (s.defs.map encDef)::(encSch s.root).cells)
theorem encSchs_eq (s:Schs):encSchs s = .agg [.tsl 16 (s.defs.map encDef),.int .i64 s.root.s.op,.int .i64 s.root.s.mask,.int .i64 s.root.s.min,.int .i64 s.root.s.max,.str s.root.s.name,.tsl 11 (s.root.s.parts.map encPrt),.int .i64 s.root.s.pat.s.op,.int .i64 s.root.s.pat.s.lo,.int .i64 s.root.s.pat.s.hi,.int .i64 s.root.s.pat.s.min,.int .i64 s.root.s.pat.s.max,.tsl 6 (s.root.s.pat.a.map encPat),.tsl 13 (s.root.s.vals.map encV),.tsl 17 (s.root.p.map encPr),.tsl 15 (s.root.a.map encSch)]:=by
 unfold encSchs
 rw[encSch_eq]
 simp only[AV.cells]
def Schs.bulk (s:Schs):Nat:=(encSchs s).bulk
theorem Schs.bulk_eq (s:Schs):s.bulk=AV.bulks (s.defs.map encDef)+s.root.bulk+1:=by
 unfold Schs.bulk Sch.bulk encSchs
 rw[encSch_eq]
 simp [AV.bulk,AV.bulks,AV.cells]
 omega
def Sch.kids (v:Sch):List Sch:=v.p.map (·.2)++v.a
theorem Sch.kids_bulk {v:Sch} {x:Sch} (h:x∈v.kids):x.bulk<v.bulk:=by
 have L:=Sch.lens (Nat.le_refl v.bulk)
 unfold Sch.kids at h
 rcases List.mem_append.1 h with h | h
 ·obtain ⟨y,hy,rfl⟩:=List.mem_map.1 h
  exact (L.pkids y hy).1
 ·exact L.kids x h
theorem Sch.kids_sum (v:Sch):AV.bulks (v.kids.map encSch)+v.p.length+v.p.length≤AV.bulks (v.p.map encPr)+AV.bulks (v.a.map encSch):=by
 unfold Sch.kids
 rw[List.map_append,bulks_append]
 have : ∀ l:List (PK × Sch),AV.bulks ((l.map (·.2)).map encSch)+l.length+l.length≤AV.bulks (l.map encPr):=by
  intro l
  induction l with
  | nil=>simp [AV.bulks]
  | cons x l ih=>
   have e2:(encPr x).bulk=x.2.bulk+x.1.key.length+2:=by
    unfold Sch.bulk encPr
    rw[encSch_eq]
    simp [AV.bulk,AV.bulks,AV.cells]
    omega
   simp only[List.map_cons,AV.bulks,List.length_cons]
   have:(encSch x.2).bulk=x.2.bulk:=rfl
   omega
 have:=this v.p
 omega
theorem dropS {α:Type} {l:List α} {k:Nat} {x:α} (hx:l[k]?=some x):l.drop k=x::l.drop (k+1):=by
 obtain ⟨h3,h4⟩:=List.getElem?_eq_some_iff.1 hx
 rw[List.drop_eq_getElem_cons h3,h4]
end Ago
set_option maxRecDepth 100000
set_option maxHeartbeats 4000000
namespace Ago
open Go (IntKind)
structure Stp where
 byIndex:Bool
 key:List UInt8
 index:Int
 deriving DecidableEq
end Ago
set_option maxRecDepth 100000
set_option maxHeartbeats 4000000
namespace Ago
open Go (IntKind)

def PostR (base:Nat) (res:List ResV) (v:AV) (H':Heap) (e:Ex) (s:St):Prop:=(e = .normal∨e = .ret)∧∃ u,results res s=some u∧(tidy base u s.heap).tmps.getD 0 .dead=v∧(tidy base u s.heap).heap=H'
theorem postR_of {base:Nat} {res:List ResV} {v:AV} {H':Heap} {e:Ex} {s:St} (he:e = .normal∨e = .ret) (u:AV) (h1:results res s=some u) (h2:(tidy base u s.heap).tmps.getD 0 .dead=v) (h3:(tidy base u s.heap).heap=H'):PostR base res v H' e s:=⟨he,u,h1,h2,h3⟩
theorem runR_of {C:Ctx} {f:Nat} (fn:AFn) {args:List AV} {H:Heap} {v:AV} {H':Heap} (hf:C.code f=some fn) (h : @withStI (enter fn args H) ⟨aw (RunOf C) (PRun C) fn.body (PostR H.length fn.res v H')⟩):RunOf C f args H v H':=by
 unfold withStI at h
 exact run_of_aw hf h




end Ago
namespace Ago
def Blk.refam (g:Nat→Nat):Blk→Blk
 | .row n els ro fl fam=>.row n els ro fl (g fam)
 | b=>b
def Blk.isRo:Blk→Bool
 | .row _ _ ro _ _=>ro
 | _=>false
def Calm (b:Blk):Prop:=b.refs=[]∧(∀ f g,Blk.ren f g b=Blk.refam g b)∧b.isRo=false
def Calms (H:Heap):Prop:=∀ b,b∈H→Calm b
theorem Calms.nil:Calms []:=fun b h=>by cases h
theorem Calms.cons {b:Blk} {H:Heap} (h1:Calm b) (h2:Calms H):Calms (b::H):=fun x h=>by
 rcases List.mem_cons.1 h with rfl | h
 ·exact h1
 ·exact h2 x h
end Ago
set_option maxRecDepth 100000
set_option maxHeartbeats 4000000
namespace Ago
open Go (IntKind)

theorem ofInt64 {a:Int} (h0:0≤a) (h:a<9223372036854775808):(BitVec.ofInt (IntKind.bits .i64) a).toNat=a.toNat:=by
 obtain ⟨n,rfl⟩ : ∃ n:Nat,a=n:=⟨a.toNat,by omega⟩
 have e:IntKind.bits .i64=64:=rfl
 rw[e,BitVec.toNat_ofInt]
 simp only[Int.toNat_natCast]
 omega
theorem and_gen {a m:Int} {k:Nat} (h0:0≤a) (h:a<9223372036854775808) (hm:m=2^k-1) (hk:k<60):IntKind.wrap .i64 ((BitVec.ofInt (IntKind.bits .i64) a &&& BitVec.ofInt (IntKind.bits .i64) m).toNat:Int)=a % 2^k:=by
 have hp:(2:Nat)^k<2^60:=Nat.pow_lt_pow_right (by omega) hk
 have hp0:0<(2:Nat)^k:=Nat.pow_pos (by omega)
 have hmn:m=((2^k-1:Nat):Int):=by
  rw[hm]
  have:((2^k:Nat):Int)=(2:Int)^k:=by simp
  omega
 obtain ⟨n,rfl⟩ : ∃ n:Nat,a=n:=⟨a.toNat,by omega⟩
 rw[BitVec.toNat_and,ofInt64 h0 h,ofInt64 (by omega) (by omega),hmn]
 simp only[Int.toNat_natCast]
 rw[Nat.and_two_pow_sub_one_eq_mod]
 have hlt:n % 2^k<2^k:=Nat.mod_lt _ hp0
 rw[w64 (by omega) (by omega)]
 simp
theorem and7 {a:Int} (h0:0≤a) (h:a<9223372036854775808):IntKind.wrap .i64 ((BitVec.ofInt (IntKind.bits .i64) a &&& BitVec.ofInt (IntKind.bits .i64) 7).toNat:Int)=a % 8:=and_gen (k:=3) h0 h rfl (by omega)
theorem and15 {a:Int} (h0:0≤a) (h:a<9223372036854775808):IntKind.wrap .i64 ((BitVec.ofInt (IntKind.bits .i64) a &&& BitVec.ofInt (IntKind.bits .i64) 15).toNat:Int)=a % 16:=and_gen (k:=4) h0 h rfl (by omega)
theorem and31 {a:Int} (h0:0≤a) (h:a<9223372036854775808):IntKind.wrap .i64 ((BitVec.ofInt (IntKind.bits .i64) a &&& BitVec.ofInt (IntKind.bits .i64) 31).toNat:Int)=a % 32:=and_gen (k:=5) h0 h rfl (by omega)
theorem and63 {a:Int} (h0:0≤a) (h:a<9223372036854775808):IntKind.wrap .i64 ((BitVec.ofInt (IntKind.bits .i64) a &&& BitVec.ofInt (IntKind.bits .i64) 63).toNat:Int)=a % 64:=and_gen (k:=6) h0 h rfl (by omega)
theorem or_gen {x y:Int} (k:Nat) (hx:0≤x) (hk:k<60) (hy:0≤y) (hyk:y<2^k) (hb:x * 2^k<4611686018427387904):IntKind.wrap .i64 ((BitVec.ofInt (IntKind.bits .i64) (x * 2^k) ||| BitVec.ofInt (IntKind.bits .i64) y).toNat:Int)=x * 2^k+y:=by
 have hp:(2:Nat)^k<2^60:=Nat.pow_lt_pow_right (by omega) hk
 have hpi:((2^k:Nat):Int)=(2:Int)^k:=by simp
 obtain ⟨n,rfl⟩ : ∃ n:Nat,x=n:=⟨x.toNat,by omega⟩
 obtain ⟨m,rfl⟩ : ∃ m:Nat,y=m:=⟨y.toNat,by omega⟩
 rw[←hpi] at hyk hb ⊢
 have hm:m<2^k:=by omega
 have hcast:(n:Int) * ((2^k:Nat):Int)=((n * 2^k:Nat):Int):=by simp
 rw[hcast] at hb ⊢
 rw[BitVec.toNat_or,ofInt64 (by omega) (by omega),ofInt64 (by omega) (by omega)]
 simp only[Int.toNat_natCast]
 rw[Nat.mul_comm n,←Nat.two_pow_add_eq_or_of_lt hm]
 rw[Nat.mul_comm n] at hb
 rw[w64 (by omega) (by omega)]
 simp
theorem or64 {x y:Int} (hx:0≤x) (hx2:x<72057594037927936) (hy:0≤y) (hyk:y<64):IntKind.wrap .i64 ((BitVec.ofInt (IntKind.bits .i64) (x * 64) ||| BitVec.ofInt (IntKind.bits .i64) y).toNat:Int)=x * 64+y:=or_gen 6 hx (by omega) hy hyk (by omega)
theorem or128 {y:Int} (hy:0≤y) (hyk:y<128):IntKind.wrap .i64 ((BitVec.ofInt (IntKind.bits .i64) 128 ||| BitVec.ofInt (IntKind.bits .i64) y).toNat:Int)=128+y:=or_gen (x:=1) 7 (by omega) (by omega) hy hyk (by omega)
theorem or192 {y:Int} (hy:0≤y) (hyk:y<64):IntKind.wrap .i64 ((BitVec.ofInt (IntKind.bits .i64) 192 ||| BitVec.ofInt (IntKind.bits .i64) y).toNat:Int)=192+y:=or_gen (x:=3) 6 (by omega) (by omega) hy hyk (by omega)
theorem or224 {y:Int} (hy:0≤y) (hyk:y<32):IntKind.wrap .i64 ((BitVec.ofInt (IntKind.bits .i64) 224 ||| BitVec.ofInt (IntKind.bits .i64) y).toNat:Int)=224+y:=or_gen (x:=7) 5 (by omega) (by omega) hy hyk (by omega)
theorem or240 {y:Int} (hy:0≤y) (hyk:y<16):IntKind.wrap .i64 ((BitVec.ofInt (IntKind.bits .i64) 240 ||| BitVec.ofInt (IntKind.bits .i64) y).toNat:Int)=240+y:=or_gen (x:=15) 4 (by omega) (by omega) hy hyk (by omega)
end Ago
set_option maxRecDepth 100000
set_option maxHeartbeats 4000000
namespace Ago
open Go (IntKind)
theorem byteOf_u8' (n:Int):byteOf (.int .u8 n)=some (UInt8.ofNat n.toNat):=(rfl)
def charM (r:Int):Bool:=decide (0≤r) && decide (r≤1114111) && (decide (r<55296) || decide (57343<r))
theorem character_run (r:Int):PRun C0 93 [.int .i64 r] (.bool (charM r)):=by
 refine prun_of ac93 rfl ?_
 unfold charM
 (repeat' first|simp (disch:=omega) only[go_sem,ac93,enter]|(apply spl<;>intro h<;>try simp (disch:=omega) only[go_sem,ac93,enter,h]))
 all_goals rfl
def ofI (n:Int):UInt8:=UInt8.ofNat n.toNat
def encM (r:Int):List UInt8 × Int:=
 if charM r=false then ([],2)
 else if r<128 then ([ofI r],0)
 else if r<2048 then ([ofI (192+r / 64),ofI (128+r % 64)],0)
 else if r<65536 then ([ofI (224+r / 4096),ofI (128+r / 64 % 64),ofI (128+r % 64)],0)
 else ([ofI (240+r / 262144),ofI (128+r / 4096 % 64),ofI (128+r / 64 % 64),ofI (128+r % 64)],0)
theorem pw6:(2:Int)^min 6 (IntKind.bits .i64)=64:=(rfl)
theorem pw12:(2:Int)^min 12 (IntKind.bits .i64)=4096:=(rfl)
theorem pw18:(2:Int)^min 18 (IntKind.bits .i64)=262144:=(rfl)
theorem fd64 (a:Int):Int.fdiv a 64=a / 64:=Int.fdiv_eq_ediv_of_nonneg a (by decide)
theorem fd4096 (a:Int):Int.fdiv a 4096=a / 4096:=Int.fdiv_eq_ediv_of_nonneg a (by decide)
theorem fd262144 (a:Int):Int.fdiv a 262144=a / 262144:=Int.fdiv_eq_ediv_of_nonneg a (by decide)
theorem charM_range {r:Int} (h:charM r=true):0≤r∧r≤1114111:=by
 unfold charM at h
 simp only[Bool.and_eq_true,decide_eq_true_eq] at h
 omega
theorem encode_run (r:Int):PRun C0 83 [.int .i64 r] (.tup [.str (encM r).1,.int .i64 (encM r).2]):=by
 have hc:=character_run r
 refine prun_of ac83 rfl ?_
 cases hb:charM r with
 | false=>
  rw[hb] at hc
  (repeat' first|simp (disch:=omega) only[go_sem,ac83,enter]|refine pure_of _ (hc) ?_|(apply spl<;>intro h<;>try simp (disch:=omega) only[go_sem,ac83,enter ,h]))
  all_goals simp [encM,hb]
 | true=>
  rw[hb] at hc
  obtain ⟨h0,h1⟩:=charM_range hb
  by_cases h2:r<128
  ·(repeat' first|simp (disch:=omega) only[go_sem,ac83,enter,byteOf_u8']|refine pure_of _ (hc) ?_|(apply spl<;>intro h<;>try simp (disch:=omega) only[go_sem,ac83,enter,byteOf_u8' ,h]))
   all_goals simp [encM,hb,h2,ofI]
  ·by_cases h3:r<2048
   ·(repeat' first|simp (disch:=omega) only[go_sem,ac83,enter,byteOf_u8',pw6,pw12,pw18,fd64,fd4096,fd262144,and63,or128,or192,or224,or240]|refine pure_of _ (hc) ?_|(apply spl<;>intro h<;>try simp (disch:=omega) only[go_sem,ac83,enter,byteOf_u8',pw6,pw12,pw18,fd64,fd4096,fd262144,and63,or128,or192,or224,or240 ,h]))
    all_goals simp [encM,hb,h2,h3,ofI]
   ·by_cases h4:r<65536
    ·(repeat' first|simp (disch:=omega) only[go_sem,ac83,enter,byteOf_u8',pw6,pw12,pw18,fd64,fd4096,fd262144,and63,or128,or192,or224,or240]|refine pure_of _ (hc) ?_|(apply spl<;>intro h<;>try simp (disch:=omega) only[go_sem,ac83,enter,byteOf_u8',pw6,pw12,pw18,fd64,fd4096,fd262144,and63,or128,or192,or224,or240 ,h]))
     all_goals simp [encM,hb,h2,h3,h4,ofI]
    ·(repeat' first|simp (disch:=omega) only[go_sem,ac83,enter,byteOf_u8',pw6,pw12,pw18,fd64,fd4096,fd262144,and63,or128,or192,or224,or240]|refine pure_of _ (hc) ?_|(apply spl<;>intro h<;>try simp (disch:=omega) only[go_sem,ac83,enter,byteOf_u8',pw6,pw12,pw18,fd64,fd4096,fd262144,and63,or128,or192,or224,or240 ,h]))
     all_goals simp [encM,hb,h2,h3,h4,ofI]


def contM (c:UInt8):Bool:=decide (128≤c.toNat) && decide (c.toNat<192)
def widM (r:Int):Nat:=if r<128 then 1 else if r<2048 then 2 else if r<65536 then 3 else 4
def decFin (r:Int) (n:Nat):Int × Int:=if charM r && widM r == n then (r,n) else (0,0)
def dec2 (b:UInt8):Option UInt8→Int × Int
 | some c=>if contM c then decFin ((b.toNat-192) * 64+(c.toNat-128)) 2 else (0,0)
 | none=>(0,0)
def dec3 (b:UInt8):Option UInt8→Option UInt8→Int × Int
 | some c,some d=>if contM c && contM d then decFin (((b.toNat-224) * 64+(c.toNat-128)) * 64+(d.toNat-128)) 3 else (0,0)
 | _,_=>(0,0)
def dec4 (b:UInt8):Option UInt8→Option UInt8→Option UInt8→Int × Int
 | some c,some d,some e=>if contM c && contM d && contM e then decFin ((((b.toNat-240) * 64+(c.toNat-128)) * 64+(d.toNat-128)) * 64+(e.toNat-128)) 4 else (0,0)
 | _,_,_=>(0,0)
def decB (s:List UInt8) (k:Nat) (b:UInt8):Int × Int:=
 if b.toNat<128 then (b.toNat,1)
 else if b.toNat<192 then (0,0)
 else if b.toNat<224 then dec2 b s[k+1]?
 else if b.toNat<240 then dec3 b s[k+1]? s[k+2]?
 else if b.toNat<248 then dec4 b s[k+1]? s[k+2]? s[k+3]?
 else (0,0)
def decM (s:List UInt8) (k:Nat):Int × Int:=
 match s[k]? with
 | some b=>decB s k b
 | none=>(0,0)

theorem drop_take1 {s:List UInt8} {k:Nat} {a:UInt8} (h1:s[k]?=some a):(s.take (k+1)).drop k=[a]:=by
 apply List.ext_getElem?
 intro i
 rw[List.getElem?_drop]
 match i with
 | 0=>rw[List.getElem?_take_of_lt (by omega)]; exact h1
 | i+1=>rw[List.getElem?_take_eq_none (by omega)]; rfl
theorem drop_take2 {s:List UInt8} {k:Nat} {a b:UInt8} (h1:s[k]?=some a) (h2:s[k+1]?=some b):(s.take (k+2)).drop k=[a,b]:=by
 apply List.ext_getElem?
 intro i
 rw[List.getElem?_drop]
 match i with
 | 0=>rw[List.getElem?_take_of_lt (by omega)]; exact h1
 | 1=>rw[List.getElem?_take_of_lt (by omega),h2]; rfl
 | i+2=>rw[List.getElem?_take_eq_none (by omega)]; rfl
theorem drop_take3 {s:List UInt8} {k:Nat} {a b c:UInt8} (h1:s[k]?=some a) (h2:s[k+1]?=some b) (h3:s[k+2]?=some c):(s.take (k+3)).drop k=[a,b,c]:=by
 apply List.ext_getElem?
 intro i
 rw[List.getElem?_drop]
 match i with
 | 0=>rw[List.getElem?_take_of_lt (by omega)]; exact h1
 | 1=>rw[List.getElem?_take_of_lt (by omega),h2]; rfl
 | 2=>rw[List.getElem?_take_of_lt (by omega),h3]; rfl
 | i+3=>rw[List.getElem?_take_eq_none (by omega)]; rfl
theorem drop_take4 {s:List UInt8} {k:Nat} {a b c d:UInt8} (h1:s[k]?=some a) (h2:s[k+1]?=some b) (h3:s[k+2]?=some c) (h4:s[k+3]?=some d):(s.take (k+4)).drop k=[a,b,c,d]:=by
 apply List.ext_getElem?
 intro i
 rw[List.getElem?_drop]
 match i with
 | 0=>rw[List.getElem?_take_of_lt (by omega)]; exact h1
 | 1=>rw[List.getElem?_take_of_lt (by omega),h2]; rfl
 | 2=>rw[List.getElem?_take_of_lt (by omega),h3]; rfl
 | 3=>rw[List.getElem?_take_of_lt (by omega),h4]; rfl
 | i+4=>rw[List.getElem?_take_eq_none (by omega)]; rfl

theorem ofI_eq {n:Int} {c:UInt8} (h0:0≤n) (h:n<256):ofI n=c↔n=c.toNat:=by
 unfold ofI
 constructor
 ·intro h1
  rw[←h1,UInt8.toNat_ofNat']
  omega
 ·intro h1
  rw[h1]
  simp

def refFin (r:Int) (l:List UInt8) (n:Nat):Int × Int:=if (encM r).2=0∧(encM r).1=l then (r,n) else (0,0)
theorem fin1 (b:UInt8):refFin b.toNat [b] 1=if b.toNat<128 then ((b.toNat:Int),1) else (0,0):=by
 have hb:=b.toNat_lt
 by_cases h:b.toNat<128
 ·have hc:charM b.toNat=true:=by unfold charM; simp; omega
  have h1:(b.toNat:Int)<128:=by omega
  have h2:ofI b.toNat=b:=(ofI_eq (by omega) (by omega)).2 rfl
  simp [refFin,encM,hc,h1,h,h2]
 ·have hc:charM b.toNat=true:=by unfold charM; simp; omega
  have h1 : ¬ (b.toNat:Int)<128:=by omega
  have h2:(b.toNat:Int)<2048:=by omega
  simp [refFin,encM,hc,h1,h,h2]
theorem dec2_some (b c:UInt8):dec2 b (some c)=if contM c=true then decFin ((b.toNat-192) * 64+(c.toNat-128)) 2 else (0,0):=rfl
theorem dec3_some (b c d:UInt8):dec3 b (some c) (some d)=if (contM c && contM d)=true then decFin (((b.toNat-224) * 64+(c.toNat-128)) * 64+(d.toNat-128)) 3 else (0,0):=rfl
theorem dec4_some (b c d e:UInt8):dec4 b (some c) (some d) (some e)=if (contM c && contM d && contM e)=true then decFin ((((b.toNat-240) * 64+(c.toNat-128)) * 64+(d.toNat-128)) * 64+(e.toNat-128)) 4 else (0,0):=rfl
theorem contM_iff {c:UInt8}:contM c=true↔128≤c.toNat∧c.toNat<192:=by unfold contM; simp
theorem fin2 {b c:UInt8} (hb:192≤b.toNat) (hb2:b.toNat<224):refFin ((b.toNat:Int) % 32 * 64+(c.toNat:Int) % 64) [b,c] 2=dec2 b (some c):=by
 have hc:=c.toNat_lt
 obtain ⟨r,hr⟩ : ∃ r:Int,r=(b.toNat:Int) % 32 * 64+(c.toNat:Int) % 64:=⟨_,rfl⟩
 rw[←hr]
 have hcm:charM r=true:=by unfold charM; simp; omega
 have e1:ofI (192+r / 64)=b:=(ofI_eq (by omega) (by omega)).2 (by omega)
 have e2:ofI (128+r % 64)=c↔contM c=true:=by rw[ofI_eq (by omega) (by omega),contM_iff]; omega
 rw[dec2_some]
 cases hcc:contM c with
 | true=>
  rw[hcc] at e2
  have hcc':=contM_iff.1 hcc
  have er:((b.toNat:Int)-192) * 64+((c.toNat:Int)-128)=r:=by omega
  rw[er]
  by_cases h1:r<128
  ·simp [refFin,encM,decFin,widM,hcm,h1]
  ·have h2:r<2048:=by omega
   simp [refFin,encM,decFin,widM,hcm,h1,h2,e1,e2]
 | false=>
  rw[hcc] at e2
  by_cases h1:r<128
  ·simp [refFin,encM,hcm,h1]
  ·have h2:r<2048:=by omega
   simp [refFin,encM,hcm,h1,h2,e1,e2]
theorem fin3 {b c d:UInt8} (hb:224≤b.toNat) (hb2:b.toNat<240):refFin (((b.toNat:Int) % 16 * 64+(c.toNat:Int) % 64) * 64+(d.toNat:Int) % 64) [b,c,d] 3=dec3 b (some c) (some d):=by
 have hc:=c.toNat_lt
 have hd:=d.toNat_lt
 obtain ⟨r,hr⟩ : ∃ r:Int,r=((b.toNat:Int) % 16 * 64+(c.toNat:Int) % 64) * 64+(d.toNat:Int) % 64:=⟨_,rfl⟩
 rw[←hr]
 have e1:ofI (224+r / 4096)=b:=(ofI_eq (by omega) (by omega)).2 (by omega)
 have e2:ofI (128+r / 64 % 64)=c↔contM c=true:=by rw[ofI_eq (by omega) (by omega),contM_iff]; omega
 have e3:ofI (128+r % 64)=d↔contM d=true:=by rw[ofI_eq (by omega) (by omega),contM_iff]; omega
 have h65:r<65536:=by omega
 have er:contM c=true→contM d=true→(((b.toNat:Int)-224) * 64+((c.toNat:Int)-128)) * 64+((d.toNat:Int)-128)=r:=fun h1 h2=>by
  have:=contM_iff.1 h1
  have:=contM_iff.1 h2
  omega
 rw[dec3_some]
 cases hcm:charM r with
 | false=>
  have e0:refFin r [b,c,d] 3=(0,0):=by simp [refFin,encM,hcm]
  rw[e0]
  split
  ·rename_i h
   simp only[Bool.and_eq_true] at h
   rw[er h.1 h.2]
   simp [decFin,hcm]
  ·rfl
 | true=>
  by_cases h1:r<128
  ·have e0:refFin r [b,c,d] 3=(0,0):=by simp [refFin,encM,hcm,h1]
   rw[e0]
   split
   ·rename_i h
    simp only[Bool.and_eq_true] at h
    rw[er h.1 h.2]
    simp [decFin,widM,h1]
   ·rfl
  ·by_cases h2:r<2048
   ·have e0:refFin r [b,c,d] 3=(0,0):=by simp [refFin,encM,hcm,h1,h2]
    rw[e0]
    split
    ·rename_i h
     simp only[Bool.and_eq_true] at h
     rw[er h.1 h.2]
     simp [decFin,widM,h1,h2]
    ·rfl
   ·split
    ·rename_i h
     simp only[Bool.and_eq_true] at h
     rw[er h.1 h.2]
     rw[h.1] at e2
     rw[h.2] at e3
     simp [refFin,encM,decFin,widM,hcm,h1,h2,h65,e1,e2,e3]
    ·rename_i h
     simp only[Bool.and_eq_true] at h
     have hne : ¬ (ofI (128+r / 64 % 64)=c∧ofI (128+r % 64)=d):=fun h3=>h ⟨e2.1 h3.1,e3.1 h3.2⟩
     simp only[refFin,encM,hcm,h1,h2,h65,if_true,if_false,e1,List.cons.injEq,true_and,and_true,Bool.true_eq_false,hne]
theorem fin4 {b c d e:UInt8} (hb:240≤b.toNat) (hb2:b.toNat<248):refFin ((((b.toNat:Int) % 8 * 64+(c.toNat:Int) % 64) * 64+(d.toNat:Int) % 64) * 64+(e.toNat:Int) % 64) [b,c,d,e] 4=dec4 b (some c) (some d) (some e):=by
 have hc:=c.toNat_lt
 have hd:=d.toNat_lt
 have he:=e.toNat_lt
 obtain ⟨r,hr⟩ : ∃ r:Int,r=(((b.toNat:Int) % 8 * 64+(c.toNat:Int) % 64) * 64+(d.toNat:Int) % 64) * 64+(e.toNat:Int) % 64:=⟨_,rfl⟩
 rw[←hr]
 have e1:ofI (240+r / 262144)=b:=(ofI_eq (by omega) (by omega)).2 (by omega)
 have e2:ofI (128+r / 4096 % 64)=c↔contM c=true:=by rw[ofI_eq (by omega) (by omega),contM_iff]; omega
 have e3:ofI (128+r / 64 % 64)=d↔contM d=true:=by rw[ofI_eq (by omega) (by omega),contM_iff]; omega
 have e4:ofI (128+r % 64)=e↔contM e=true:=by rw[ofI_eq (by omega) (by omega),contM_iff]; omega
 have er:contM c=true→contM d=true→contM e=true→((((b.toNat:Int)-240) * 64+((c.toNat:Int)-128)) * 64+((d.toNat:Int)-128)) * 64+((e.toNat:Int)-128)=r:=fun h1 h2 h3=>by
  have:=contM_iff.1 h1
  have:=contM_iff.1 h2
  have:=contM_iff.1 h3
  omega
 rw[dec4_some]
 cases hcm:charM r with
 | false=>
  have e0:refFin r [b,c,d,e] 4=(0,0):=by simp [refFin,encM,hcm]
  rw[e0]
  split
  ·rename_i h
   simp only[Bool.and_eq_true] at h
   rw[er h.1.1 h.1.2 h.2]
   simp [decFin,hcm]
  ·rfl
 | true=>
  by_cases h1:r<65536
  ·have e0:refFin r [b,c,d,e] 4=(0,0):=by
    by_cases h2:r<128
    ·simp [refFin,encM,hcm,h2]
    ·by_cases h3:r<2048
     ·simp [refFin,encM,hcm,h2,h3]
     ·simp [refFin,encM,hcm,h1,h2,h3]
   rw[e0]
   have hw : ¬ widM r=4:=by
    unfold widM
    split
    ·decide
    ·split
     ·decide
     ·decide
   split
   ·rename_i h
    simp only[Bool.and_eq_true] at h
    rw[er h.1.1 h.1.2 h.2]
    simp [decFin,hw]
   ·rfl
  ·have h2 : ¬ r<128:=by omega
   have h3 : ¬ r<2048:=by omega
   split
   ·rename_i h
    simp only[Bool.and_eq_true] at h
    rw[er h.1.1 h.1.2 h.2]
    rw[h.1.1] at e2
    rw[h.1.2] at e3
    rw[h.2] at e4
    simp [refFin,encM,decFin,widM,hcm,h1,h2,h3,e1,e2,e3,e4]
   ·rename_i h
    simp only[Bool.and_eq_true] at h
    have hne : ¬ (ofI (128+r / 4096 % 64)=c∧ofI (128+r / 64 % 64)=d∧ofI (128+r % 64)=e):=fun h4=>h ⟨⟨e2.1 h4.1,e3.1 h4.2.1⟩,e4.1 h4.2.2⟩
    simp only[refFin,encM,hcm,h1,h2,h3,if_true,if_false,e1,List.cons.injEq,true_and,and_true,Bool.true_eq_false,hne]
theorem fin5 {b c d e:UInt8} (hb:248≤b.toNat) (r:Int) (h0:0≤r) (h:r<2097152):refFin r [b,c,d,e] 4=(0,0):=by
 have e1:ofI (240+r / 262144)≠b:=fun e=>by
  rw[ofI_eq (by omega) (by omega)] at e
  omega
 have hne : ¬ ((encM r).2=0∧(encM r).1=[b,c,d,e]):=fun h2=>by
  unfold encM at h2
  split at h2
  ·exact absurd h2.1 (by decide)
  ·split at h2
   ·exact absurd h2.2 (by simp)
   ·split at h2
    ·exact absurd h2.2 (by simp)
    ·split at h2
     ·exact absurd h2.2 (by simp)
     ·have h3:=h2.2
      simp only[List.cons.injEq] at h3
      exact e1 h3.1
 unfold refFin
 rw[if_neg hne]
end Ago
set_option maxRecDepth 100000
set_option maxHeartbeats 4000000
namespace Ago
open Go (IntKind)
def pick4 (a b c d:Int) (i:Nat):Int:=if i=1 then a else if i=2 then b else if i=3 then c else d
theorem c1':((1:Nat):Int)=1:=rfl
theorem c2':((2:Nat):Int)=2:=rfl
theorem c3':((3:Nat):Int)=3:=rfl
theorem c4':((4:Nat):Int)=4:=rfl
theorem decode_run (s:List UInt8) (k:Nat) (hs:s.length<2^31) (hk:k<s.length):PRun C0 60 [.str s,.int .i64 k] (.tup [.int .i64 (decM s k).1,.int .i64 (decM s k).2]):=by
 obtain ⟨b,hb⟩:=get_some hk
 have hbt:=b.toNat_lt
 have hdm:decM s k=decB s k b:=by unfold decM; rw[hb]
 have hkn:(k:Int).toNat=k:=rfl
 rw[hdm]
 refine prun_of ac60 rfl ?_
 by_cases h1:b.toNat<192
 ·have hi1:(b.toNat:Int)<192:=by omega
  (repeat' first|simp (disch:=omega) only[go_sem,ac60,enter,hb,hkn]|(apply spl<;>intro h<;>try simp (disch:=omega) only[go_sem,ac60,enter,hb,hkn,h]))
  refine loop_of (α:=Unit) (fun _=>{ tmps:=slots 80 [(0,.str s),(1,.int .i64 k),(7,.int .i64 1),(8,.int .i64 b.toNat),(9,.int .i64 1)],heap:=[],base:=0 }) (fun _=>True) (fun _=>0) () rfl trivial ?_
  rintro _ _
  obtain ⟨r,hr⟩ : ∃ r:Int,r=(b.toNat:Int):=⟨_,rfl⟩
  obtain ⟨l,hl⟩ : ∃ l:List UInt8,l=[b]:=⟨_,rfl⟩
  have hsl:=drop_take1 hb
  have hkn2:((k:Int)+1).toNat=k+1:=by omega
  have hfin:decB s k b=refFin r l 1:=by
   rw[hr,hl,fin1]
   unfold decB
   repeat' split
   all_goals first | rfl | omega
  unfold refFin at hfin
  have he:=encode_run r
  rw[←hr]
  generalize encM r=te at he hfin
  obtain ⟨t,e0⟩:=te
  simp only at he hfin
  by_cases h1:e0=0
  ·by_cases h2:t=l
   ·have hb2:(t == l)=true:=by simpa using h2
    subst h1
    rw[if_pos ⟨rfl,h2⟩] at hfin
    rw[hfin]
    rw[hl] at hb2
    (repeat' first|simp (disch:=omega) only[go_sem,hkn,hkn2,hsl,hb2]|refine pure_of _ (he) ?_|(apply spl<;>intro h<;>try simp (disch:=omega) only[go_sem,hkn,hkn2,hsl,hb2 ,h]))
   ·have hb2:(t == l)=false:=by simpa using h2
    subst h1
    rw[if_neg (fun h=>h2 h.2)] at hfin
    rw[hfin]
    rw[hl] at hb2
    (repeat' first|simp (disch:=omega) only[go_sem,hkn,hkn2,hsl,hb2]|refine pure_of _ (he) ?_|(apply spl<;>intro h<;>try simp (disch:=omega) only[go_sem,hkn,hkn2,hsl,hb2 ,h]))
  ·rw[if_neg (fun h=>h1 h.1)] at hfin
   rw[hfin]
   (repeat' first|simp (disch:=omega) only[go_sem,hkn,h1]|refine pure_of _ (he) ?_|(apply spl<;>intro h<;>try simp (disch:=omega) only[go_sem,hkn,h1 ,h]))
 by_cases g2:192≤b.toNat∧b.toNat<224
 ·obtain ⟨g1,g2⟩:=g2
  have gi1:192≤(b.toNat:Int):=by omega
  have gi2:(b.toNat:Int)<224:=by omega
  by_cases hlen:s.length<k+2
  ·have hnone:s[k+1]?=none:=List.getElem?_eq_none (by omega)
   have hdec:decB s k b=(0,0):=by
    unfold decB
    repeat' split
    all_goals first | rfl | omega | (rw[hnone]; first | rfl | (cases s[k+1]?<;>first | rfl | (cases s[k+2]?<;>rfl)))
   rw[hdec]
   (repeat' first|simp (disch:=omega) only[go_sem,ac60,enter,hb,hkn,and7,and15,and31]|(apply spl<;>intro h<;>try simp (disch:=omega) only[go_sem,ac60,enter,hb,hkn,and7,and15,and31,h]))
  ·obtain ⟨c,hc⟩:=get_some (s:=s) (k:=k+1) (by omega)
   have ct:=c.toNat_lt
   have kn1:((k:Int)+1).toNat=k+1:=by omega
   (repeat' first|simp (disch:=omega) only[go_sem,ac60,enter,hb,hkn,and7,and15,and31]|(apply spl<;>intro h<;>try simp (disch:=omega) only[go_sem,ac60,enter,hb,hkn,and7,and15,and31,h]))
   refine loop_of (α:=Nat) (fun i=>{ tmps:=slots 80 [(0,.str s),(1,.int .i64 k),(7,.int .i64 2),(8,.int .i64 (pick4 ((b.toNat:Int) % 32) (((b.toNat:Int) % 32) * 64+(c.toNat:Int) % 64) 0 0 i)),(9,.int .i64 i)],heap:=[],base:=0 }) (fun i=>1≤i∧i≤2) (fun i=>2-i) 1 rfl (by omega) ?_
   rintro i ⟨hi1,hi2⟩
   rcases (by omega:i=1∨i=2) with rfl | rfl
   ·have hp:pick4 ((b.toNat:Int) % 32) (((b.toNat:Int) % 32) * 64+(c.toNat:Int) % 64) 0 0 1=((b.toNat:Int) % 32):=rfl
    have hq:pick4 ((b.toNat:Int) % 32) (((b.toNat:Int) % 32) * 64+(c.toNat:Int) % 64) 0 0 2=(((b.toNat:Int) % 32) * 64+(c.toNat:Int) % 64):=rfl
    rw[hp]
    (repeat' first|simp (disch:=omega) only[go_sem,hkn,kn1,hc,pw6,and63,or64,c1',c2',c3',c4']|(apply spl<;>intro h<;>try simp (disch:=omega) only[go_sem,hkn,kn1,hc,pw6,and63,or64,c1',c2',c3',c4',h]))
    exact ⟨2,by rw[hq]; rfl,by omega,by omega⟩
   ·have hp:pick4 ((b.toNat:Int) % 32) (((b.toNat:Int) % 32) * 64+(c.toNat:Int) % 64) 0 0 2=(((b.toNat:Int) % 32) * 64+(c.toNat:Int) % 64):=rfl
    rw[hp]
    obtain ⟨r,hr⟩ : ∃ r:Int,r=(((b.toNat:Int) % 32) * 64+(c.toNat:Int) % 64):=⟨_,rfl⟩
    obtain ⟨l,hl⟩ : ∃ l:List UInt8,l=[b,c]:=⟨_,rfl⟩
    have hsl:=drop_take2 hb hc
    have hkn2:((k:Int)+2).toNat=k+2:=by omega
    have hfin:decB s k b=refFin r l 2:=by
     rw[hr,hl]
     rw[fin2 g1 g2]
     unfold decB
     repeat' split
     all_goals first | omega | (rw[hc])
    unfold refFin at hfin
    have he:=encode_run r
    rw[←hr]
    generalize encM r=te at he hfin
    obtain ⟨t,e0⟩:=te
    simp only at he hfin
    by_cases h1:e0=0
    ·by_cases h2:t=l
     ·have hb2:(t == l)=true:=by simpa using h2
      subst h1
      rw[if_pos ⟨rfl,h2⟩] at hfin
      rw[hfin]
      rw[hl] at hb2
      (repeat' first|simp (disch:=omega) only[go_sem,hkn,hkn2,hsl,hb2]|refine pure_of _ (he) ?_|(apply spl<;>intro h<;>try simp (disch:=omega) only[go_sem,hkn,hkn2,hsl,hb2 ,h]))
     ·have hb2:(t == l)=false:=by simpa using h2
      subst h1
      rw[if_neg (fun h=>h2 h.2)] at hfin
      rw[hfin]
      rw[hl] at hb2
      (repeat' first|simp (disch:=omega) only[go_sem,hkn,hkn2,hsl,hb2]|refine pure_of _ (he) ?_|(apply spl<;>intro h<;>try simp (disch:=omega) only[go_sem,hkn,hkn2,hsl,hb2 ,h]))
    ·rw[if_neg (fun h=>h1 h.1)] at hfin
     rw[hfin]
     (repeat' first|simp (disch:=omega) only[go_sem,hkn,h1]|refine pure_of _ (he) ?_|(apply spl<;>intro h<;>try simp (disch:=omega) only[go_sem,hkn,h1 ,h]))
 by_cases g3:224≤b.toNat∧b.toNat<240
 ·obtain ⟨g1,g2⟩:=g3
  have gi1:224≤(b.toNat:Int):=by omega
  have gi2:(b.toNat:Int)<240:=by omega
  by_cases hlen:s.length<k+3
  ·have hnone:s[k+2]?=none:=List.getElem?_eq_none (by omega)
   have hdec:decB s k b=(0,0):=by
    unfold decB
    repeat' split
    all_goals first | rfl | omega | (rw[hnone]; first | rfl | (cases s[k+1]?<;>first | rfl | (cases s[k+2]?<;>rfl)))
   rw[hdec]
   (repeat' first|simp (disch:=omega) only[go_sem,ac60,enter,hb,hkn,and7,and15,and31]|(apply spl<;>intro h<;>try simp (disch:=omega) only[go_sem,ac60,enter,hb,hkn,and7,and15,and31,h]))
  ·obtain ⟨c,hc⟩:=get_some (s:=s) (k:=k+1) (by omega)
   have ct:=c.toNat_lt
   have kn1:((k:Int)+1).toNat=k+1:=by omega
   obtain ⟨d,hd⟩:=get_some (s:=s) (k:=k+2) (by omega)
   have dt:=d.toNat_lt
   have kn2:((k:Int)+2).toNat=k+2:=by omega
   (repeat' first|simp (disch:=omega) only[go_sem,ac60,enter,hb,hkn,and7,and15,and31]|(apply spl<;>intro h<;>try simp (disch:=omega) only[go_sem,ac60,enter,hb,hkn,and7,and15,and31,h]))
   refine loop_of (α:=Nat) (fun i=>{ tmps:=slots 80 [(0,.str s),(1,.int .i64 k),(7,.int .i64 3),(8,.int .i64 (pick4 ((b.toNat:Int) % 16) (((b.toNat:Int) % 16) * 64+(c.toNat:Int) % 64) ((((b.toNat:Int) % 16) * 64+(c.toNat:Int) % 64) * 64+(d.toNat:Int) % 64) 0 i)),(9,.int .i64 i)],heap:=[],base:=0 }) (fun i=>1≤i∧i≤3) (fun i=>3-i) 1 rfl (by omega) ?_
   rintro i ⟨hi1,hi2⟩
   rcases (by omega:i=1∨i=2∨i=3) with rfl | rfl | rfl
   ·have hp:pick4 ((b.toNat:Int) % 16) (((b.toNat:Int) % 16) * 64+(c.toNat:Int) % 64) ((((b.toNat:Int) % 16) * 64+(c.toNat:Int) % 64) * 64+(d.toNat:Int) % 64) 0 1=((b.toNat:Int) % 16):=rfl
    have hq:pick4 ((b.toNat:Int) % 16) (((b.toNat:Int) % 16) * 64+(c.toNat:Int) % 64) ((((b.toNat:Int) % 16) * 64+(c.toNat:Int) % 64) * 64+(d.toNat:Int) % 64) 0 2=(((b.toNat:Int) % 16) * 64+(c.toNat:Int) % 64):=rfl
    rw[hp]
    (repeat' first|simp (disch:=omega) only[go_sem,hkn,kn1,hc,pw6,and63,or64,c1',c2',c3',c4']|(apply spl<;>intro h<;>try simp (disch:=omega) only[go_sem,hkn,kn1,hc,pw6,and63,or64,c1',c2',c3',c4',h]))
    exact ⟨2,by rw[hq]; rfl,by omega,by omega⟩
   ·have hp:pick4 ((b.toNat:Int) % 16) (((b.toNat:Int) % 16) * 64+(c.toNat:Int) % 64) ((((b.toNat:Int) % 16) * 64+(c.toNat:Int) % 64) * 64+(d.toNat:Int) % 64) 0 2=(((b.toNat:Int) % 16) * 64+(c.toNat:Int) % 64):=rfl
    have hq:pick4 ((b.toNat:Int) % 16) (((b.toNat:Int) % 16) * 64+(c.toNat:Int) % 64) ((((b.toNat:Int) % 16) * 64+(c.toNat:Int) % 64) * 64+(d.toNat:Int) % 64) 0 3=((((b.toNat:Int) % 16) * 64+(c.toNat:Int) % 64) * 64+(d.toNat:Int) % 64):=rfl
    rw[hp]
    (repeat' first|simp (disch:=omega) only[go_sem,hkn,kn2,hd,pw6,and63,or64,c1',c2',c3',c4']|(apply spl<;>intro h<;>try simp (disch:=omega) only[go_sem,hkn,kn2,hd,pw6,and63,or64,c1',c2',c3',c4',h]))
    exact ⟨3,by rw[hq]; rfl,by omega,by omega⟩
   ·have hp:pick4 ((b.toNat:Int) % 16) (((b.toNat:Int) % 16) * 64+(c.toNat:Int) % 64) ((((b.toNat:Int) % 16) * 64+(c.toNat:Int) % 64) * 64+(d.toNat:Int) % 64) 0 3=((((b.toNat:Int) % 16) * 64+(c.toNat:Int) % 64) * 64+(d.toNat:Int) % 64):=rfl
    rw[hp]
    obtain ⟨r,hr⟩ : ∃ r:Int,r=((((b.toNat:Int) % 16) * 64+(c.toNat:Int) % 64) * 64+(d.toNat:Int) % 64):=⟨_,rfl⟩
    obtain ⟨l,hl⟩ : ∃ l:List UInt8,l=[b,c,d]:=⟨_,rfl⟩
    have hsl:=drop_take3 hb hc hd
    have hkn2:((k:Int)+3).toNat=k+3:=by omega
    have hfin:decB s k b=refFin r l 3:=by
     rw[hr,hl]
     rw[fin3 g1 g2]
     unfold decB
     repeat' split
     all_goals first | omega | (rw[hc,hd])
    unfold refFin at hfin
    have he:=encode_run r
    rw[←hr]
    generalize encM r=te at he hfin
    obtain ⟨t,e0⟩:=te
    simp only at he hfin
    by_cases h1:e0=0
    ·by_cases h2:t=l
     ·have hb2:(t == l)=true:=by simpa using h2
      subst h1
      rw[if_pos ⟨rfl,h2⟩] at hfin
      rw[hfin]
      rw[hl] at hb2
      (repeat' first|simp (disch:=omega) only[go_sem,hkn,hkn2,hsl,hb2]|refine pure_of _ (he) ?_|(apply spl<;>intro h<;>try simp (disch:=omega) only[go_sem,hkn,hkn2,hsl,hb2 ,h]))
     ·have hb2:(t == l)=false:=by simpa using h2
      subst h1
      rw[if_neg (fun h=>h2 h.2)] at hfin
      rw[hfin]
      rw[hl] at hb2
      (repeat' first|simp (disch:=omega) only[go_sem,hkn,hkn2,hsl,hb2]|refine pure_of _ (he) ?_|(apply spl<;>intro h<;>try simp (disch:=omega) only[go_sem,hkn,hkn2,hsl,hb2 ,h]))
    ·rw[if_neg (fun h=>h1 h.1)] at hfin
     rw[hfin]
     (repeat' first|simp (disch:=omega) only[go_sem,hkn,h1]|refine pure_of _ (he) ?_|(apply spl<;>intro h<;>try simp (disch:=omega) only[go_sem,hkn,h1 ,h]))
 by_cases g4:240≤b.toNat∧b.toNat<256
 ·obtain ⟨g1,g2⟩:=g4
  have gi1:240≤(b.toNat:Int):=by omega
  have gi2:(b.toNat:Int)<256:=by omega
  by_cases hlen:s.length<k+4
  ·have hnone:s[k+3]?=none:=List.getElem?_eq_none (by omega)
   have hdec:decB s k b=(0,0):=by
    unfold decB
    repeat' split
    all_goals first | rfl | omega | (rw[hnone]; first | rfl | (cases s[k+1]?<;>first | rfl | (cases s[k+2]?<;>rfl)))
   rw[hdec]
   (repeat' first|simp (disch:=omega) only[go_sem,ac60,enter,hb,hkn,and7,and15,and31]|(apply spl<;>intro h<;>try simp (disch:=omega) only[go_sem,ac60,enter,hb,hkn,and7,and15,and31,h]))
  ·obtain ⟨c,hc⟩:=get_some (s:=s) (k:=k+1) (by omega)
   have ct:=c.toNat_lt
   have kn1:((k:Int)+1).toNat=k+1:=by omega
   obtain ⟨d,hd⟩:=get_some (s:=s) (k:=k+2) (by omega)
   have dt:=d.toNat_lt
   have kn2:((k:Int)+2).toNat=k+2:=by omega
   obtain ⟨e,he⟩:=get_some (s:=s) (k:=k+3) (by omega)
   have et:=e.toNat_lt
   have kn3:((k:Int)+3).toNat=k+3:=by omega
   (repeat' first|simp (disch:=omega) only[go_sem,ac60,enter,hb,hkn,and7,and15,and31]|(apply spl<;>intro h<;>try simp (disch:=omega) only[go_sem,ac60,enter,hb,hkn,and7,and15,and31,h]))
   refine loop_of (α:=Nat) (fun i=>{ tmps:=slots 80 [(0,.str s),(1,.int .i64 k),(7,.int .i64 4),(8,.int .i64 (pick4 ((b.toNat:Int) % 8) (((b.toNat:Int) % 8) * 64+(c.toNat:Int) % 64) ((((b.toNat:Int) % 8) * 64+(c.toNat:Int) % 64) * 64+(d.toNat:Int) % 64) (((((b.toNat:Int) % 8) * 64+(c.toNat:Int) % 64) * 64+(d.toNat:Int) % 64) * 64+(e.toNat:Int) % 64) i)),(9,.int .i64 i)],heap:=[],base:=0 }) (fun i=>1≤i∧i≤4) (fun i=>4-i) 1 rfl (by omega) ?_
   rintro i ⟨hi1,hi2⟩
   rcases (by omega:i=1∨i=2∨i=3∨i=4) with rfl | rfl | rfl | rfl
   ·have hp:pick4 ((b.toNat:Int) % 8) (((b.toNat:Int) % 8) * 64+(c.toNat:Int) % 64) ((((b.toNat:Int) % 8) * 64+(c.toNat:Int) % 64) * 64+(d.toNat:Int) % 64) (((((b.toNat:Int) % 8) * 64+(c.toNat:Int) % 64) * 64+(d.toNat:Int) % 64) * 64+(e.toNat:Int) % 64) 1=((b.toNat:Int) % 8):=rfl
    have hq:pick4 ((b.toNat:Int) % 8) (((b.toNat:Int) % 8) * 64+(c.toNat:Int) % 64) ((((b.toNat:Int) % 8) * 64+(c.toNat:Int) % 64) * 64+(d.toNat:Int) % 64) (((((b.toNat:Int) % 8) * 64+(c.toNat:Int) % 64) * 64+(d.toNat:Int) % 64) * 64+(e.toNat:Int) % 64) 2=(((b.toNat:Int) % 8) * 64+(c.toNat:Int) % 64):=rfl
    rw[hp]
    (repeat' first|simp (disch:=omega) only[go_sem,hkn,kn1,hc,pw6,and63,or64,c1',c2',c3',c4']|(apply spl<;>intro h<;>try simp (disch:=omega) only[go_sem,hkn,kn1,hc,pw6,and63,or64,c1',c2',c3',c4',h]))
    exact ⟨2,by rw[hq]; rfl,by omega,by omega⟩
   ·have hp:pick4 ((b.toNat:Int) % 8) (((b.toNat:Int) % 8) * 64+(c.toNat:Int) % 64) ((((b.toNat:Int) % 8) * 64+(c.toNat:Int) % 64) * 64+(d.toNat:Int) % 64) (((((b.toNat:Int) % 8) * 64+(c.toNat:Int) % 64) * 64+(d.toNat:Int) % 64) * 64+(e.toNat:Int) % 64) 2=(((b.toNat:Int) % 8) * 64+(c.toNat:Int) % 64):=rfl
    have hq:pick4 ((b.toNat:Int) % 8) (((b.toNat:Int) % 8) * 64+(c.toNat:Int) % 64) ((((b.toNat:Int) % 8) * 64+(c.toNat:Int) % 64) * 64+(d.toNat:Int) % 64) (((((b.toNat:Int) % 8) * 64+(c.toNat:Int) % 64) * 64+(d.toNat:Int) % 64) * 64+(e.toNat:Int) % 64) 3=((((b.toNat:Int) % 8) * 64+(c.toNat:Int) % 64) * 64+(d.toNat:Int) % 64):=rfl
    rw[hp]
    (repeat' first|simp (disch:=omega) only[go_sem,hkn,kn2,hd,pw6,and63,or64,c1',c2',c3',c4']|(apply spl<;>intro h<;>try simp (disch:=omega) only[go_sem,hkn,kn2,hd,pw6,and63,or64,c1',c2',c3',c4',h]))
    exact ⟨3,by rw[hq]; rfl,by omega,by omega⟩
   ·have hp:pick4 ((b.toNat:Int) % 8) (((b.toNat:Int) % 8) * 64+(c.toNat:Int) % 64) ((((b.toNat:Int) % 8) * 64+(c.toNat:Int) % 64) * 64+(d.toNat:Int) % 64) (((((b.toNat:Int) % 8) * 64+(c.toNat:Int) % 64) * 64+(d.toNat:Int) % 64) * 64+(e.toNat:Int) % 64) 3=((((b.toNat:Int) % 8) * 64+(c.toNat:Int) % 64) * 64+(d.toNat:Int) % 64):=rfl
    have hq:pick4 ((b.toNat:Int) % 8) (((b.toNat:Int) % 8) * 64+(c.toNat:Int) % 64) ((((b.toNat:Int) % 8) * 64+(c.toNat:Int) % 64) * 64+(d.toNat:Int) % 64) (((((b.toNat:Int) % 8) * 64+(c.toNat:Int) % 64) * 64+(d.toNat:Int) % 64) * 64+(e.toNat:Int) % 64) 4=(((((b.toNat:Int) % 8) * 64+(c.toNat:Int) % 64) * 64+(d.toNat:Int) % 64) * 64+(e.toNat:Int) % 64):=rfl
    rw[hp]
    (repeat' first|simp (disch:=omega) only[go_sem,hkn,kn3,he,pw6,and63,or64,c1',c2',c3',c4']|(apply spl<;>intro h<;>try simp (disch:=omega) only[go_sem,hkn,kn3,he,pw6,and63,or64,c1',c2',c3',c4',h]))
    exact ⟨4,by rw[hq]; rfl,by omega,by omega⟩
   ·have hp:pick4 ((b.toNat:Int) % 8) (((b.toNat:Int) % 8) * 64+(c.toNat:Int) % 64) ((((b.toNat:Int) % 8) * 64+(c.toNat:Int) % 64) * 64+(d.toNat:Int) % 64) (((((b.toNat:Int) % 8) * 64+(c.toNat:Int) % 64) * 64+(d.toNat:Int) % 64) * 64+(e.toNat:Int) % 64) 4=(((((b.toNat:Int) % 8) * 64+(c.toNat:Int) % 64) * 64+(d.toNat:Int) % 64) * 64+(e.toNat:Int) % 64):=rfl
    rw[hp]
    obtain ⟨r,hr⟩ : ∃ r:Int,r=(((((b.toNat:Int) % 8) * 64+(c.toNat:Int) % 64) * 64+(d.toNat:Int) % 64) * 64+(e.toNat:Int) % 64):=⟨_,rfl⟩
    obtain ⟨l,hl⟩ : ∃ l:List UInt8,l=[b,c,d,e]:=⟨_,rfl⟩
    have hsl:=drop_take4 hb hc hd he
    have hkn2:((k:Int)+4).toNat=k+4:=by omega
    have hfin:decB s k b=refFin r l 4:=by
     rw[hr,hl]
     by_cases g5:b.toNat<248
     ·rw[fin4 g1 g5]
      unfold decB
      repeat' split
      all_goals first | omega | (rw[hc,hd,he])
     ·rw[fin5 (by omega) _ (by omega) (by omega)]
      unfold decB
      repeat' split
      all_goals first | omega | rfl
    unfold refFin at hfin
    have he:=encode_run r
    rw[←hr]
    generalize encM r=te at he hfin
    obtain ⟨t,e0⟩:=te
    simp only at he hfin
    by_cases h1:e0=0
    ·by_cases h2:t=l
     ·have hb2:(t == l)=true:=by simpa using h2
      subst h1
      rw[if_pos ⟨rfl,h2⟩] at hfin
      rw[hfin]
      rw[hl] at hb2
      (repeat' first|simp (disch:=omega) only[go_sem,hkn,hkn2,hsl,hb2]|refine pure_of _ (he) ?_|(apply spl<;>intro h<;>try simp (disch:=omega) only[go_sem,hkn,hkn2,hsl,hb2 ,h]))
     ·have hb2:(t == l)=false:=by simpa using h2
      subst h1
      rw[if_neg (fun h=>h2 h.2)] at hfin
      rw[hfin]
      rw[hl] at hb2
      (repeat' first|simp (disch:=omega) only[go_sem,hkn,hkn2,hsl,hb2]|refine pure_of _ (he) ?_|(apply spl<;>intro h<;>try simp (disch:=omega) only[go_sem,hkn,hkn2,hsl,hb2 ,h]))
    ·rw[if_neg (fun h=>h1 h.1)] at hfin
     rw[hfin]
     (repeat' first|simp (disch:=omega) only[go_sem,hkn,h1]|refine pure_of _ (he) ?_|(apply spl<;>intro h<;>try simp (disch:=omega) only[go_sem,hkn,h1 ,h]))
 omega
end Ago
set_option maxRecDepth 100000
set_option maxHeartbeats 4000000
namespace Ago
open Go (IntKind)
theorem decFin_size {r:Int} {n:Nat}:(decFin r n).2=0∨(decFin r n).2=n:=by
 unfold decFin
 split
 ·exact .inr rfl
 ·exact .inl rfl
theorem decM_size (s:List UInt8) (k:Nat) : ∃ n:Nat,(decM s k).2=n∧(n=0∨k+n≤s.length):=by
 have get_lt : ∀ {j:Nat} {c:UInt8},s[j]?=some c→j<s.length:=fun h=>(List.getElem?_eq_some_iff.1 h).1
 have zero : ∃ n:Nat,(((0,0):Int × Int)).2=n∧(n=0∨k+n≤s.length):=⟨0,rfl,.inl rfl⟩
 have fin : ∀ (r:Int) (m:Nat),k+m≤s.length→∃ n:Nat,(decFin r m).2=n∧(n=0∨k+n≤s.length):=fun r m h=>by
  rcases decFin_size (r:=r) (n:=m) with e | e
  ·exact ⟨0,e,.inl rfl⟩
  ·exact ⟨m,e,.inr h⟩
 unfold decM
 cases hb:s[k]? with
 | none=>exact zero
 | some b=>
  have:=get_lt hb
  simp only
  unfold decB
  split
  ·exact ⟨1,rfl,.inr (by omega)⟩
  ·split
   ·exact zero
   ·split
    ·cases hc:s[k+1]? with
     | none=>exact zero
     | some c=>
      have:=get_lt hc
      rw[dec2_some]
      split
      ·exact fin _ _ (by omega)
      ·exact zero
    ·split
     ·cases hc:s[k+1]? with
      | none=>exact zero
      | some c=>
       cases hd:s[k+2]? with
       | none=>exact zero
       | some d=>
        have:=get_lt hd
        rw[dec3_some]
        split
        ·exact fin _ _ (by omega)
        ·exact zero
     ·split
      ·cases hc:s[k+1]? with
       | none=>exact zero
       | some c=>
        cases hd:s[k+2]? with
        | none=>exact zero
        | some d=>
         cases he:s[k+3]? with
         | none=>exact zero
         | some e=>
          have:=get_lt he
          rw[dec4_some]
          split
          ·exact fin _ _ (by omega)
          ·exact zero
      ·exact zero

def walkU (s:List UInt8):Nat→Nat→Bool
 | 0,_=>true
 | f+1,k=>if s.length≤k then true else if (decM s k).2=0 then false else walkU s f (k+(decM s k).2.toNat)
def utf (s:List UInt8):Bool:=walkU s (s.length+1) 0
theorem walkU_fuel (s:List UInt8) : ∀ (f g k:Nat),s.length-k<f→s.length-k<g→walkU s f k=walkU s g k
 | 0,_,_,h,_=>by omega
 | _,0,_,_,h=>by omega
 | f+1,g+1,k,h1,h2=>by
  obtain ⟨n,hn,h⟩:=decM_size s k
  simp only[walkU]
  split
  ·rfl
  ·split
   ·rfl
   ·exact walkU_fuel s f g _ (by omega) (by omega)
theorem walk_end {s:List UInt8} {k:Nat} (h:s.length≤k):walkU s (s.length-k+1) k=true:=by
 simp only[walkU]
 rw[if_pos h]
theorem walk_stop {s:List UInt8} {k:Nat} (h:k<s.length) (h0:(decM s k).2=0):walkU s (s.length-k+1) k=false:=by
 simp only[walkU]
 rw[if_neg (by omega),if_pos h0]
theorem walk_step {s:List UInt8} {k n:Nat} (h:k<s.length) (hn:(decM s k).2=n) (h0:n≠0):walkU s (s.length-k+1) k=walkU s (s.length-(k+n)+1) (k+n):=by
 conv=>lhs; simp only[walkU]
 rw[if_neg (by omega),if_neg (by omega),hn]
 exact walkU_fuel s _ _ _ (by simp; omega) (by simp)

theorem boundaries_ex (s:List UInt8) (hs:s.length<2^30) : ∃ l,PRun C0 42 [.str s] (.tup [.tsl 1 l,.bool (utf s)]):=by
 have h:=prunE_of (C:=C0) (f:=42) (ts:=[.str s]) (k:=fun v=>∃ l,v = .tup [.tsl 1 l,.bool (utf s)]) ac42 rfl (by
  (repeat' first|simp (disch:=omega) only[go_sem,ac42,enter]|(apply spl<;>intro h<;>try simp (disch:=omega) only[go_sem,ac42,enter,h]))
  refine loop_of (α:=Nat × List AV) (fun a=>{ tmps:=slots 30 [(0,.str s),(4,.sref 1 0 0 a.2.length),(5,.int .i64 a.1)],heap:=[.row 1 a.2 false true 0],base:=0 }) (fun a=>a.1≤s.length∧a.2.length≤a.1+1∧utf s=walkU s (s.length-a.1+1) a.1) (fun a=>s.length-a.1) (0,[.int .i64 0]) rfl ⟨by simp,by simp,rfl⟩ ?_
  rintro ⟨k,els⟩ ⟨hk,hl,hw⟩
  simp only at hk hl hw
  by_cases hlt:k<s.length
  ·have hd:=decode_run s k (by omega) hlt
   obtain ⟨m,hm,hsz⟩:=decM_size s k
   rw[hm] at hd
   by_cases h0:m=0
   ·subst h0
    rw[walk_stop hlt hm] at hw
    rw[hw]
    (repeat' first|simp (disch:=omega) only[go_sem]|refine pure_of _ (hd) ?_|(apply spl<;>intro h<;>try simp (disch:=omega) only[go_sem,h]))
    exact ⟨_,rfl⟩
   ·rw[walk_step hlt hm h0] at hw
    (repeat' first|simp (disch:=omega) only[go_sem]|refine pure_of _ (hd) ?_|(apply spl<;>intro h<;>try simp (disch:=omega) only[go_sem,h]))
    have e:(els++[AV.int .i64 ((k:Int)+m)]).length=els.length+1:=by simp
    refine ⟨(k+m,els++[.int .i64 ((k:Int)+m)]),?_,⟨by simp only; omega,by simp only[e]; omega,hw⟩,by simp only; omega⟩
    simp only[e]
    rfl
  ·rw[walk_end (by omega)] at hw
   rw[hw]
   (repeat' first|simp (disch:=omega) only[go_sem]|(apply spl<;>intro h<;>try simp (disch:=omega) only[go_sem,h]))
   exact ⟨_,rfl⟩)
 obtain ⟨v,h1,l,rfl⟩:=h
 exact ⟨l,h1⟩

theorem utf_run (s:List UInt8) (hs:s.length<2^30):PRun C0 24 [.str s] (.bool (utf s)):=by
 obtain ⟨l,hb⟩:=boundaries_ex s hs
 refine prun_of ac24 rfl ?_
 (repeat' first|simp (disch:=omega) only[go_sem,ac24,enter]|refine pure_of _ (hb) ?_|(apply spl<;>intro h<;>try simp (disch:=omega) only[go_sem,ac24,enter ,h]))
end Ago
set_option maxRecDepth 100000
set_option maxHeartbeats 4000000
namespace Ago
open Go (IntKind)
def OwnOk (v:V):Prop:=(v.s.kind=6∨v.l.length=0)∧(v.s.kind=7∨v.f.length=0)
end Ago
set_option maxRecDepth 100000
set_option maxHeartbeats 4000000
namespace Ago
open Go (IntKind)

end Ago
set_option maxRecDepth 100000
set_option maxHeartbeats 4000000
namespace Ago
open Go (IntKind)
def V.kids (v:V):List V:=if v.s.kind=7 then v.f.map (·.2) else v.l

theorem kids_run (v:V) (hv:v.bulk≤2^24):PRun C0 58 [encV v] (.tsl 13 (v.kids.map encV)):=by
 have L:=V.lens hv
 refine prun_of ac58 rfl ?_
 rw[encV_eq]
 by_cases h7:v.s.kind=7
 ·(repeat' first|simp (disch:=omega) only[go_sem,ac58,enter]|(apply spl<;>intro h<;>try simp (disch:=omega) only[go_sem,ac58,enter,h]))
  refine loop_of (α:=Nat × List AV) (fun a=>{ tmps:=slots 27 [(1,.ptr 13 0 0 0),(3,outSl 13 1 a.2),(4,.int .i64 a.1)],heap:=[.row 13 [encV v] false true 0]++outHp 13 1 a.2,base:=0 }) (fun a=>a.1≤v.f.length∧a.2=(v.f.take a.1).map fun x=>encV x.2) (fun a=>v.f.length-a.1) (0,[]) (by rw[encV_eq]; rfl) (by simp) ?_
  rintro ⟨k,els⟩ ⟨hk,hl⟩
  simp only at hk hl
  rw[encV_eq]
  by_cases hlt:k<v.f.length
  ·obtain ⟨x,hx⟩:=get_some hlt
   have hx2:=map_get (g:=encFd) hx
   rw[encFd_eq] at hx2
   have hnew:els++[encV x.2]=(v.f.take (k+1)).map fun x=>encV x.2:=by rw[hl,List.take_add_one,hx]; simp
   rw[encV_eq x.2] at hnew
   have hlen:els.length=k:=by rw[hl]; simp; omega
   have hfl:=L.fields
   cases els with
   | nil=>
    (repeat' first|simp (disch:=omega) only[go_sem,hx2,List.length_map,outSl,outHp]|(apply spl<;>intro h<;>try simp (disch:=omega) only[go_sem,hx2,List.length_map,outSl,outHp,h]))
    refine ⟨(k+1,(v.f.take (k+1)).map fun x=>encV x.2),?_,⟨hlt,rfl⟩,by simp only; omega⟩
    simp only[←hnew]
    rfl
   | cons y els=>
    simp only[List.length_cons] at hlen
    (repeat' first|simp (disch:=omega) only[go_sem,hx2,List.length_map,outSl,outHp]|(apply spl<;>intro h<;>try simp (disch:=omega) only[go_sem,hx2,List.length_map,outSl,outHp,h]))
    refine ⟨(k+1,(v.f.take (k+1)).map fun x=>encV x.2),?_,⟨hlt,rfl⟩,by simp only; omega⟩
    simp only[←hnew,List.cons_append,outSl,outHp,List.length_append,List.length_cons,List.length_nil]
    rfl
  ·have hf:els=v.kids.map encV:=by
    rw[hl,take_len hlt hk]
    simp [V.kids,h7]
   rw[←hf]
   cases els with
   | nil=>
    (repeat' first|simp (disch:=omega) only[go_sem,List.length_map,outSl,outHp]|(apply spl<;>intro h<;>try simp (disch:=omega) only[go_sem,List.length_map,outSl,outHp,h]))
   | cons y els=>
    (repeat' first|simp (disch:=omega) only[go_sem,List.length_map,outSl,outHp,List.take_length]|(apply spl<;>intro h<;>try simp (disch:=omega) only[go_sem,List.length_map,outSl,outHp,List.take_length,h]))
 ·(repeat' first|simp (disch:=omega) only[go_sem,ac58,enter]|(apply spl<;>intro h<;>try simp (disch:=omega) only[go_sem,ac58,enter,h]))
  simp [V.kids,h7]

inductive Good:Nat→V→Prop where
 | mk {n:Nat} {v:V} (h:decOk v.s.num=true) (ho:OwnOk v) (hk : ∀ x,x∈v.kids→Good n x):Good (n+1) v

theorem kids_bulk {v:V} (hv:v.bulk≤2^24):(∀ x,x∈v.kids→x.bulk<v.bulk)∧v.kids.length<2^24:=by
 have L:=V.lens hv
 unfold V.kids
 split
 ·refine ⟨fun x hx=>?_,by simp only[List.length_map]; exact L.fields⟩
  obtain ⟨y,hy,rfl⟩:=List.mem_map.1 hx
  exact (L.fkids y hy).1
 ·exact ⟨L.kids,L.list⟩

end Ago
set_option maxRecDepth 100000
set_option maxHeartbeats 4000000
namespace Ago
open Go (IntKind)
theorem room_ex : ∀ (n:Nat) (v:V),v.bulk≤n→n≤2^24→∀ (left d:Int),0≤left→left<2^30→-1≤d→d<2^30→∃ r:Int,PRun C0 38 [encV v,.int .i64 left,.int .i64 d] (.int .i64 r)∧-1≤r∧r<2^30:=by
 intro n
 induction n with
 | zero=>
  intro v hv
  have:1≤v.bulk:=bulk_one _
  omega
 | succ n ih=>
  intro v hv hn left d hl1 hl2 hd1 hd2
  have L:=V.lens (v:=v) (N:=2^24) (by omega)
  have h:=prunE_of (C:=C0) (f:=38) (ts:=[encV v,.int .i64 left,.int .i64 d]) (k:=fun w=>∃ r:Int,w = .int .i64 r∧-1≤r∧r<2^30) ac38 rfl (by
   rw[encV_eq]
   by_cases hdz:d≤0
   ·(repeat' first|simp (disch:=omega) only[go_sem,ac38,enter,List.length_map]|(apply spl<;>intro h<;>try simp (disch:=omega) only[go_sem,ac38,enter,List.length_map,h]))
    exact ⟨_,rfl,by omega,by omega⟩
   (repeat' first|simp (disch:=omega) only[go_sem,ac38,enter,List.length_map]|(apply spl<;>intro h<;>try simp (disch:=omega) only[go_sem,ac38,enter,List.length_map,h]))
   all_goals first | exact ⟨_,rfl,by omega,by omega⟩ | skip
   refine loop_of (α:=Nat × Int) (fun a=>{ tmps:=slots 69 [(1,.int .i64 a.2),(2,.int .i64 d),(3,.ptr 13 0 0 0),(7,.int .i64 a.1)],heap:=[.row 13 [encV v] false true 0],base:=0 }) (fun a=>a.1≤v.l.length∧-1≤a.2∧a.2<2^30) (fun a=>v.l.length-a.1) (0,left-1) (by rw[encV_eq]; rfl) ⟨Nat.zero_le _,by simp only; omega,by simp only; omega⟩ ?_
   rintro ⟨k,lf⟩ ⟨hk,hs3,hs4⟩
   simp only at hk hs3 hs4
   rw[encV_eq]
   by_cases hlt:k<v.l.length∧0≤lf
   ·obtain ⟨hlt,hlf⟩:=hlt
    obtain ⟨x,hx⟩:=get_some hlt
    have hxm:=List.mem_of_getElem? hx
    have hx2:=map_get (g:=encV) hx
    obtain ⟨r,hr,k1,k2⟩:=ih x (by have:=L.kids x hxm; omega) (by omega) lf (d-1) (by omega) (by omega) (by omega) (by omega)
    rw[encV_eq] at hx2 hr
    (repeat' first|simp (disch:=omega) only[go_sem,hx2,List.length_map]|refine pure_of _ (hr) ?_|(apply spl<;>intro h<;>try simp (disch:=omega) only[go_sem,hx2,List.length_map ,h]))
    exact ⟨(k+1,r),rfl,⟨hlt,by simp only; omega,by simp only; omega⟩,by simp only; omega⟩
   ·have key : ∀ lf:Int,-1≤lf→lf<2^30→∀ (k:Nat),True:=fun _ _ _ _=>trivial
    by_cases hlt2:k<v.l.length
    ·have hlf:lf<0:=by omega
     (repeat' first|simp (disch:=omega) only[go_sem,List.length_map]|(apply spl<;>intro h<;>try simp (disch:=omega) only[go_sem,List.length_map,h]))
     refine loop_of (α:=Nat × Int) (fun a=>{ tmps:=slots 69 [(1,.int .i64 a.2),(2,.int .i64 d),(3,.ptr 13 0 0 0),(8,.int .i64 a.1)],heap:=[.row 13 [encV v] false true 0],base:=0 }) (fun a=>a.1≤v.f.length∧-1≤a.2∧a.2<2^30) (fun a=>v.f.length-a.1) (0,lf) (by rw[encV_eq]; rfl) ⟨Nat.zero_le _,by simp only; omega,by simp only; omega⟩ ?_
     clear hk hs3 hs4 hlt hlt2
     rintro ⟨k,lf⟩ ⟨hk,hs3,hs4⟩
     simp only at hk hs3 hs4
     rw[encV_eq]
     by_cases hlt:k<v.f.length∧0≤lf
     ·obtain ⟨hlt,hlf⟩:=hlt
      obtain ⟨x,hx⟩:=get_some hlt
      have hxm:=List.mem_of_getElem? hx
      have hx2:=map_get (g:=encFd) hx
      obtain ⟨r,hr,k1,k2⟩:=ih x.2 (by have:=(L.fkids x hxm).1; omega) (by omega) lf (d-1) (by omega) (by omega) (by omega) (by omega)
      rw[encFd_eq] at hx2
      rw[encV_eq] at hr
      (repeat' first|simp (disch:=omega) only[go_sem,hx2,List.length_map]|refine pure_of _ (hr) ?_|(apply spl<;>intro h<;>try simp (disch:=omega) only[go_sem,hx2,List.length_map ,h]))
      exact ⟨(k+1,r),rfl,⟨hlt,by simp only; omega,by simp only; omega⟩,by simp only; omega⟩
     ·by_cases hlt2:k<v.f.length
      ·have hlf:lf<0:=by omega
       (repeat' first|simp (disch:=omega) only[go_sem,List.length_map]|(apply spl<;>intro h<;>try simp (disch:=omega) only[go_sem,List.length_map,h]))
       exact ⟨_,rfl,by omega,by omega⟩
      ·(repeat' first|simp (disch:=omega) only[go_sem,List.length_map]|(apply spl<;>intro h<;>try simp (disch:=omega) only[go_sem,List.length_map,h]))
       exact ⟨_,rfl,by omega,by omega⟩
    ·(repeat' first|simp (disch:=omega) only[go_sem,List.length_map]|(apply spl<;>intro h<;>try simp (disch:=omega) only[go_sem,List.length_map,h]))
     refine loop_of (α:=Nat × Int) (fun a=>{ tmps:=slots 69 [(1,.int .i64 a.2),(2,.int .i64 d),(3,.ptr 13 0 0 0),(8,.int .i64 a.1)],heap:=[.row 13 [encV v] false true 0],base:=0 }) (fun a=>a.1≤v.f.length∧-1≤a.2∧a.2<2^30) (fun a=>v.f.length-a.1) (0,lf) (by rw[encV_eq]; rfl) ⟨Nat.zero_le _,by simp only; omega,by simp only; omega⟩ ?_
     clear hk hs3 hs4 hlt hlt2
     rintro ⟨k,lf⟩ ⟨hk,hs3,hs4⟩
     simp only at hk hs3 hs4
     rw[encV_eq]
     by_cases hlt:k<v.f.length∧0≤lf
     ·obtain ⟨hlt,hlf⟩:=hlt
      obtain ⟨x,hx⟩:=get_some hlt
      have hxm:=List.mem_of_getElem? hx
      have hx2:=map_get (g:=encFd) hx
      obtain ⟨r,hr,k1,k2⟩:=ih x.2 (by have:=(L.fkids x hxm).1; omega) (by omega) lf (d-1) (by omega) (by omega) (by omega) (by omega)
      rw[encFd_eq] at hx2
      rw[encV_eq] at hr
      (repeat' first|simp (disch:=omega) only[go_sem,hx2,List.length_map]|refine pure_of _ (hr) ?_|(apply spl<;>intro h<;>try simp (disch:=omega) only[go_sem,hx2,List.length_map ,h]))
      exact ⟨(k+1,r),rfl,⟨hlt,by simp only; omega,by simp only; omega⟩,by simp only; omega⟩
     ·by_cases hlt2:k<v.f.length
      ·have hlf:lf<0:=by omega
       (repeat' first|simp (disch:=omega) only[go_sem,List.length_map]|(apply spl<;>intro h<;>try simp (disch:=omega) only[go_sem,List.length_map,h]))
       exact ⟨_,rfl,by omega,by omega⟩
      ·(repeat' first|simp (disch:=omega) only[go_sem,List.length_map]|(apply spl<;>intro h<;>try simp (disch:=omega) only[go_sem,List.length_map,h]))
       exact ⟨_,rfl,by omega,by omega⟩)
  obtain ⟨w,k1,r,rfl,k2,k3⟩:=h
  exact ⟨r,k1,k2,k3⟩

theorem small_ex (v:V) (hv:v.bulk≤2^24) (n d:Int) (h1:0≤n) (h2:n<2^30) (h3 : -1≤d) (h4:d<2^30) : ∃ b,PRun C0 18 [encV v,.int .i64 n,.int .i64 d] (.bool b):=by
 obtain ⟨r,k1,_,_⟩:=room_ex _ v (Nat.le_refl _) hv n d h1 h2 h3 h4
 rw[encV_eq] at k1 ⊢
 refine ⟨decide (r≥0),prun_of ac18 rfl ?_⟩
 (repeat' first|simp (disch:=omega) only[go_sem,ac18,enter]|refine pure_of _ (k1) ?_|(apply spl<;>intro h<;>try simp (disch:=omega) only[go_sem,ac18,enter ,h]))
end Ago
