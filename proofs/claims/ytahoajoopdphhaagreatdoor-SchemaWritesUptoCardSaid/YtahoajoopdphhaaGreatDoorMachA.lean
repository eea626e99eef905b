/- The abstract machine: values that are trees or references into a small heap,its operations,its big-step relation. It knows nothing of the program model's worlds. -/
import GoSem.Op.Shift
import GoSem.Op.IntArith
import GoSem.Op.IntBits
import GoSem.Op.IntDiv
import GoSem.Op.IntCmp
import GoSem.Op.String
import GoSem.Core.Utf8
import GoSem.Core.Code
import GoSem.Core.Layout
import GoSem.Op.Equal
import GoSem.Core.Region
set_option linter.unusedSimpArgs false
set_option linter.unusedVariables false
namespace Ago
theorem Ka:type_of% @List.length_map:=@List.length_map
theorem Kb:type_of% @List.length_append:=@List.length_append
theorem Kc:type_of% @List.mem_of_getElem?:=@List.mem_of_getElem?
theorem Kd:type_of% @List.map_cons:=@List.map_cons
theorem Ke:type_of% @List.append_assoc:=@List.append_assoc
theorem Kf:type_of% @List.cons_append:=@List.cons_append
theorem Kg:type_of% @Option.map_eq_some_iff:=@Option.map_eq_some_iff
theorem Kh:type_of% @List.nil_append:=@List.nil_append
theorem Ki:type_of% @List.getElem?_eq_getElem:=@List.getElem?_eq_getElem
theorem Kj:type_of% @List.append_nil:=@List.append_nil
theorem Kk:type_of% @Bool.and_eq_true:=@Bool.and_eq_true
theorem Kl:type_of% @List.map_nil:=@List.map_nil
theorem Km:type_of% @Bool.false_eq_true:=@Bool.false_eq_true
theorem Kn:type_of% @Nat.zero_le:=@Nat.zero_le
theorem Ko:type_of% @List.getD_eq_getElem?_getD:=@List.getD_eq_getElem?_getD
theorem Kp:type_of% @List.all_eq_true:=@List.all_eq_true
theorem Kq:type_of% @Option.some.injEq:=@Option.some.injEq
theorem Kr:type_of% @Nat.le_refl:=@Nat.le_refl
theorem Ks:type_of% @List.getElem?_eq_some_iff:=@List.getElem?_eq_some_iff
theorem Kt:type_of% @List.mem_cons_of_mem:=@List.mem_cons_of_mem
theorem Ku:type_of% @List.mem_cons_self:=@List.mem_cons_self
theorem Kv:type_of% @List.mem_append:=@List.mem_append
theorem Kw:type_of% @List.length_set:=@List.length_set
theorem Kx:type_of% @List.mem_singleton:=@List.mem_singleton
theorem Ky:type_of% @List.take_length:=@List.take_length
theorem Kz:type_of% @List.take_of_length_le:=@List.take_of_length_le
theorem KA:type_of% @List.mem_cons:=@List.mem_cons
theorem KB:type_of% @List.mem_of_mem_take:=@List.mem_of_mem_take
theorem KD:type_of% @List.take_add_one:=@List.take_add_one
theorem KE:type_of% @List.eq_nil_of_length_eq_zero:=@List.eq_nil_of_length_eq_zero
theorem KG:type_of% @List.getElem?_append_left:=@List.getElem?_append_left
theorem KH:type_of% @List.getElem?_map:=@List.getElem?_map
theorem KI:type_of% @List.length_take:=@List.length_take
theorem KJ:type_of% @List.getElem?_append_right:=@List.getElem?_append_right
theorem KM:type_of% @Option.map_some:=@Option.map_some
theorem KO:type_of% @List.isEmpty_cons:=@List.isEmpty_cons
theorem KQ:type_of% @List.getElem?_eq_none:=@List.getElem?_eq_none
theorem KR:type_of% @List.mem_flatMap:=@List.mem_flatMap
theorem KS:type_of% @Nat.zero_add:=@Nat.zero_add
theorem KT:type_of% @Nat.add_assoc:=@Nat.add_assoc
theorem KU:type_of% @Array.getElem?_eq_getElem:=@Array.getElem?_eq_getElem
theorem KV:type_of% @List.mem_map:=@List.mem_map
theorem KW:type_of% @List.mem_of_mem_drop:=@List.mem_of_mem_drop
theorem KX:type_of% @List.drop_of_length_le:=@List.drop_of_length_le
theorem KY:type_of% @List.getElem?_cons_succ:=@List.getElem?_cons_succ
theorem KZ:type_of% @List.getElem?_cons_zero:=@List.getElem?_cons_zero
theorem K0:type_of% @List.getElem?_set_ne:=@List.getElem?_set_ne
theorem K3:type_of% @Option.isSome_iff_exists:=@Option.isSome_iff_exists
theorem K4:type_of% @List.take_succ_cons:=@List.take_succ_cons
theorem K5:type_of% @List.contains_cons:=@List.contains_cons
theorem K6:type_of% @Bool.or_eq_true:=@Bool.or_eq_true
theorem K7:type_of% @Option.some.inj:=@Option.some.inj
theorem K8:type_of% @Option.getD_some:=@Option.getD_some
theorem K9:type_of% @List.isEmpty_nil:=@List.isEmpty_nil
theorem Va:type_of% @List.map_append:=@List.map_append
theorem Vb:type_of% @Bool.true_eq_false:=@Bool.true_eq_false
theorem Vc:type_of% @Nat.le_trans:=@Nat.le_trans
theorem Vd:type_of% @Bool.eq_iff_iff:=@Bool.eq_iff_iff
theorem Ve:type_of% @List.getElem?_set_self:=@List.getElem?_set_self
theorem Vf:type_of% @List.contains_nil:=@List.contains_nil
theorem Vg:type_of% @List.getElem?_take_of_lt:=@List.getElem?_take_of_lt
theorem Vh:type_of% @Nat.mul_le_mul_right:=@Nat.mul_le_mul_right
theorem Vi:type_of% @Nat.add_mul:=@Nat.add_mul
theorem Vj:type_of% @Bool.false_or:=@Bool.false_or
theorem Vk:type_of% @List.mem_iff_getElem:=@List.mem_iff_getElem
theorem Vl:type_of% @List.take_append_drop:=@List.take_append_drop
theorem Vm:type_of% @Prod.mk.injEq:=@Prod.mk.injEq
theorem Vn:type_of% @List.map_map:=@List.map_map
theorem Vo:type_of% @List.getElem?_append:=@List.getElem?_append
theorem Vp:type_of% @List.getElem?_of_mem:=@List.getElem?_of_mem
theorem Vq:type_of% @List.not_mem_nil:=@List.not_mem_nil
theorem Vr:type_of% @List.getD_cons_succ:=@List.getD_cons_succ
theorem Vs:type_of% @Nat.add_zero:=@Nat.add_zero
theorem Vt:type_of% @Bool.true_and:=@Bool.true_and
theorem Vu:type_of% @Bool.or_false:=@Bool.or_false
theorem Vv:type_of% @List.contains_iff_mem:=@List.contains_iff_mem
theorem Vw:type_of% @List.ext_getElem?:=@List.ext_getElem?
theorem Vx:type_of% @List.getD_cons_zero:=@List.getD_cons_zero
theorem Vy:type_of% @List.all_cons:=@List.all_cons
theorem Vz:type_of% @List.foldl_cons:=@List.foldl_cons
theorem VA:type_of% @List.getElem?_take:=@List.getElem?_take
theorem VB:type_of% @List.getElem?_drop:=@List.getElem?_drop
theorem VC:type_of% @List.take_zero:=@List.take_zero
theorem VD:type_of% @Array.getElem?_eq_some_iff:=@Array.getElem?_eq_some_iff
theorem VE:type_of% @List.replicate_succ:=@List.replicate_succ
theorem VF:type_of% @List.getElem?_range:=@List.getElem?_range
theorem VG:type_of% @Nat.add_sub_cancel_left:=@Nat.add_sub_cancel_left
theorem VH:type_of% @List.flatMap_cons:=@List.flatMap_cons
theorem VI:type_of% @List.mem_of_find?_eq_some:=@List.mem_of_find?_eq_some
theorem VJ:type_of% @List.mem_map_of_mem:=@List.mem_map_of_mem
theorem VK:type_of% @Option.bind_some:=@Option.bind_some
theorem VL:type_of% @Bool.false_and:=@Bool.false_and
theorem VM:type_of% @Option.bind_eq_some_iff:=@Option.bind_eq_some_iff
theorem VN:type_of% @List.flatMap_eq_nil_iff:=@List.flatMap_eq_nil_iff
theorem VO:type_of% @List.length_eq_zero_iff:=@List.length_eq_zero_iff
theorem VP:type_of% @Nat.and_two_pow_sub_one_eq_mod:=@Nat.and_two_pow_sub_one_eq_mod
theorem VQ:type_of% @List.set_set:=@List.set_set
theorem VR:type_of% @List.drop_eq_getElem_cons:=@List.drop_eq_getElem_cons
theorem VT:type_of% @Nat.min_eq_left:=@Nat.min_eq_left
theorem VU:type_of% @List.drop_append_of_le_length:=@List.drop_append_of_le_length
theorem VV:type_of% @Array.length_toList:=@Array.length_toList
theorem VW:type_of% @Array.getElem?_toList:=@Array.getElem?_toList
theorem VX:type_of% @Array.getElem?_modify:=@Array.getElem?_modify
theorem VY:type_of% @Function.comp_def:=@Function.comp_def
theorem VZ:type_of% @List.length_drop:=@List.length_drop
theorem V0:type_of% @List.append_eq_nil_iff:=@List.append_eq_nil_iff
theorem V1:type_of% @List.map_congr_left:=@List.map_congr_left
theorem V2:type_of% @Int.toNat_natCast:=@Int.toNat_natCast
theorem V3:type_of% @List.mem_or_eq_of_mem_set:=@List.mem_or_eq_of_mem_set
theorem V4:type_of% @List.mem_filter:=@List.mem_filter
theorem V5:type_of% @List.mem_replicate:=@List.mem_replicate
theorem V6:type_of% @Nat.pos_of_ne_zero:=@Nat.pos_of_ne_zero
theorem V7:type_of% @Bool.and_self:=@Bool.and_self
theorem V8:type_of% @Bool.true_or:=@Bool.true_or
theorem V9:type_of% @List.map_take:=@List.map_take
theorem Wa:type_of% @Bool.and_false:=@Bool.and_false
open Go (IntKind BinOp UnOp)

inductive AV where
 | dead
 | int (k:IntKind) (n:Int)
 | bool (b:Bool)
 | str (s:List UInt8)
 | nilp
 | nilf
 | nili
 | nilm
 | snil (n:Nat)
 | tsl (n:Nat) (l:List AV)
 | sref (n r i len:Nat)
 | ptr (n r i off:Nat)
 | tptr (cs:List AV) (off:Nat)
 | mref (r:Nat)
 | iref (r:Nat)
 | agg (cs:List AV)
 | tup (vs:List AV)
 | fn (f:Nat) (cap:List AV)
 | ifc (t:Nat) (v:AV)
 deriving Inhabited

def AV.cells:AV→List AV
 | .agg cs=>cs
 | x=>[x]

def AV.pureN:Nat→AV→Bool
 | 0,_=>false
 | _+1,.sref .. => false
 | _+1,.ptr .. => false
 | _+1,.mref _=>false
 | _+1,.iref _=>false
 | k+1,.agg cs=>cs.all (AV.pureN k)
 | k+1,.tup cs=>cs.all (AV.pureN k)
 | k+1,.fn _ cs=>cs.all (AV.pureN k)
 | k+1,.ifc _ v=>AV.pureN k v
 | _+1,_=>true

def AV.isPure (v:AV):Bool:=AV.pureN 6 v

def AV.young:AV→Bool
 | .snil _=>true
 | _=>false
def AV.aged:AV→Bool
 | .agg cs=>cs.all fun c=>!c.young
 | x=>!x.young

def AV.plainN:Nat→AV→Bool
 | 0,_=>false
 | _+1,.int .. => true
 | _+1,.bool _=>true
 | _+1,.str _=>true
 | _+1,.snil _=>true
 | _+1,.nilp=>true
 | _+1,.nilm=>true
 | _+1,.nilf=>true
 | _+1,.nili=>true
 | k+1,.agg cs=>cs.all (AV.plainN k)
 | k+1,.tup cs=>cs.all (AV.plainN k)
 | _+1,_=>false

def AV.isPlain (v:AV):Bool:=AV.plainN 6 v

def AV.one:AV→Bool
 | .dead=>false
 | .agg _=>false
 | .tup _=>false
 | _=>true

def AV.solid:AV→Bool
 | .dead=>false
 | .tup _=>false
 | _=>true

inductive Blk where
 | gone
 | resv
 | row (n:Nat) (els:List AV) (ro fl:Bool) (fam:Nat)
 | map (es:List (AV × AV))
 | iter (s:List UInt8) (pos:Nat)
 deriving Inhabited

abbrev Heap:=List Blk

def q1L {α β:Type} (f:α→Option β):List α→Option (List β)
 | []=>some []
 | x::xs=>
  match f x with
  | none=>none
  | some y=>
   match q1L f xs with
   | none=>none
   | some ys=>some (y::ys)


inductive CK where
 | bool
 | int
 | str
 deriving DecidableEq,Inhabited

inductive POp where
 | move
 | pick
 | build (z:List AV) (pl:List (Nat × Nat))
 | bin (op:BinOp)
 | eqB (neg:Bool)
 | eqF (sh:List CK) (neg:Bool)
 | eqN (kind:Nat) (neg:Bool)
 | un (op:UnOp)
 | conv (k:IntKind)
 | convStr
 | runeStr
 | ext (i:Nat)
 | field (off n:Nat) (agg:Bool)
 | idxArr (len n:Nat) (agg:Bool)
 | idxStr
 | faddr (off:Nat)
 | iaddrS (n:Nat)
 | iaddrA (len n:Nat)
 | sliceS (lo hi:Bool)
 | sliceL (n:Nat) (lo hi mx:Bool)
 | lenS
 | lenL
 | lenC (n:Nat)
 | chk
 | mkfn (f:Nat)
 | mkifc (t:Nat)
 | minmax (isMax:Bool)
 deriving Inhabited

def qkl (op:BinOp) (k:IntKind) (a b:Int):Option AV:=
 match op with
 | .add=>some (.int k (k.wrap (a+b)))
 | .sub=>some (.int k (k.wrap (a-b)))
 | .mul=>some (.int k (k.wrap (a * b)))
 | .quo=>if b=0 then none else some (.int k (k.wrap (a.tdiv b)))
 | .rem=>if b=0 then none else some (.int k (a.tmod b))
 | .and=>some (.int k (k.wrap (BitVec.ofInt k.bits a &&& BitVec.ofInt k.bits b).toNat))
 | .or=>some (.int k (k.wrap (BitVec.ofInt k.bits a ||| BitVec.ofInt k.bits b).toNat))
 | .xor=>some (.int k (k.wrap (BitVec.ofInt k.bits a ^^^ BitVec.ofInt k.bits b).toNat))
 | .andNot=>some (.int k (k.wrap (BitVec.ofInt k.bits a &&& ~~~ BitVec.ofInt k.bits b).toNat))
 | .eql=>some (.bool (a == b))
 | .neq=>some (.bool (a != b))
 | .lss=>some (.bool (decide (a<b)))
 | .leq=>some (.bool (decide (a≤b)))
 | .gtr=>some (.bool (decide (a>b)))
 | .geq=>some (.bool (decide (a≥b)))
 | .shl | .shr=>none

def q9r (op:BinOp) (k:IntKind) (a b:Int):Option AV:=
 if b<0 then none else
 match op with
 | .shl=>some (.int k (k.wrap (a * 2^min b.toNat k.bits)))
 | .shr=>some (.int k (a.fdiv (2^min b.toNat k.bits)))
 | _=>none

def lim:Nat:=2^31

def qjV (op:BinOp) (a b:List UInt8):Option AV:=
 match op with
 | .add=>if a.length+b.length≤lim then some (.str (a++b)) else none
 | .eql=>some (.bool (a == b))
 | .neq=>some (.bool (!(a == b)))
 | .lss=>some (.bool (Go.Op.bytesLess a b))
 | .leq=>some (.bool (Go.Op.bytesLess a b || a == b))
 | .gtr=>some (.bool (!(Go.Op.bytesLess a b || a == b)))
 | .geq=>some (.bool (!Go.Op.bytesLess a b))
 | _=>none

def q31:CK→AV→AV→Option Bool
 | .int,.int k a,.int k' b=>if k=k' then some (a == b) else none
 | .bool,.bool a,.bool b=>some (a == b)
 | .str,.str a,.str b=>some (a == b)
 | _,_,_=>none

def q3p:List CK→List AV→List AV→Option Bool
 | [],[],[]=>some true
 | c::cs,x::xs,y::ys=>
  match q31 c x y with
  | none=>none
  | some a=>
   match q3p cs xs ys with
   | none=>none
   | some b=>some (a && b)
 | _,_,_=>none

def qgO (op:BinOp) (k:IntKind) (a:Int) (k':IntKind) (b:Int):Option AV:=
 match op with
 | .shl=>q9r .shl k a b
 | .shr=>q9r .shr k a b
 | op=>if k=k' then qkl op k a b else none

def qqS (op:BinOp) (x y:AV):Option AV:=
 match x with
 | .int k a=>
  match y with
  | .int k' b=>qgO op k a k' b
  | _=>none
 | .str a=>
  match y with
  | .str b=>qjV op a b
  | _=>none
 | _=>none

def qb0 (neg:Bool):Option Bool→Option AV
 | some b=>some (.bool (if neg then !b else b))
 | none=>none

def qve (neg:Bool):List AV→Option AV
 | [x,y]=>qb0 neg (q31 .bool x y)
 | _=>none

def qvq (sh:List CK) (neg:Bool):List AV→Option AV
 | [.agg xs,.agg ys]=>qb0 neg (q3p sh xs ys)
 | _=>none

def qqr:Nat→AV→AV→Option Bool
 | 0,.nilp,.nilp=>some true
 | 0,.nilp,.tptr .. => some false
 | 0,.tptr ..,.nilp=>some false
 | 0,.nilp,.ptr .. => some false
 | 0,.ptr ..,.nilp=>some false
 | 1,.nilm,.nilm=>some true
 | 1,.nilm,.mref _=>some false
 | 1,.mref _,.nilm=>some false
 | 2,.nilf,.nilf=>some true
 | 2,.fn ..,.nilf=>some false
 | 2,.nilf,.fn .. => some false
 | 3,.ifc ..,.nili=>some false
 | 3,.nili,.ifc .. => some false
 | _,_,_=>none

def qvk (kind:Nat) (neg:Bool):List AV→Option AV
 | [x,y]=>qb0 neg (qqr kind x y)
 | _=>none

def qwC (op:UnOp):AV→Option AV
 | .int k n=>
  match op with
  | .neg=>some (.int k (k.wrap (0-n)))
  | .xor=>some (.int k (k.wrap (BitVec.ofInt k.bits (if k.signed then -1 else k.max) ^^^ BitVec.ofInt k.bits n).toNat))
  | _=>none
 | .bool b=>
  match op with
  | .not=>some (.bool (!b))
  | _=>none
 | _=>none

def part (cs:List AV) (off n:Nat) (agg:Bool):Option AV:=
 match agg with
 | true=>if off+n≤cs.length then some (.agg ((cs.drop off).take n)) else none
 | false=>cs[off]?

def q3T:List AV→List ((Nat × Nat) × AV)→Option (List AV)
 | cs,[]=>some cs
 | cs,((off,n),v)::rest=>
  if v.cells.length=n∧off+n≤cs.length then q3T (cs.take off++v.cells++cs.drop (off+n)) rest else none

def q7J (len:Nat) (l h:Int):Option (Nat × Nat × Bool):=
 if 0≤l∧l≤h∧h≤len then some (l.toNat,h.toNat,false) else none
def qem (len:Nat) (l h m:Int):Option (Nat × Nat × Bool):=
 if 0≤l∧l≤h∧h≤m∧m≤len then some (l.toNat,h.toNat,decide (m=l)) else none
def q3g (len:Nat) (lo hi mx:Bool) (bs:List AV):Option (Nat × Nat × Bool):=
 match lo with
 | false=>
  match hi with
  | false=>
   match mx,bs with
   | false,[]=>q7J len 0 len
   | _,_=>none
  | true=>
   match mx,bs with
   | false,[.int _ h]=>q7J len 0 h
   | true,[.int _ h,.int _ m]=>qem len 0 h m
   | _,_=>none
 | true=>
  match hi with
  | false=>
   match mx,bs with
   | false,[.int _ l]=>q7J len l len
   | _,_=>none
  | true=>
   match mx,bs with
   | false,[.int _ l,.int _ h]=>q7J len l h
   | true,[.int _ l,.int _ h,.int _ m]=>qem len l h m
   | _,_=>none

def qcD (s:List UInt8):Option (Nat × Nat × Bool)→Option AV
 | some (l,h,_)=>some (.str ((s.take h).drop l))
 | none=>none
def qaF (lo hi:Bool):List AV→Option AV
 | .str s::bs=>qcD s (q3g s.length lo hi false bs)
 | _=>none
def q9l (n:Nat) (xs:List AV):Option (Nat × Nat × Bool)→Option AV
 | some (l,h,z)=>if z then some (.snil n) else some (.tsl n ((xs.take h).drop l))
 | none=>none
def q9a (n r i:Nat):Option (Nat × Nat × Bool)→Option AV
 | some (l,h,z)=>if z then some (.snil n) else some (.sref n r (i+l) (h-l))
 | none=>none
def q95 (n:Nat):Option (Nat × Nat × Bool)→Option AV
 | some _=>some (.snil n)
 | none=>none
def qaW (n:Nat) (lo hi mx:Bool):List AV→Option AV
 | .tsl m xs::bs=>if m=n then q9l n xs (q3g xs.length lo hi mx bs) else none
 | .sref m r i len::bs=>if m=n then q9a n r i (q3g len lo hi mx bs) else none
 | .snil m::bs=>q95 m (q3g 0 lo hi mx bs)
 | _=>none

def qrz (isMax:Bool):AV→List AV→Option AV
 | x,[]=>some x
 | .int k a,.int k' b::rest=>if k=k' then qrz isMax (.int k (if isMax then (if b>a then b else a) else (if b<a then b else a))) rest else none
 | _,_=>none

def qo9:List AV→Option AV
 | [x]=>some x
 | _=>none
def qmN:List AV→Option AV
 | [.bool c,a,b]=>some (if c then a else b)
 | _=>none
def q9W (z:List AV) (pl:List (Nat × Nat)) (args:List AV):Option AV:=
 if pl.length=args.length∧args.all AV.solid=true then (q3T z (pl.zip args)).map .agg else none
def quO (op:BinOp):List AV→Option AV
 | [x,y]=>qqS op x y
 | _=>none
def xUn (op:UnOp):List AV→Option AV
 | [x]=>qwC op x
 | _=>none
def qob (k:IntKind):List AV→Option AV
 | [.int _ n]=>some (.int k (k.wrap n))
 | _=>none
def q9e:List AV→Option AV
 | [.str s]=>some (.str s)
 | _=>none
def qqL:List AV→Option AV
 | [.int _ n]=>some (.str (Go.Utf8.encode n).data.toList)
 | _=>none
def qv9 (i:Nat):List AV→Option AV
 | [.tup vs]=>vs[i]?
 | _=>none
def qgl (off n:Nat) (agg:Bool):List AV→Option AV
 | [.agg cs]=>part cs off n agg
 | _=>none
def qd1 (ln n:Nat) (agg:Bool):List AV→Option AV
 | [.agg cs,.int _ i]=>if 0≤i∧i<ln then part cs (i.toNat * n) n agg else none
 | _=>none
def qbG:Option UInt8→Option AV
 | some b=>some (.int .u8 b.toNat)
 | none=>none
def qcv:List AV→Option AV
 | [.str s,.int _ i]=>if 0≤i then qbG s[i.toNat]? else none
 | _=>none
def qhf (off:Nat):List AV→Option AV
 | [.ptr n r i o]=>some (.ptr n r i (o+off))
 | [.tptr cs o]=>some (.tptr cs (o+off))
 | _=>none
def qgH:Option AV→Option AV
 | some x=>some (.tptr x.cells 0)
 | none=>none
def qd2 (n:Nat):List AV→Option AV
 | [.tsl m l,.int _ i]=>if 0≤i∧m=n then qgH l[i.toNat]? else none
 | [.sref m r j ln,.int _ i]=>if 0≤i∧i<ln∧m=n then some (.ptr n r (j+i.toNat) 0) else none
 | _=>none
def qcj (ln n:Nat):List AV→Option AV
 | [.ptr m r j off,.int _ i]=>if 0≤i∧i<ln then (if m=n∧off=0 then some (.ptr m r (j+i.toNat) 0) else some (.ptr m r j (off+i.toNat * n))) else none
 | [.tptr cs o,.int _ i]=>if 0≤i∧i<ln then some (.tptr cs (o+i.toNat * n)) else none
 | _=>none
def qmL:List AV→Option AV
 | [.str s]=>some (.int .i64 s.length)
 | _=>none
def qnj:List AV→Option AV
 | [.tsl _ l]=>some (.int .i64 l.length)
 | [.sref _ _ _ ln]=>some (.int .i64 ln)
 | [.snil _]=>some (.int .i64 0)
 | _=>none
def quQ:List AV→Option AV
 | [.ptr n r i o]=>some (.ptr n r i o)
 | [.tptr cs o]=>some (.tptr cs o)
 | [.fn f cap]=>some (.fn f cap)
 | _=>none
def qwI (t:Nat):List AV→Option AV
 | [x]=>some (.ifc t x)
 | _=>none
def xMM (m:Bool):List AV→Option AV
 | x::rest=>qrz m x rest
 | _=>none

def POp.exec (p:POp) (args:List AV):Option AV:=
 match p with
 | .move=>qo9 args
 | .pick=>qmN args
 | .build z pl=>q9W z pl args
 | .bin op=>quO op args
 | .un op=>xUn op args
 | .conv k=>qob k args
 | .convStr=>q9e args
 | .runeStr=>qqL args
 | .ext i=>qv9 i args
 | .field off n agg=>qgl off n agg args
 | .idxArr ln n agg=>qd1 ln n agg args
 | .idxStr=>qcv args
 | .faddr off=>qhf off args
 | .iaddrS n=>qd2 n args
 | .iaddrA ln n=>qcj ln n args
 | .eqB neg=>qve neg args
 | .eqF sh neg=>qvq sh neg args
 | .eqN k neg=>qvk k neg args
 | .sliceS lo hi=>qaF lo hi args
 | .sliceL n lo hi mx=>qaW n lo hi mx args
 | .lenS=>qmL args
 | .lenL=>qnj args
 | .lenC n=>some (.int .i64 n)
 | .chk=>quQ args
 | .mkfn f=>some (.fn f args)
 | .mkifc t=>qwI t args
 | .minmax m=>xMM m args


inductive KK where
 | one (c:CK)
 | many (sh:List CK)
 deriving Inhabited

inductive ROp where
 | load (sz:Option Nat)
 | bytesStr
 | lenMap
 | lookup (kk:KK) (zero:AV) (ok:Bool)
 | sliceArr (len n:Nat) (lo hi:Bool)
 | lookupK (sh:List CK) (zero:AV) (ok:Bool)
 deriving Inhabited

def q5r (cs:List AV) (off:Nat):Option Nat→Option AV
 | none=>cs[off]?
 | some n=>if off+n≤cs.length then some (.agg ((cs.drop off).take n)) else none

def flat:List AV→List AV
 | []=>[]
 | x::xs=>x.cells++flat xs

def oneCell (off:Nat):Option AV→Option AV
 | some e=>e.cells[off]?
 | none=>none

def qfT (n off m:Nat):Option AV→Option AV
 | some e=>if off=0∧m=n then some (.agg e.cells) else q5r e.cells off (some m)
 | none=>none

def qcO (n i off:Nat) (sz:Option Nat) (n':Nat) (els:List AV):Option AV:=
 if n'=n then
  match sz with
  | none=>oneCell off els[i]?
  | some m=>
   if off+m≤n then qfT n off m els[i]?
   else if off=0∧m % n=0∧i+m / n≤els.length then some (.agg (flat ((els.drop i).take (m / n)))) else none
 else none

def q75 {α:Type} (b:Option Blk) (k:Nat→List AV→Bool→Bool→Nat→Option α):Option α:=
 match b with
 | some (.row n els ro fl fam)=>k n els ro fl fam
 | _=>none

def q8Z {α:Type} (b:Option Blk) (k:List (AV × AV)→Option α):Option α:=
 match b with
 | some (.map es)=>k es
 | _=>none

def Heap.load (H:Heap) (n r i off:Nat) (sz:Option Nat):Option AV:=q75 H[r]? fun n' els _ _ _=>qcO n i off sz n' els

def q6y:AV→Option UInt8
 | .int .u8 n=>some (UInt8.ofNat n.toNat)
 | _=>none

def q44:KK→AV→AV→Option Bool
 | .one c,x,y=>q31 c x y
 | .many sh,.agg xs,.agg ys=>q3p sh xs ys
 | _,_,_=>none

def findKey (kk:KK) (k:AV):List (AV × AV)→Nat→Option (Option (Nat × AV))
 | [],_=>some none
 | (k',v)::es,i=>
  match q44 kk k k' with
  | none=>none
  | some true=>some (some (i,v))
  | some false=>findKey kk k es (i+1)

def qjH (sz:Option Nat) (H:Heap):List AV→Option AV
 | [.tptr cs off]=>q5r cs off sz
 | [.ptr n r i off]=>H.load n r i off sz
 | _=>none
def qqe:Option (List AV)→Option AV
 | some l=>(q1L q6y l).map .str
 | none=>none
def Heap.elems (H:Heap) (n:Nat):AV→Option (List AV)
 | .snil _=>some []
 | .tsl m l=>if m=n∨l=[] then some l else none
 | .sref m r i len=>q75 H[r]? fun n' els _ _ _=>if n'=n∧m=n∧i+len≤els.length then some ((els.drop i).take len) else none
 | _=>none

def q5F (H:Heap):List AV→Option AV
 | [x]=>qqe (H.elems 1 x)
 | _=>none
def qan (H:Heap):List AV→Option AV
 | [.mref r]=>q8Z H[r]? fun es=>some (.int .i64 es.length)
 | [.nilm]=>some (.int .i64 0)
 | _=>none
def qhL (zero:AV) (ok:Bool):Option (Option (Nat × AV))→Option AV
 | some (some (_,v))=>some (if ok then .tup [v,.bool true] else v)
 | some none=>some (if ok then .tup [zero,.bool false] else zero)
 | none=>none
def q5n (kk:KK) (zero:AV) (ok:Bool) (H:Heap):List AV→Option AV
 | [.mref r,k]=>q8Z H[r]? fun es=>qhL zero ok (findKey kk k es 0)
 | [.nilm,_]=>qhL zero ok (some none)
 | _=>none
def q5e (sh:List CK):AV→Bool
 | .agg cs=>match q3p sh cs cs with
  | some b=>b
  | none=>false
 | _=>false
def q7d (sh:List CK) (zero:AV) (ok:Bool) (H:Heap):List AV→Option AV
 | [m,k]=>if q5e sh k=true then q5n (.many sh) zero ok H [m,k] else none
 | _=>none
def qay (len n:Nat) (lo hi:Bool) (H:Heap):List AV→Option AV
 | .ptr m r i off::bs=>
  match q3g len lo hi false bs with
  | some (l,h,_)=>q75 H[r]? fun n' els _ _ _=>if n'=n∧m=n∧off=0∧i+len≤els.length then some (if l<h then .sref n r (i+l) (h-l) else .tsl n []) else none
  | none=>none
 | _=>none

def ROp.exec (p:ROp) (args:List AV) (H:Heap):Option AV:=
 match p with
 | .load sz=>qjH sz H args
 | .bytesStr=>q5F H args
 | .lenMap=>qan H args
 | .lookup kk zero ok=>q5n kk zero ok H args
 | .sliceArr len n lo hi=>qay len n lo hi H args
 | .lookupK sh zero ok=>q7d sh zero ok H args


inductive NOp where
 | new (n:Nat) (els:List AV)
 | box (n:Nat)
 | buildSlice (n:Nat) (z:List AV) (pl:List Nat)
 | mkSlice (n bytes:Nat) (z:AV)
 | mkMap
 | strBytes
 | newB (p:Nat)
 deriving Inhabited

inductive EOp where
 | store (sz:Nat)
 | append (n bytes:Nat)
 | appendStr
 | copy (n:Nat)
 | mapSet (kk:KK)
 | delete (kk:KK)
 | clearMap
 | clearS (z:AV)
 | mapSetK (sh:List CK)
 | panic
 deriving Inhabited

def setCells (e:AV) (off:Nat) (vs:List AV):AV:=
 match e with
 | .agg cs=>.agg (cs.take off++vs++cs.drop (off+vs.length))
 | x=>match off,vs with
  | 0,[v]=>v
  | _,_=>x

def q8w (n:Nat):Nat→List AV→List AV
 | 0,_=>[]
 | k+1,cs=>(if n=1 then (cs[0]?).getD .dead else .agg (cs.take n))::q8w n k (cs.drop n)

def q0D (r fam from_:Nat):Heap→Nat→Option Heap
 | [],_=>some []
 | b::bs,j=>
  match q0D r fam from_ bs (j+1) with
  | none=>none
  | some bs'=>
   match b with
   | .row n els ro fl fam'=>
    if fam'=fam∧j≠r∧from_≤els.length then (if ro then none else some (.gone::bs')) else some (.row n els ro fl fam'::bs')
   | b=>some (b::bs')

def Heap.strike (H:Heap) (r fam:Nat) (from_:Nat):Option Heap:=q0D r fam from_ H 0

def q40 (n off:Nat) (vs:List AV) (e:AV):AV:=
 if off=0∧vs.length=n then (match e with | .agg _=>.agg vs | e=>setCells e off vs) else setCells e off vs

def q9i (n i off:Nat) (vs:List AV) (els:List AV):Option (List AV):=
 if off+vs.length≤n then
  match els[i]? with
  | some e=>some (els.set i (q40 n off vs e))
  | none=>none
 else if off=0∧vs.length % n=0∧i+vs.length / n≤els.length then some (els.take i++q8w n (vs.length / n) vs++els.drop (i+vs.length / n))
 else none

def qpq {α β γ:Type} (x:Option α) (y:Option β) (k:α→β→γ):Option γ:=
 match x,y with
 | some a,some b=>some (k a b)
 | _,_=>none

def Heap.store (H:Heap) (n r i off:Nat) (vs:List AV):Option Heap:=
 q75 H[r]? fun n' els ro fl fam=>
  if n'=n∧ro=false then qpq (q9i n i off vs els) (H.strike r fam 0) fun els' H'=>H'.set r (.row n els' false (fl && vs.all (AV.pureN 5)) fam)
  else none

def q3t (H:Heap) (n m:Nat) (nfl:Bool):List AV→AV × Heap
 | []=>(.snil m,H)
 | x::xs=>(.sref n H.length 0 (xs.length+1),H++[.row n (x::xs) false nfl H.length])

def Heap.append (H:Heap) (n bytes:Nat) (s:AV) (news:List AV) (nfl:Bool):Option (AV × Heap):=
 match s with
 | .snil m=>if news.length * bytes≤2^40∧news.length≤lim then some (q3t H n m nfl news) else none
 | .sref m r i len=>
  q75 H[r]? fun n' els _ fl fam=>
   if n'=n∧m=n∧i+len≤els.length∧(len+news.length) * bytes≤2^40∧len+news.length≤lim then
    if i=0∧len=els.length then
     (H.strike r fam (len+1)).map fun H'=>(.sref n H.length 0 (len+news.length),H'++[.row n (els++news) false (fl && nfl) fam])
    else
     (H.strike H.length fam 0).map fun H'=>(.sref n H.length 0 (len+news.length),H'++[.row n ((els.drop i).take len++news) false (fl && nfl) H.length])
   else none
 | _=>none

def Heap.flatOf (H:Heap):AV→Bool
 | .sref _ r _ _=>match H[r]? with
  | some (.row _ _ _ fl _)=>fl
  | _=>false
 | _=>true

def qtW (n:Nat) (els:List AV) (id:Nat):List AV→Option (AV × Blk)
 | []=>some (.ptr n id 0 0,.row n els false true id)
 | _=>none
def qtx (n:Nat) (id:Nat):List AV→Option (AV × Blk)
 | [v]=>
  if v.cells.all AV.one=false then none
  else if v.cells.length=n then some (.ptr n id 0 0,.row n [v] false v.isPure id)
  else if v.cells.length % n=0 then some (.ptr n id 0 0,.row n (q8w n (v.cells.length / n) v.cells) false v.isPure id)
  else none
 | _=>none
def q4o (n:Nat) (z:List AV) (pl:List Nat) (id:Nat) (args:List AV):Option (AV × Blk):=
 if pl.length=args.length∧args.all (fun v=>decide (v.cells.length=n) && v.cells.all AV.one)=true∧pl.all (fun i=>decide (i<z.length))=true then
  (match z with
  | []=>some (.snil n,.gone)
  | _=>some (.sref n id 0 z.length,.row n ((pl.zip args).foldl (fun l x=>l.set x.1 x.2) z) false (args.all fun v=>v.isPure && v.aged) id))
 else none
def q7n (n bytes:Nat) (z:AV) (id:Nat):List AV→Option (AV × Blk)
 | [.int _ l,.int _ c]=>
  if 0≤l∧l≤c∧c * bytes≤2^40∧c≤lim then
   (if c=0 then some (.snil n,.gone) else some (.sref n id 0 l.toNat,.row n (List.replicate c.toNat z) false z.aged id))
  else none
 | _=>none
def qbL (id:Nat):List AV→Option (AV × Blk)
 | []=>some (.mref id,.map [])
 | [.int _ _]=>some (.mref id,.map [])
 | _=>none
def qaI (id:Nat):List AV→Option (AV × Blk)
 | [.str b]=>some (.sref 1 id 0 b.length,.row 1 (b.map fun c=>.int .u8 c.toNat) false true id)
 | _=>none

def qkN (p:Nat) (id:Nat):List AV→Option (AV × Blk)
 | []=>some (.iref id,.iter [] p)
 | _=>none

def NOp.exec (p:NOp) (args:List AV) (id:Nat):Option (AV × Blk):=
 match p with
 | .new n els=>qtW n els id args
 | .box n=>qtx n id args
 | .buildSlice n z pl=>q4o n z pl id args
 | .mkSlice n bytes z=>q7n n bytes z id args
 | .mkMap=>qbL id args
 | .strBytes=>qaI id args
 | .newB p=>qkN p id args

def qkZ (H:Heap):AV × Heap:=(.tup [],H)

def qhi (sz:Nat) (H:Heap):List AV→Option (AV × Heap)
 | [.ptr n r i off,v]=>if v.cells.length=sz∧v.cells.all AV.one=true then (H.store n r i off v.cells).map qkZ else none
 | _=>none
def q2D (n bytes:Nat) (H:Heap):List AV→Option (AV × Heap)
 | [s,x]=>(H.elems n x).bind fun news=>H.append n bytes s news (H.flatOf x)
 | _=>none
def q6j (H:Heap):List AV→Option (AV × Heap)
 | [s,.str b]=>H.append 1 1 s (b.map fun c=>.int .u8 c.toNat) true
 | _=>none
def qnZ (n:Nat) (H:Heap):List AV→Option (AV × Heap)
 | [.sref m r i ln,x]=>
  (H.elems n x).bind fun xs=>q75 H[r]? fun n' els ro fl fam=>
   if n'=n∧m=n∧ro=false∧i+ln≤els.length then
    (H.strike r fam 0).map fun H'=>(.int .i64 (min xs.length ln:Nat),H'.set r (.row n (els.take i++xs.take ln++els.drop (i+min xs.length ln)) false (fl && H.flatOf x) fam))
   else none
 | [.snil _,x]=>(H.elems n x).map fun _=>(.int .i64 0,H)
 | _=>none
def qhk (H:Heap) (r:Nat) (k v:AV) (es:List (AV × AV)):Option (Option (Nat × AV))→Option (AV × Heap)
 | some (some (i,_))=>some (qkZ (H.set r (.map (es.set i (k,v)))))
 | some none=>some (qkZ (H.set r (.map (es++[(k,v)]))))
 | none=>none
def q73 (kk:KK) (H:Heap):List AV→Option (AV × Heap)
 | [.mref r,k,v]=>q8Z H[r]? fun es=>qhk H r k v es (findKey kk k es 0)
 | _=>none
def q9f (sh:List CK) (H:Heap):List AV→Option (AV × Heap)
 | [m,k,v]=>if q5e sh k=true then q73 (.many sh) H [m,k,v] else none
 | _=>none
def qkX (H:Heap) (r:Nat) (es:List (AV × AV)):Option (Option (Nat × AV))→Option (AV × Heap)
 | some (some (i,_))=>some (qkZ (H.set r (.map (es.eraseIdx i))))
 | some none=>some (qkZ H)
 | none=>none
def qle (kk:KK) (H:Heap):List AV→Option (AV × Heap)
 | [.mref r,k]=>q8Z H[r]? fun es=>qkX H r es (findKey kk k es 0)
 | _=>none
def qe2 (H:Heap):List AV→Option (AV × Heap)
 | [.mref r]=>q8Z H[r]? fun _=>some (qkZ (H.set r (.map [])))
 | _=>none

def qcC (z:AV) (H:Heap):List AV→Option (AV × Heap)
 | [.snil _]=>some (qkZ H)
 | [.sref m r i len]=>q75 H[r]? fun n' els ro fl fam=>
   if n'=z.cells.length∧m=n'∧ro=false∧i+len≤els.length then (H.strike r fam 0).map fun H'=>qkZ (H'.set r (.row n' (els.take i++List.replicate len z++els.drop (i+len)) false (fl && z.isPure) fam)) else none
 | _=>none

def EOp.exec (p:EOp) (args:List AV) (H:Heap):Option (AV × Heap):=
 match p with
 | .store sz=>qhi sz H args
 | .append n bytes=>q2D n bytes H args
 | .appendStr=>q6j H args
 | .copy n=>qnZ n H args
 | .mapSet kk=>q73 kk H args
 | .delete kk=>qle kk H args
 | .clearMap=>qe2 H args
 | .clearS z=>qcC z H args
 | .mapSetK sh=>q9f sh H args
 | .panic=>none


inductive Opd where
 | t (i:Nat)
 | c (v:AV)
 deriving Inhabited

inductive AOp where
 | pure (p:POp)
 | read (p:ROp)
 | new (p:NOp)
 | newAt (j:Nat) (p:NOp)
 | eff (p:EOp)
 | call (f:Nat)
 | pcall (f:Nat)
 | callv
 | bad
 deriving Inhabited

structure AOper where
 dst:Option Nat
 op:AOp
 args:List Opd
 guard:Option (Nat × Bool)
 deriving Inhabited

inductive ACode where
 | skip
 | ops (l:List AOper)
 | draw (k:Nat) (ls:List (List AOper))
 | seq (a b:ACode)
 | cond (x:Opd) (a b:ACode)
 | block (id:Nat) (b:ACode)
 | scope (b:ACode)
 | loop (live:List Nat) (b:ACode)
 | exit (id:Nat)
 | ret
 deriving Inhabited

inductive ResV where
 | tmp (i:Nat)
 | cell (i:Nat) (sz:Option Nat)
 deriving Inhabited

structure AFn where
 nt:Nat
 res:List ResV
 body:ACode
 deriving Inhabited

inductive Ex where
 | normal
 | exit (id:Nat)
 | ret
 deriving DecidableEq,Inhabited

structure St where
 tmps:List AV
 heap:Heap
 base:Nat
 rb:Nat:=0
 deriving Inhabited

def undef:AV:=.tup []

def St.eval (s:St):Opd→AV
 | .t i=>s.tmps.getD i undef
 | .c v=>v

def St.put (s:St) (dst:Option Nat) (v:AV) (H:Heap):St:=
 match dst with
 | some d=>{ s with tmps:=s.tmps.set d v,heap:=H }
 | none=>{ s with heap:=H }

def St.wanted (s:St):Option (Nat × Bool)→Option Bool
 | none=>some true
 | some (t,b)=>
  match s.tmps[t]? with
  | some (.bool c)=>some (c == b)
  | some (.tup [])=>some false
  | _=>none


def frz (H:Heap):Nat→AV→Option AV
 | 0,_=>none
 | k+1,.sref n r i len=>
  match H[r]? with
  | some (.row n' els _ fl _)=>
   if n'=n∧i+len≤els.length then
    (if fl then some (.tsl n ((els.drop i).take len)) else (q1L (frz H k) ((els.drop i).take len)).map (.tsl n))
   else none
  | _=>none
 | _+1,.snil n=>some (.tsl n [])
 | k+1,.agg cs=>(q1L (frz H k) cs).map .agg
 | k+1,.tup cs=>(q1L (frz H k) cs).map .tup
 | k+1,.ptr n r i off=>
  match H[r]? with
  | some (.row n' els _ fl _)=>
   if n'=n then
    (match els[i]? with
    | some e=>if fl then some (.tptr e.cells off) else (q1L (frz H k) e.cells).map fun cs=>.tptr cs off
    | none=>none)
   else none
  | _=>none
 | k+1,.fn f cap=>(q1L (frz H k) cap).map (.fn f)
 | _+1,.mref _=>none
 | _+1,.iref _=>none
 | _+1,.ifc .. => none
 | _+1,.dead=>none
 | _+1,v=>some v
end Ago
namespace Ago
mutual
def AV.bulk:AV→Nat
 | .str s=>s.length+1
 | .tsl _ l=>AV.bulks l+1
 | .agg cs=>AV.bulks cs+1
 | _=>1
def AV.bulks:List AV→Nat
 | []=>0
 | x::xs=>AV.bulk x+AV.bulks xs
end

theorem q2k : ∀ (a b:List AV),AV.bulks (a++b)=AV.bulks a+AV.bulks b
 | [],b=>by simp [AV.bulks]
 | x::a,b=>by simp [AV.bulks,q2k a b,KT]

theorem q46 (x:AV):1≤x.bulk:=by
 cases x<;>simp [AV.bulk]

end Ago
namespace Ago

def AV.refsN:Nat→AV→List Nat
 | 0,_=>[]
 | _+1,.sref _ r _ _=>[r]
 | _+1,.ptr _ r _ _=>[r]
 | _+1,.mref r=>[r]
 | _+1,.iref r=>[r]
 | k+1,.agg cs=>cs.flatMap (AV.refsN k)
 | k+1,.tup cs=>cs.flatMap (AV.refsN k)
 | k+1,.fn _ cs=>cs.flatMap (AV.refsN k)
 | k+1,.ifc _ v=>AV.refsN k v
 | _+1,_=>[]

def Blk.refs:Blk→List Nat
 | .row _ els _ fl _=>if fl then [] else els.flatMap (AV.refsN 6)
 | .map es=>es.flatMap fun x=>AV.refsN 6 x.1++AV.refsN 6 x.2
 | _=>[]

def q1M (H:Heap) (base:Nat):Nat→List Nat→List Nat→List Nat
 | 0,_,seen=>seen
 | _+1,[],seen=>seen
 | k+1,r::todo,seen=>
  if r<base then q1M H base k todo seen
  else if seen.contains r then q1M H base k todo seen
  else
   match H[r]? with
   | none=>q1M H base k todo seen
   | some b=>q1M H base k (b.refs++todo) (seen++[r])

def q0V (base:Nat) (ks:List Nat) (r:Nat):Option Nat:=
 if r<base then some r else (ks.idxOf? r).map (base + ·)

def AV.renN (f:Nat→Option Nat):Nat→AV→AV
 | 0,_=>.dead
 | _+1,.sref n r i l=>match f r with
  | some r'=>.sref n r' i l
  | none=>.dead
 | _+1,.ptr n r i o=>match f r with
  | some r'=>.ptr n r' i o
  | none=>.dead
 | _+1,.mref r=>match f r with
  | some r'=>.mref r'
  | none=>.dead
 | _+1,.iref r=>match f r with
  | some r'=>.iref r'
  | none=>.dead
 | k+1,.agg cs=>.agg (cs.map (AV.renN f k))
 | k+1,.tup cs=>.tup (cs.map (AV.renN f k))
 | k+1,.fn g cs=>.fn g (cs.map (AV.renN f k))
 | k+1,.ifc t v=>.ifc t (AV.renN f k v)
 | _+1,v=>v

def Blk.famOf:Blk→Option Nat
 | .row _ _ _ _ fam=>some fam
 | _=>none

def q2K (H:Heap) (base:Nat) (ks:List Nat) (fam:Nat):Nat:=
 if fam<base then fam else base+(ks.findIdx fun r=>(H.getD r .gone).famOf == some fam)

def Blk.ren (f:Nat→Option Nat) (g:Nat→Nat):Blk→Blk
 | .row n els ro fl fam=>.row n (if fl then els else els.map (AV.renN f 6)) ro fl (g fam)
 | .map es=>.map (es.map fun x=>(AV.renN f 6 x.1,AV.renN f 6 x.2))
 | b=>b

def q0l (live:List Nat):Nat→List AV→List AV
 | _,[]=>[]
 | i,v::vs=>(if live.contains i then v else .dead)::q0l live (i+1) vs

def q1c (ks:List Nat):Heap→Nat→List (Nat × Nat)
 | [],_=>[]
 | .row _ els true _ fam::bs,j=>if ks.contains j then q1c ks bs (j+1) else (fam,els.length)::q1c ks bs (j+1)
 | _::bs,j=>q1c ks bs (j+1)

def Blk.fits (dr:List (Nat × Nat)):Blk→Bool
 | .row _ els _ _ fam=>dr.all fun d=>d.1 != fam || decide (d.2≤els.length)
 | _=>true

def Blk.roBy (dr:List (Nat × Nat)):Blk→Blk
 | .row n els ro fl fam=>.row n els (ro || dr.any fun d=>d.1 == fam) fl fam
 | b=>b

def q6U (dr:List (Nat × Nat)) (bs:List Blk):Bool:=
 match dr with
 | []=>true
 | dr=>bs.all (Blk.fits dr)

def q3i (dr:List (Nat × Nat)) (bs:List Blk):List Blk:=
 match dr with
 | []=>bs
 | dr=>bs.map (Blk.roBy dr)

def q4l (b:Bool) (s t:St):St:=
 match b with
 | true=>t
 | false=>s

def q1f (f:Nat→Option Nat) (bs:List Blk):Bool:=bs.all fun b=>b.refs.all fun q=>(f q).isSome

def St.normBy (s:St) (tm:List AV) (ks:List Nat):St:=
 let kept:=s.heap.take s.base++ks.map fun r=>s.heap.getD r .gone
 let dr:=q1c ks (s.heap.drop s.base) s.base
 q4l (q1f (q0V s.base ks) kept && q6U dr kept) s
  { tmps:=tm.map (AV.renN (q0V s.base ks) 6),heap:=(q3i dr kept).map (Blk.ren (q0V s.base ks) (q2K s.heap s.base ks)),base:=s.base,rb:=0 }

def St.normTm (s:St) (tm:List AV):St:=s.normBy tm (q1M s.heap s.base 4000 (tm.flatMap (AV.refsN 6)++(s.heap.take s.base).flatMap Blk.refs) [])

def St.norm (live:List Nat) (s:St):St:=s.normTm (q0l live 0 s.tmps)

def q6v (s:St):ResV→Option AV
 | .tmp i=>some (s.tmps.getD i undef)
 | .cell i sz=>ROp.exec (.load sz) [s.tmps.getD i undef] s.heap

def results (res:List ResV) (s:St):Option AV:=
 match q1L (q6v s) res with
 | some [v]=>some v
 | some vs=>some (.tup vs)
 | none=>none

def q7P (base:Nat) (v:AV) (H:Heap):St:=St.norm [0] { tmps:=[v],heap:=H,base:=base }

def q0q (H:Heap):Nat→AV→List Nat
 | 0,_=>[]
 | k+1,.sref _ r i len=>
  match H[r]? with
  | some (.row _ els _ fl _)=>r::(if fl then [] else ((els.drop i).take len).flatMap (q0q H k))
  | _=>[]
 | k+1,.ptr _ r i _=>
  match H[r]? with
  | some (.row _ els _ fl _)=>r::(if fl then [] else match els[i]? with
   | some e=>e.cells.flatMap (q0q H k)
   | none=>[])
  | _=>[]
 | k+1,.agg cs=>cs.flatMap (q0q H k)
 | k+1,.tup cs=>cs.flatMap (q0q H k)
 | k+1,.fn _ cs=>cs.flatMap (q0q H k)
 | _+1,_=>[]

def Blk.mark:Blk→Blk
 | .row n els _ fl fam=>.row n els true fl fam
 | b=>b

def q0R (rs:List Nat):Nat→Heap→Heap
 | _,[]=>[]
 | j,b::bs=>(if rs.contains j then b.mark else b)::q0R rs (j+1) bs

def q1h (H:Heap) (rs:List Nat):Heap:=
 match rs with
 | []=>H
 | rs=>q0R rs 0 H

def q0L (H:Heap) (args:List AV) (v:AV):Heap:=if v.isPlain then H else q1h H (args.flatMap (q0q H 6))


def qaE (H:Heap):AV→AV
 | .sref n r i l=>match frz H 6 (.sref n r i l) with
  | some t=>t
  | none=>.sref n r i l
 | x=>x
def qi0 (H:Heap):AV→AV
 | .agg cs=>.agg (cs.map (qaE H))
 | x=>qaE H x
def q4i (H:Heap):AV→List Nat
 | .sref n r i l=>match frz H 6 (.sref n r i l) with
  | some _=>q0q H 6 (.sref n r i l)
  | none=>[]
 | _=>[]
def Blk.thaw (H:Heap):Blk→Blk
 | .row n els ro false fam=>.row n (els.map (qi0 H)) ro ((els.map (qi0 H)).all fun x=>x.isPure && x.aged) fam
 | b=>b
def Blk.thawRefs (H:Heap):Blk→List Nat
 | .row _ els _ false _=>els.flatMap fun x=>x.cells.flatMap (q4i H)
 | _=>[]
def q5y (H:Heap) (rs:List Nat):Nat→Heap→Heap
 | _,[]=>[]
 | j,b::bs=>(if rs.contains j then b.thaw H else b)::q5y H rs (j+1) bs
def q7Y (rs:List Nat) (H:Heap):Heap:=q5y H rs 0 (q1h H (rs.flatMap fun r=>(H.getD r .gone).thawRefs H))
def qfk (H:Heap):Nat→List Nat→List Nat
 | 0,rs=>rs
 | d+1,rs=>qfk H d (rs.flatMap fun r=>(H.getD r .gone).refs)
def St.thawBy (s:St) (h:Nat):St:=
 match h / 1000 with
 | 0=>s
 | 1=>{ s with tmps:=s.tmps.set (h % 1000) (qaE s.heap (s.tmps.getD (h % 1000) .dead)),heap:=q1h s.heap (q4i s.heap (s.tmps.getD (h % 1000) .dead)) }
 | d+2=>{ s with heap:=q7Y (qfk s.heap d (AV.refsN 6 (s.tmps.getD (h % 1000) .dead))) s.heap }
def q71 (live:List Nat):List Nat:=live.filter fun x=>Nat.ble 1000 x
def St.head (live:List Nat) (s:St):St:=((q71 live).foldl St.thawBy s).norm live
theorem q9R {live:List Nat} (h:q71 live=[]) (s:St):s.head live=s.norm live:=by
 unfold St.head
 rw[h]
 rfl

inductive J where
 | ops (l:List AOper) (s s':St)
 | exec (c:ACode) (s:St) (e:Ex) (s':St)
 | run (f:Nat) (args:List AV) (H:Heap) (v:AV) (H':Heap)
 | prun (f:Nat) (ts:List AV) (v:AV)

def enter (fn:AFn) (args:List AV) (H:Heap):St:=
 { tmps:=args++List.replicate (fn.nt-args.length) undef,heap:=H,base:=H.length }

def Ex.out (id:Nat) (e:Ex):Ex:=
 match e with
 | .exit i=>if i=id then .normal else .exit i
 | e=>e

def St.keep (s:St) (k:Nat):St:={ s with heap:=s.heap++List.replicate k .resv,rb:=s.heap.length }

structure Ctx where
 code:Nat→Option AFn
 prim:Nat→List AV→Heap→AV→Heap→Prop
 pprim:Nat→List AV→AV→Prop

inductive BS (C:Ctx):J→Prop where
 | prim {f:Nat} {args:List AV} {H:Heap} {v:AV} {H':Heap} (h:C.prim f args H v H'):BS C (.run f args H v H')
 | pprim {f:Nat} {ts:List AV} {v:AV} (h:C.pprim f ts v):BS C (.prun f ts v)
 | nil (s:St):BS C (.ops [] s s)
 | pass {o:AOper} {l:List AOper} {s s':St} (hw:s.wanted o.guard=some false) (h:BS C (.ops l (s.put o.dst undef s.heap) s')):BS C (.ops (o::l) s s')
 | pure {o:AOper} {l:List AOper} {s s':St} {p:POp} {v:AV} (hw:s.wanted o.guard=some true) (ho:o.op = .pure p) (hv:p.exec (o.args.map s.eval)=some v)
   (h:BS C (.ops l (s.put o.dst v s.heap) s')):BS C (.ops (o::l) s s')
 | read {o:AOper} {l:List AOper} {s s':St} {p:ROp} {v:AV} (hw:s.wanted o.guard=some true) (ho:o.op = .read p) (hv:p.exec (o.args.map s.eval) s.heap=some v)
   (h:BS C (.ops l (s.put o.dst v s.heap) s')):BS C (.ops (o::l) s s')
 | new {o:AOper} {l:List AOper} {s s':St} {p:NOp} {v:AV} {b:Blk} (hw:s.wanted o.guard=some true) (ho:o.op = .new p) (hv:p.exec (o.args.map s.eval) s.heap.length=some (v,b))
   (h:BS C (.ops l (s.put o.dst v (s.heap++[b])) s')):BS C (.ops (o::l) s s')
 | newAt {o:AOper} {l:List AOper} {s s':St} {j:Nat} {p:NOp} {v:AV} {b:Blk} (hw:s.wanted o.guard=some true) (ho:o.op = .newAt j p) (hv:p.exec (o.args.map s.eval) (s.rb+j)=some (v,b))
   (hf:s.heap[s.rb+j]?=some .resv) (h:BS C (.ops l (s.put o.dst v (s.heap.set (s.rb+j) b)) s')):BS C (.ops (o::l) s s')
 | eff {o:AOper} {l:List AOper} {s s':St} {p:EOp} {v:AV} {H':Heap} (hw:s.wanted o.guard=some true) (ho:o.op = .eff p) (hv:p.exec (o.args.map s.eval) s.heap=some (v,H'))
   (h:BS C (.ops l (s.put o.dst v H') s')):BS C (.ops (o::l) s s')
 | call {o:AOper} {l:List AOper} {s s':St} {f:Nat} {v:AV} {H':Heap} (hw:s.wanted o.guard=some true) (ho:o.op = .call f) (hv:BS C (.run f (o.args.map s.eval) s.heap v H'))
   (h:BS C (.ops l (s.put o.dst v H') s')):BS C (.ops (o::l) s s')
 | pcall {o:AOper} {l:List AOper} {s s':St} {f:Nat} {ts:List AV} {v:AV} (hw:s.wanted o.guard=some true) (ho:o.op = .pcall f) (ha:q1L (frz s.heap 6) (o.args.map s.eval)=some ts)
   (hr:BS C (.prun f ts v)) (h:BS C (.ops l (s.put o.dst v (q0L s.heap (o.args.map s.eval) v)) s')):BS C (.ops (o::l) s s')
 | callv {o:AOper} {l:List AOper} {s s':St} {f:Nat} {cap args:List AV} {v:AV} {H':Heap} (hw:s.wanted o.guard=some true) (ho:o.op = .callv) (ha:o.args.map s.eval = .fn f cap::args)
   (hv:BS C (.run f (args++cap) s.heap v H')) (h:BS C (.ops l (s.put o.dst v H') s')):BS C (.ops (o::l) s s')
 | skip (s:St):BS C (.exec .skip s .normal s)
 | ops {l:List AOper} {s s':St} (h:BS C (.ops l s s')):BS C (.exec (.ops l) s .normal s')
 | draw {k:Nat} {ls:List (List AOper)} {s s':St} (hne:ls≠[]) (h : ∀ l,l∈ls→BS C (.ops l (s.keep k) s')):BS C (.exec (.draw k ls) s .normal { s' with rb:=0 })
 | seq {a b:ACode} {s s1 s2:St} {e:Ex} (h1:BS C (.exec a s .normal s1)) (h2:BS C (.exec b s1 e s2)):BS C (.exec (.seq a b) s e s2)
 | seqE {a b:ACode} {s s1:St} {e:Ex} (h1:BS C (.exec a s e s1)) (he:e ≠ .normal):BS C (.exec (.seq a b) s e s1)
 | condT {x:Opd} {a b:ACode} {s s1:St} {e:Ex} (hx:s.eval x = .bool true) (h:BS C (.exec a s e s1)):BS C (.exec (.cond x a b) s e s1)
 | condF {x:Opd} {a b:ACode} {s s1:St} {e:Ex} (hx:s.eval x = .bool false) (h:BS C (.exec b s e s1)):BS C (.exec (.cond x a b) s e s1)
 | block {id:Nat} {b:ACode} {s s1:St} {e:Ex} (h:BS C (.exec b s e s1)):BS C (.exec (.block id b) s (e.out id) s1)
 | scope {b:ACode} {s s1:St} {e:Ex} (h:BS C (.exec b s e s1)):BS C (.exec (.scope b) s e s1)
 | loop {live:List Nat} {b:ACode} {s s1 s2:St} {e:Ex} (h1:BS C (.exec b (s.head live) .normal s1)) (h2:BS C (.exec (.loop live b) s1 e s2)):BS C (.exec (.loop live b) s e s2)
 | loopE {live:List Nat} {b:ACode} {s s1:St} {e:Ex} (h1:BS C (.exec b (s.head live) e s1)) (he:e ≠ .normal):BS C (.exec (.loop live b) s e s1)
 | exit (id:Nat) (s:St):BS C (.exec (.exit id) s (.exit id) s)
 | ret (s:St):BS C (.exec .ret s .ret s)
 | run {f:Nat} {fn:AFn} {args:List AV} {H:Heap} {e:Ex} {s':St} {v:AV} (hf:C.code f=some fn) (h:BS C (.exec fn.body (enter fn args H) e s')) (he:e = .normal∨e = .ret)
   (hr:results fn.res s'=some v):BS C (.run f args H ((q7P H.length v s'.heap).tmps.getD 0 .dead) (q7P H.length v s'.heap).heap)
 | prun {f:Nat} {fn:AFn} {ts:List AV} {e:Ex} {s':St} {u v:AV} (hf:C.code f=some fn) (h:BS C (.exec fn.body (enter fn ts []) e s')) (he:e = .normal∨e = .ret)
   (hr:results fn.res s'=some u) (hv:frz s'.heap 6 u=some v):BS C (.prun f ts v)


def q3x {α:Type} (x:Option α) (k:α→Prop):Prop:=
 match x with
 | some v=>k v
 | none=>False

def q7v (x:AV) (a b:Prop):Prop:=
 match x with
 | .bool true=>a
 | .bool false=>b
 | _=>False

def q38 (x:Option Bool) (a b:Prop):Prop:=
 match x with
 | some true=>a
 | some false=>b
 | none=>False

def qox (x:Option (AV × Blk)) (y:Option Blk) (k:AV × Blk→Prop):Prop:=
 match x,y with
 | some v,some .resv=>k v
 | _,_=>False

def qoT (l:List AV) (k:Nat→List AV→Prop):Prop:=
 match l with
 | .fn f cap::args=>k f (args++cap)
 | _=>False

def qkh (R:Nat→List AV→Heap→AV→Heap→Prop) (f:Nat) (args:List AV) (H:Heap) (k:AV→Heap→Prop):Prop:=∃ v H',R f args H v H'∧k v H'
def qoE (PR:Nat→List AV→AV→Prop) (f:Nat) (ts:List AV) (k:AV→Prop):Prop:=∃ v,PR f ts v∧k v

section
variable (R:Nat→List AV→Heap→AV→Heap→Prop) (PR:Nat→List AV→AV→Prop)

def q1l:List AOper→(St→Prop)→St→Prop
 | [],K,s=>K s
 | ⟨dst,op,args,g⟩::l,K,s=>
  q38 (s.wanted g)
   (match op with
   | .pure p=>q3x (p.exec (args.map s.eval)) fun v=>q1l l K (s.put dst v s.heap)
   | .read p=>q3x (p.exec (args.map s.eval) s.heap) fun v=>q1l l K (s.put dst v s.heap)
   | .new p=>q3x (p.exec (args.map s.eval) s.heap.length) fun v=>q1l l K (s.put dst v.1 (s.heap++[v.2]))
   | .newAt j p=>qox (p.exec (args.map s.eval) (s.rb+j)) s.heap[s.rb+j]? fun v=>q1l l K (s.put dst v.1 (s.heap.set (s.rb+j) v.2))
   | .eff p=>q3x (p.exec (args.map s.eval) s.heap) fun v=>q1l l K (s.put dst v.1 v.2)
   | .call f=>qkh R f (args.map s.eval) s.heap fun v H'=>q1l l K (s.put dst v H')
   | .pcall f=>q3x (q1L (frz s.heap 6) (args.map s.eval)) fun ts=>qoE PR f ts fun v=>q1l l K (s.put dst v (q0L s.heap (args.map s.eval) v))
   | .callv=>qoT (args.map s.eval) fun f as=>qkh R f as s.heap fun v H'=>q1l l K (s.put dst v H')
   | .bad=>False)
   (q1l l K (s.put dst undef s.heap))

def q8R (next:St→Prop) (Q:Ex→St→Prop):Ex→St→Prop
 | .normal,s=>next s
 | e,s=>Q e s

def q5G (id:Nat) (Q:Ex→St→Prop) (e:Ex) (s:St):Prop:=Q (e.out id) s

def quk (live:List Nat) (body:(Ex→St→Prop)→St→Prop) (Q:Ex→St→Prop) (s:St):Prop:=
 ∀ X:St→Prop,(∀ t,body (q8R X Q) (t.head live)→X t)→X s

def aw:ACode→(Ex→St→Prop)→St→Prop
 | .skip,Q,s=>Q .normal s
 | .ops l,Q,s=>q1l R PR l (Q .normal) s
 | .draw k ls,Q,s=>∃ s',ls≠[]∧(∀ l,l∈ls→q1l R PR l (fun t=>t=s') (s.keep k))∧Q .normal { s' with rb:=0 }
 | .seq a b,Q,s=>aw a (q8R (aw b Q) Q) s
 | .cond x a b,Q,s=>
  q7v (s.eval x) (aw a Q s) (aw b Q s)
 | .block id b,Q,s=>aw b (q5G id Q) s
 | .scope b,Q,s=>aw b Q s
 | .loop live b,Q,s=>quk live (aw b) Q s
 | .exit id,Q,s=>Q (.exit id) s
 | .ret,Q,s=>Q .ret s
end

section
variable {C:Ctx}

def q1z (C:Ctx) (f:Nat) (args:List AV) (H:Heap) (v:AV) (H':Heap):Prop:=BS C (.run f args H v H')

def q0m (C:Ctx) (f:Nat) (ts:List AV) (v:AV):Prop:=BS C (.prun f ts v)

theorem q1B {α:Type} {x:Option α} {k:α→Prop} (h:q3x x k) : ∃ v,x=some v∧k v:=by
 cases x with
 | none=>exact h.elim
 | some v=>exact ⟨v,rfl,h⟩

theorem qeJ {x:Option (AV × Blk)} {y:Option Blk} {k:AV × Blk→Prop} (h:qox x y k) : ∃ v,x=some v∧y=some .resv∧k v:=by
 unfold qox at h
 split at h
 ·exact ⟨_,rfl,rfl,h⟩
 ·exact h.elim

theorem qeb {l:List AV} {k:Nat→List AV→Prop} (h:qoT l k) : ∃ f cap args,l = .fn f cap::args∧k f (args++cap):=by
 unfold qoT at h
 split at h
 ·exact ⟨_,_,_,rfl,h⟩
 ·exact h.elim

theorem qat {x:Option Bool} {a b:Prop} (h:q38 x a b):(x=some true∧a)∨(x=some false∧b):=by
 unfold q38 at h
 split at h
 ·exact .inl ⟨rfl,h⟩
 ·exact .inr ⟨rfl,h⟩
 ·exact h.elim

theorem qf9 {x:AV} {a b:Prop} (h:q7v x a b):(x = .bool true∧a)∨(x = .bool false∧b):=by
 unfold q7v at h
 split at h
 ·exact .inl ⟨rfl,h⟩
 ·exact .inr ⟨rfl,h⟩
 ·exact h.elim

theorem q1A : ∀ (l:List AOper) (K:St→Prop) (s:St),q1l (q1z C) (q0m C) l K s→∃ s',BS C (.ops l s s')∧K s'
 | [],_,s,h=>⟨s,.nil s,h⟩
 | ⟨dst,op,args,g⟩::l,K,s,h=>by
  unfold q1l at h
  rcases qat h with ⟨hw,h⟩ | ⟨hw,h⟩
  ·cases op with
   | pure p=>
    obtain ⟨v,hv,h⟩:=q1B h
    obtain ⟨s',h1,h2⟩:=q1A l K _ h
    exact ⟨s',.pure hw rfl hv h1,h2⟩
   | read p=>
    obtain ⟨v,hv,h⟩:=q1B h
    obtain ⟨s',h1,h2⟩:=q1A l K _ h
    exact ⟨s',.read hw rfl hv h1,h2⟩
   | new p=>
    obtain ⟨⟨v,b⟩,hv,h⟩:=q1B h
    obtain ⟨s',h1,h2⟩:=q1A l K _ h
    exact ⟨s',.new hw rfl hv h1,h2⟩
   | newAt j p=>
    obtain ⟨⟨v,b⟩,hv,hf,h⟩:=qeJ h
    obtain ⟨s',h1,h2⟩:=q1A l K _ h
    exact ⟨s',.newAt hw rfl hv hf h1,h2⟩
   | eff p=>
    obtain ⟨⟨v,b⟩,hv,h⟩:=q1B h
    obtain ⟨s',h1,h2⟩:=q1A l K _ h
    exact ⟨s',.eff hw rfl hv h1,h2⟩
   | call f=>
    obtain ⟨v,H',hr,h⟩:=h
    obtain ⟨s',h1,h2⟩:=q1A l K _ h
    exact ⟨s',.call hw rfl hr h1,h2⟩
   | pcall f=>
    obtain ⟨ts,ha,v,hr,h⟩:=q1B h
    obtain ⟨s',h1,h2⟩:=q1A l K _ h
    exact ⟨s',.pcall hw rfl ha hr h1,h2⟩
   | callv=>
    obtain ⟨f,cap,as,ha,v,H',hr,h⟩:=qeb h
    obtain ⟨s',h1,h2⟩:=q1A l K _ h
    exact ⟨s',.callv hw rfl ha hr h1,h2⟩
   | bad=>exact h.elim
  ·obtain ⟨s',h1,h2⟩:=q1A l K _ h
   exact ⟨s',.pass hw h1,h2⟩

theorem q2P : ∀ (c:ACode) (Q:Ex→St→Prop) (s:St),aw (q1z C) (q0m C) c Q s→∃ e s',BS C (.exec c s e s')∧Q e s'
 | .skip,_,s,h=>⟨.normal,s,.skip s,h⟩
 | .ops l,_,s,h=>by
  obtain ⟨s',h1,h2⟩:=q1A l _ s h
  exact ⟨.normal,s',.ops h1,h2⟩
 | .draw k ls,_,s,h=>by
  obtain ⟨s',hne,hl,h2⟩:=h
  refine ⟨.normal,_,.draw hne fun l hm=>?_,h2⟩
  obtain ⟨t,h1,rfl⟩:=q1A l _ _ (hl l hm)
  exact h1
 | .seq a b,Q,s,h=>by
  obtain ⟨e,s1,h1,h2⟩:=q2P a _ s h
  by_cases he:e = .normal
  ·subst he
   obtain ⟨e2,s2,h3,h4⟩:=q2P b Q s1 h2
   exact ⟨e2,s2,.seq h1 h3,h4⟩
  ·refine ⟨e,s1,.seqE h1 he,?_⟩
   cases e<;>first | exact (he rfl).elim | exact h2
 | .cond x a b,Q,s,h=>by
  rcases qf9 h with ⟨hx,h⟩ | ⟨hx,h⟩
  ·obtain ⟨e,s1,h1,h2⟩:=q2P a Q s h
   exact ⟨e,s1,.condT hx h1,h2⟩
  ·obtain ⟨e,s1,h1,h2⟩:=q2P b Q s h
   exact ⟨e,s1,.condF hx h1,h2⟩
 | .block id b,Q,s,h=>by
  obtain ⟨e,s1,h1,h2⟩:=q2P b _ s h
  exact ⟨_,s1,.block h1,h2⟩
 | .scope b,Q,s,h=>by
  obtain ⟨e,s1,h1,h2⟩:=q2P b Q s h
  exact ⟨e,s1,.scope h1,h2⟩
 | .loop live b,Q,s,h=>by
  refine h (fun s=>∃ e s',BS C (.exec (.loop live b) s e s')∧Q e s') fun t ht=>?_
  obtain ⟨e,s1,h1,h2⟩:=q2P b _ _ ht
  by_cases he:e = .normal
  ·subst he
   obtain ⟨e2,s2,h3,h4⟩:=h2
   exact ⟨e2,s2,.loop h1 h3,h4⟩
  ·refine ⟨e,s1,.loopE h1 he,?_⟩
   cases e<;>first | exact (he rfl).elim | exact h2
 | .exit id,_,s,h=>⟨.exit id,s,.exit id s,h⟩
 | .ret,_,s,h=>⟨.ret,s,.ret s,h⟩

theorem qk0 {f:Nat} {fn:AFn} {args:List AV} {H:Heap} {v:AV} {H':Heap} (hf:C.code f=some fn)
  (h:aw (q1z C) (q0m C) fn.body (fun e s=>(e = .normal∨e = .ret)∧∃ u,results fn.res s=some u∧(q7P H.length u s.heap).tmps.getD 0 .dead=v∧(q7P H.length u s.heap).heap=H') (enter fn args H)) :
  q1z C f args H v H':=by
 obtain ⟨e,s,h1,he,u,h2,rfl,rfl⟩:=q2P _ _ _ h
 exact .run hf h1 he h2

theorem qhK {f:Nat} {fn:AFn} {ts:List AV} {v:AV} (hf:C.code f=some fn)
  (h:aw (q1z C) (q0m C) fn.body (fun e s=>(e = .normal∨e = .ret)∧∃ u,results fn.res s=some u∧frz s.heap 6 u=some v) (enter fn ts [])):q0m C f ts v:=by
 obtain ⟨e,s,h1,he,u,h2,h3⟩:=q2P _ _ _ h
 exact .prun hf h1 he h2 h3
end

section
variable {R:Nat→List AV→Heap→AV→Heap→Prop} {PR:Nat→List AV→AV→Prop}

theorem q4k {α:Type} {x:Option α} {k k':α→Prop} (hk : ∀ v,k v→k' v) (h:q3x x k):q3x x k':=by
 cases x with
 | none=>exact h.elim
 | some v=>exact hk v h
theorem qju {x:Option (AV × Blk)} {y:Option Blk} {k k':AV × Blk→Prop} (hk : ∀ v,k v→k' v) (h:qox x y k):qox x y k':=by
 unfold qox at h ⊢
 split at h
 ·exact hk _ h
 ·exact h.elim
theorem qkQ {l:List AV} {k k':Nat→List AV→Prop} (hk : ∀ f v,k f v→k' f v) (h:qoT l k):qoT l k':=by
 unfold qoT at h ⊢
 split at h
 ·exact hk _ _ h
 ·exact h.elim
theorem qfB {x:Option Bool} {a b a' b':Prop} (ha:a→a') (hb:b→b') (h:q38 x a b):q38 x a' b':=by
 unfold q38 at h ⊢
 split at h
 ·exact ha h
 ·exact hb h
 ·exact h.elim
theorem qf6 {x:AV} {a b a' b':Prop} (ha:a→a') (hb:b→b') (h:q7v x a b):q7v x a' b':=by
 unfold q7v at h ⊢
 split at h
 ·exact ha h
 ·exact hb h
 ·exact h.elim

theorem q1N {K K':St→Prop} (hk : ∀ s,K s→K' s) : ∀ (l:List AOper) (s:St),q1l R PR l K s→q1l R PR l K' s
 | [],s,h=>hk s h
 | ⟨dst,op,args,g⟩::l,s,h=>by
  unfold q1l at h ⊢
  refine qfB (fun h=>?_) (fun h=>q1N hk l _ h) h
  cases op with
  | pure p=>exact q4k (fun _ h=>q1N hk l _ h) h
  | read p=>exact q4k (fun _ h=>q1N hk l _ h) h
  | new p=>exact q4k (fun _ h=>q1N hk l _ h) h
  | newAt j p=>exact qju (fun _ h=>q1N hk l _ h) h
  | eff p=>exact q4k (fun _ h=>q1N hk l _ h) h
  | call f=>
   obtain ⟨v,H',hr,h⟩:=h
   exact ⟨v,H',hr,q1N hk l _ h⟩
  | pcall f=>
   refine q4k (fun ts h=>?_) h
   obtain ⟨v,hr,h⟩:=h
   exact ⟨v,hr,q1N hk l _ h⟩
  | callv=>
   refine qkQ (fun f as h=>?_) h
   obtain ⟨v,H',hr,h⟩:=h
   exact ⟨v,H',hr,q1N hk l _ h⟩
  | bad=>exact h.elim

theorem q5C : ∀ (c:ACode) {Q Q':Ex→St→Prop} (_ : ∀ e s,Q e s→Q' e s) (s:St),aw R PR c Q s→aw R PR c Q' s
 | .skip,_,_,hq,s,h=>hq _ _ h
 | .ops l,_,_,hq,s,h=>q1N (fun s=>hq .normal s) l s h
 | .draw k ls,_,_,hq,s,h=>by
  obtain ⟨s',hne,hl,h2⟩:=h
  exact ⟨s',hne,hl,hq _ _ h2⟩
 | .seq a b,Q,Q',hq,s,h=>by
  refine q5C a (fun e t ht=>?_) s h
  cases e with
  | normal=>exact q5C b hq t ht
  | exit id=>exact hq _ _ ht
  | ret=>exact hq _ _ ht
 | .cond x a b,Q,Q',hq,s,h=>qf6 (fun h=>q5C a hq s h) (fun h=>q5C b hq s h) h
 | .block id b,_,_,hq,s,h=>q5C b (fun _ _ ht=>hq _ _ ht) s h
 | .scope b,_,_,hq,s,h=>q5C b hq s h
 | .loop live b,Q,Q',hq,s,h=>by
  intro X hX
  refine h X fun t ht=>hX t (q5C b (fun e u hu=>?_) _ ht)
  cases e with
  | normal=>exact hu
  | exit id=>exact hq _ _ hu
  | ret=>exact hq _ _ hu
 | .exit id,_,_,hq,s,h=>hq _ _ h
 | .ret,_,_,hq,s,h=>hq _ _ h

theorem qr6 {α:Type} {live:List Nat} {b:ACode} {Q:Ex→St→Prop} {s:St} (st:α→St) (Inv:α→Prop) (μ:α→Nat) (a0:α) (h0:s.head live=st a0) (hi:Inv a0)
  (round : ∀ a,Inv a→aw R PR b (q8R (fun t=>∃ a',t.head live=st a'∧Inv a'∧μ a'<μ a) Q) (st a)):aw R PR (.loop live b) Q s:=by
 intro X hX
 have key : ∀ n a,μ a=n→Inv a→∀ t:St,t.head live=st a→X t:=by
  intro n
  induction n using Nat.strongRecOn with
  | _ n ih=>
   intro a hn ha t ht
   refine hX t ?_
   rw[ht]
   refine q5C b (fun e u hu=>?_) _ (round a ha)
   cases e with
   | normal=>
    obtain ⟨a',h1,h2,h3⟩:=hu
    exact ih (μ a') (hn▸h3) a' rfl h2 u h1
   | exit id=>exact hu
   | ret=>exact hu
 exact key _ a0 rfl hi s h0
end
end Ago
namespace Ago
open Go (IntKind BinOp UnOp TypeId TypeDesc Program Operand Oper Op Code Value FuncId Builtin)

section
variable (P:Program)

def q0n (t:TypeId):Nat:=((P.info? t).map (·.size)).getD 0
def q3d (t:TypeId):Nat:=((P.info? t).map (·.bytes)).getD 0
def q0v (t:TypeId):Bool:=
 match P.underlying t with
 | some (.struct _)=>true
 | some (.array _ _)=>true
 | _=>false

def qrh:Nat→TypeId→Option (List AV)
 | 0,_=>none
 | k+1,t=>
  match P.underlying t with
  | some .bool=>some [.bool false]
  | some (.int i)=>some [.int i 0]
  | some .string=>some [.str []]
  | some (.pointer _)=>some [.nilp]
  | some (.slice e)=>some [.snil (q0n P e)]
  | some (.map _ _)=>some [.nilm]
  | some (.func _ _ _)=>some [.nilf]
  | some (.interface _)=>some [.nili]
  | some (.struct fs)=>(q1L (fun (f:Go.Field)=>qrh k f.type) fs.toList).map List.flatten
  | some (.array n e)=>(qrh k e).map fun z=>(List.replicate n z).flatten
  | _=>none

def qol:AV→Value→Bool
 | .int k n,.int k' n'=>k == k' && n == n'
 | .bool b,.bool b'=>b == b'
 | .str s,.string s'=>s == s'.data.toList
 | .nilp,.pointer none=>true
 | .snil _,.slice none 0 0=>true
 | .nilm,.map none=>true
 | .nilf,.nilFunc=>true
 | .nili,.nilIface=>true
 | _,_=>false

def qjj:Option Value→Bool
 | some (.agg cs)=>
  match cs.toList with
  | [.pointer none,.slice none 0 0]=>true
  | _=>false
 | _=>false

def q9H:List AV→List Value→Bool
 | [],[]=>true
 | x::xs,v::vs=>qol x v && q9H xs vs
 | _,_=>false

def zeroCells (t:TypeId):Option (List AV):=
 match qrh P 12 t,(P.info? t).bind (·.zero) with
 | some cs,some v=>if q9H cs v.cells.toList && cs.length == q0n P t then some cs else none
 | _,_=>none

def q8F (agg:Bool) (cs:List AV):Option AV:=
 match agg with
 | true=>some (.agg cs)
 | false=>
  match cs with
  | [x]=>some x
  | _=>none

def q2z (t:TypeId):Option AV:=(zeroCells P t).bind (q8F (q0v P t))

def qlR (t:TypeId):Nat:=
 match P.underlying t with
 | some (.array _ e)=>q0n P e
 | _=>q0n P t

def q4t (g:TypeId→Option (List CK)):List Go.Field→Nat→Option (List CK)
 | [],_=>some []
 | f::fs,o=>
  if f.name = "_" ∨ f.offset ≠ o then none
  else
   match g f.type with
   | none=>none
   | some s=>
    match q4t g fs (o+s.length) with
    | none=>none
    | some r=>if s.length=q0n P f.type then some (s++r) else none

def q1Y:Nat→TypeId→Option (List CK)
 | 0,_=>none
 | k+1,t=>
  match P.underlying t with
  | some .bool=>some [.bool]
  | some (.int _)=>some [.int]
  | some .string=>some [.str]
  | some (.struct fs)=>if P.stoodInHeld t then none else q4t P (q1Y k) fs.toList 0
  | some (.array n e)=>
   match q1Y k e with
   | some s=>if s.length=q0n P e then some (List.replicate n s).flatten else none
   | none=>none
  | _=>none

variable (fid:FuncId→Option Nat) (pf:Nat→Bool)

def qfR (t:TypeId):Value→Option AV
 | .int k n=>some (.int k n)
 | .bool b=>some (.bool b)
 | .string s=>some (.str s.data.toList)
 | .pointer none=>some .nilp
 | .slice none 0 0=>
  match P.underlying t with
  | some (.slice e)=>some (.snil (q0n P e))
  | _=>some (.snil 0)
 | .map none=>some .nilm
 | .nilFunc=>some .nilf
 | .nilIface=>some .nili
 | .agg vs=>
  match zeroCells P t with
  | some l=>if q9H l vs.toList=true then some (.agg l) else none
  | none=>none
 | _=>none

def qdr (t:TypeId):Operand→Option Opd
 | .tmp i=>some (.t i)
 | .const v=>(qfR P t v).map .c
 | .func f=>(fid f).map fun g=>.c (.fn g [])
 | .global _=>none

def q7o:List (TypeId × Operand)→Option (List Opd)
 | []=>some []
 | (t,x)::xs=>
  match qdr P fid t x,q7o xs with
  | some a,some as=>some (a::as)
  | _,_=>none

def qbM (t:TypeId):Option CK:=
 match P.underlying t with
 | some (.int _)=>some .int
 | some .string=>some .str
 | some .bool=>some .bool
 | _=>none

def qaV (t:TypeId):Option (List CK):=
 match P.underlying t with
 | some (.array n e)=>
  match qbM P e with
  | some c=>if q0n P e=1 then some (List.replicate n c) else none
  | none=>none
 | _=>none

def qa5 (e:TypeId):Bool:=
 match (P.info? e).bind (·.zero) with
 | some (.agg _)=>q0v P e
 | some (.tuple _)=>false
 | some _=>!q0v P e
 | none=>false

def q0j (op:AOp) (l:List (TypeId × Operand)):Option (AOp × List Opd):=(q7o P fid l).map fun a=>(op,a)

def quN (t:TypeId) (neg:Bool):Option POp:=
 match P.underlying t with
 | some .bool=>some (.eqB neg)
 | some (.int _)=>some (.bin (if neg then .neq else .eql))
 | some .string=>some (.bin (if neg then .neq else .eql))
 | some (.struct _)=>if P.eqGuardType P.depth t then none else (q1Y P 6 t).map fun s=>.eqF s neg
 | some (.array _ _)=>if P.eqGuardType P.depth t then none else (q1Y P 6 t).map fun s=>.eqF s neg
 | some (.pointer _)=>some (.eqN 0 neg)
 | some (.map _ _)=>some (.eqN 1 neg)
 | some (.func _ _ _)=>some (.eqN 2 neg)
 | some (.interface _)=>some (.eqN 3 neg)
 | _=>none

def q5g (b:Builtin) (args:List (TypeId × Operand)):Option (AOp × List Opd):=
 match b,args with
 | .len,[(t,x)]=>
  match P.underlying t with
  | some .string=>q0j P fid (.pure .lenS) [(t,x)]
  | some (.slice _)=>q0j P fid (.pure .lenL) [(t,x)]
  | some (.map _ _)=>q0j P fid (.read .lenMap) [(t,x)]
  | some (.array n _)=>q0j P fid (.pure (.lenC n)) [(t,x)]
  | _=>none
 | .append,[(t,s),(u,x)]=>
  match P.underlying t,P.underlying u with
  | some (.slice e),some (.slice _)=>if q0n P e=0∨(q2z P e).isNone then none else q0j P fid (.eff (.append (q0n P e) (q3d P e))) [(t,s),(u,x)]
  | some (.slice e),some .string=>
   match P.underlying e with
   | some (.int .u8)=>if q0n P e=1∧q3d P e=1∧(q2z P e).isSome then q0j P fid (.eff .appendStr) [(t,s),(u,x)] else none
   | _=>none
  | _,_=>none
 | .copy,[(t,d),(u,x)]=>
  match P.underlying t,P.underlying u with
  | some (.slice e),some (.slice _)=>if q0n P e=0 then none else q0j P fid (.eff (.copy (q0n P e))) [(t,d),(u,x)]
  | _,_=>none
 | .delete,[(t,m),(u,k)]=>
  match P.underlying t with
  | some (.map kt _)=>none
  | _=>none
 | .clear,[(t,m)]=>
  match P.underlying t with
  | some (.slice e)=>
   match q2z P e with
   | some z=>if q0n P e=0 then none else q0j P fid (.eff (.clearS z)) [(t,m)]
   | none=>none
  | _=>none
 | .max,args=>q0j P fid (.pure (.minmax true)) args
 | .min,args=>q0j P fid (.pure (.minmax false)) args
 | _,_=>none

def q8b (t:TypeId) (f:Nat):Option Go.Field:=
 match P.underlying t with
 | some (.struct fs)=>(fs[f]?).bind fun fd=>if (P.underlying fd.type).isSome then some fd else none
 | _=>none

def qpn (t:TypeId):Option Nat:=
 match P.underlying t with
 | some (.struct fs)=>
  match fs[1]? with
  | some fd=>
   match P.underlying fd.type,P.info? t with
   | some (.slice e),some i=>if e<100000∧qjj i.zero=true then some (t * 100000+e) else none
   | _,_=>none
  | none=>none
 | _=>none

def q59 (o:Oper):Option (AOp × List Opd):=
 match o.op with
 | .move x=>q0j P fid (.pure .move) [(o.type,x)]
 | .assign x=>q0j P fid (.pure .move) [(o.type,x)]
 | .pick c a b=>q0j P fid (.pure .pick) [(o.type,c),(o.type,a),(o.type,b)]
 | .alloc t=>
  match qpn P t with
  | some p=>q0j P fid (.new (.newB p)) []
  | none=>
  match zeroCells P t with
  | some cs=>
   if qlR P t=0 then none
   else
    match P.underlying t with
    | some (.array n _)=>if cs.length=n * qlR P t∧n≠0 then q0j P fid (.new (.new (qlR P t) (q8w (qlR P t) n cs))) [] else none
    | _=>
     match q2z P t with
     | some z=>q0j P fid (.new (.new (qlR P t) [z])) []
     | none=>none
  | none=>none
 | .box t x=>if qlR P t=0∨q0n P t=0 then none else q0j P fid (.new (.box (qlR P t))) [(t,x)]
 | .build t parts=>
  match zeroCells P t,P.underlying t with
  | some z,some (.struct fs)=>
   match q1L (fun (p:Nat × Operand)=>(fs[p.1]?).map fun f=>(f.offset,q0n P f.type)) parts.toList with
   | some pl=>if fs.toList.all (fun f=>(P.info? f.type).isSome)=false then none else q0j P fid (.pure (.build z pl)) (parts.toList.map fun p=>((((fs[p.1]?).map (·.type)).getD 0),p.2))
   | none=>none
  | some z,some (.array _ e)=>if (P.info? e).isNone then none else q0j P fid (.pure (.build z (parts.toList.map fun p=>(p.1 * q0n P e,q0n P e)))) (parts.toList.map fun p=>(e,p.2))
  | _,_=>none
 | .buildSlice t len parts=>
  match P.underlying t with
  | some (.slice e)=>
   match q2z P e with
   | some z=>if q0n P e=0∨len * q0n P e>2^24 then none else q0j P fid (.new (.buildSlice (q0n P e) (List.replicate len z) (parts.toList.map (·.1)))) (parts.toList.map fun p=>(e,p.2))
   | none=>none
  | _=>none
 | .load t a=>if (P.underlying t).isNone then none else q0j P fid (.read (.load (if q0v P t then some (q0n P t) else none))) [(t,a)]
 | .store t a x=>if (P.underlying t).isNone then none else q0j P fid (.eff (.store (q0n P t))) [(t,a),(t,x)]
 | .nilCheck x=>q0j P fid (.pure .chk) [(o.type,x)]
 | .binOp op t x y _=>
  match op with
  | .eql=>(quN P t false).bind fun p=>q0j P fid (.pure p) [(t,x),(t,y)]
  | .neq=>(quN P t true).bind fun p=>q0j P fid (.pure p) [(t,x),(t,y)]
  | op=>q0j P fid (.pure (.bin op)) [(t,x),(t,y)]
 | .unOp op t x=>q0j P fid (.pure (.un op)) [(t,x)]
 | .convert s d x=>
  match P.underlying s,P.underlying d with
  | some (.int _),some (.int k)=>q0j P fid (.pure (.conv k)) [(s,x)]
  | some .string,some .string=>q0j P fid (.pure .convStr) [(s,x)]
  | some (.int _),some .string=>q0j P fid (.pure .runeStr) [(s,x)]
  | some .string,some (.slice e)=>
   match P.underlying e with
   | some (.int .u8)=>none
   | _=>none
  | some (.slice e),some .string=>
   match P.underlying e with
   | some (.int .u8)=>if q0n P e=1 then q0j P fid (.read .bytesStr) [(s,x)] else none
   | _=>none
  | _,_=>none
 | .makeInterface t x=>
  match P.underlying t with
  | some (.interface _)=>none
  | none=>none
  | _=>q0j P fid (.pure (.mkifc t)) [(t,x)]
 | .makeFunc fn first captured=>
  match fn,first.toList with
  | .func f,[]=>
   match fid f with
   | some g=>q0j P fid (.pure (.mkfn g)) (captured.toList.map fun x=>(0,x))
   | none=>none
  | _,_=>none
 | .makeMap t r=>
  match P.underlying t with
  | some (.map _ _)=>q0j P fid (.new .mkMap) (r.toList.map fun x=>(t,x))
  | _=>none
 | .makeSlice t l c=>
  match P.underlying t with
  | some (.slice e)=>
   match q2z P e with
   | some z=>if q0n P e=0 then none else q0j P fid (.new (.mkSlice (q0n P e) (q3d P e) z)) [(t,l),(t,c)]
   | none=>none
  | _=>none
 | .slice t x lo hi mx=>
  match P.underlying t with
  | some .string=>if mx.isSome then none else q0j P fid (.pure (.sliceS lo.isSome hi.isSome)) ((t,x)::(lo.toList++hi.toList).map fun y=>(t,y))
  | some (.slice e)=>if q0n P e=0 then none else q0j P fid (.pure (.sliceL (q0n P e) lo.isSome hi.isSome mx.isSome)) ((t,x)::(lo.toList++hi.toList++mx.toList).map fun y=>(t,y))
  | some (.array n e)=>
   none
  | _=>none
 | .fieldAddr t x f=>
  match q8b P t f with
  | some fd=>if q0n P fd.type=0 then none else q0j P fid (.pure (.faddr fd.offset)) [(t,x)]
  | none=>none
 | .field t x f=>
  match q8b P t f with
  | some fd=>q0j P fid (.pure (.field fd.offset (q0n P fd.type) (q0v P fd.type))) [(t,x)]
  | none=>none
 | .indexAddr t x i=>
  match P.underlying t with
  | some (.slice e)=>if q0n P e=0 then none else q0j P fid (.pure (.iaddrS (q0n P e))) [(t,x),(t,i)]
  | some (.array n e)=>if q0n P e=0 then none else q0j P fid (.pure (.iaddrA n (q0n P e))) [(t,x),(t,i)]
  | _=>none
 | .index t x i=>
  match P.underlying t with
  | some .string=>q0j P fid (.pure .idxStr) [(t,x),(t,i)]
  | some (.array n e)=>if (P.underlying e).isSome then q0j P fid (.pure (.idxArr n (q0n P e) (q0v P e))) [(t,x),(t,i)] else none
  | _=>none
 | .lookup t m k ok=>
  match P.underlying t with
  | some (.map kt e)=>
   match q2z P e,qbM P kt with
   | some z,some c=>if qa5 P e then q0j P fid (.read (.lookup (.one c) z ok)) [(t,m),(kt,k)] else none
   | some z,none=>
    match qaV P kt with
    | some sh=>if qa5 P e then q0j P fid (.read (.lookupK sh z ok)) [(t,m),(kt,k)] else none
    | none=>none
   | _,_=>none
  | _=>none
 | .mapUpdate t m k x=>
  match P.underlying t with
  | some (.map kt e)=>
   match qbM P kt with
   | some c=>q0j P fid (.eff (.mapSet (.one c))) [(t,m),(kt,k),(e,x)]
   | none=>
    match qaV P kt with
    | some sh=>q0j P fid (.eff (.mapSetK sh)) [(t,m),(kt,k),(e,x)]
    | none=>none
  | _=>none
 | .insert t m k x=>
  match P.underlying t with
  | some (.map kt e)=>
   match qbM P kt with
   | some c=>q0j P fid (.eff (.mapSet (.one c))) [(t,m),(kt,k),(e,x)]
   | none=>
    match qaV P kt with
    | some sh=>q0j P fid (.eff (.mapSetK sh)) [(t,m),(kt,k),(e,x)]
    | none=>none
  | _=>none
 | .extract x i=>q0j P fid (.pure (.ext i)) [(o.type,x)]
 | .panic x=>q0j P fid (.eff .panic) [(0,x)]
 | .call c=>
  match c.callee with
  | .value (.func f)=>
   match fid f,P.funcs[f]? with
   | some g,some fn => if fn.body.isSome && fn.name != "runtime.NumGoroutine" && fn.params.size == c.args.size then q0j P fid (if pf g then .pcall g else .call g) (fn.params.toList.zip c.args.toList) else none
   | _,_=>none
  | .value x=>q0j P fid .callv ((0,x)::c.args.toList.map fun y=>(0,y))
  | .builtin b=>if c.argTypes.size=c.args.size then q5g P fid b (c.argTypes.toList.zip c.args.toList) else none
  | _=>none
 | _=>none

def q2x (ops:Array Oper) (o:Oper):Option AOper:=
 match o.guard with
 | none=>some { dst:=o.dst,op:=((q59 P fid pf o).map (·.1)).getD .bad,args:=((q59 P fid pf o).map (·.2)).getD [],guard:=none }
 | some (j,b)=>
  match (ops[j]?).bind (·.dst) with
  | some t=>some { dst:=o.dst,op:=((q59 P fid pf o).map (·.1)).getD .bad,args:=((q59 P fid pf o).map (·.2)).getD [],guard:=some (t,b) }
  | none=>none


def AOper.looks (o:AOper):List Nat:=
 (o.args.filterMap fun | .t i=>some i | .c _=>none)++(match o.guard with | some (t,_)=>[t] | none=>[])

def AOper.cls (o:AOper):Nat:=
 match o.op with
 | .pure _=>0
 | .read _=>1
 | .pcall _=>1
 | .newAt _ _=>3
 | _=>2

def AOper.indep (x y:AOper):Bool:=
 (match x.dst with
 | some d=>!y.looks.contains d && y.dst != some d
 | none=>true) &&
 (match y.dst with
 | some d=>!x.looks.contains d
 | none=>true) &&
 (x.cls == 0 || y.cls == 0 || (x.cls != 2 && y.cls != 2))

def q6Y (ops:Array Oper) (i:Nat):List Nat:=
 match ops[i]? with
 | some o=>(o.after.toList.filter fun e=>Go.Region.binds .any e).map (·.on)
 | none=>[]

def AV.bare1:AV→Bool
 | .int .. => true
 | .bool _=>true
 | .str _=>true
 | .nilp=>true
 | .nilf=>true
 | .nili=>true
 | .nilm=>true
 | .snil _=>true
 | _=>false

def AV.bare:AV→Bool
 | .agg cs=>cs.all AV.bare1
 | .int .. => true
 | .bool _=>true
 | .str _=>true
 | .nilp=>true
 | .nilf=>true
 | .nili=>true
 | .nilm=>true
 | .snil _=>true
 | .fn _ []=>true
 | _=>false

def AOper.bare (o:AOper):Bool:=o.args.all fun
 | .t _=>true
 | .c v=>v.bare

def qrp:List Nat→List Nat
 | []=>[]
 | x::xs=>if xs.contains x then qrp xs else x::qrp xs

def qoz (ops:Array Oper):List (List Nat):=
 (List.range ops.size).foldl (fun acc i=>acc++[qrp ((q6Y ops i).flatMap fun j=>j::acc.getD j [])]) []

def q4m (n:Nat) (aft:Nat→List Nat) (wait:Nat→Nat→Bool) (ind:Nat→Nat→Bool):Nat→List Nat→List (List Nat)
 | 0,done=>[done]
 | k+1,done=>
  let rem:=(List.range n).filter fun i=>!done.contains i
  if rem.isEmpty then [done]
  else
   let ready:=rem.filter fun i=>(aft i).all fun j=>done.contains j
   match ready.find? fun i=>rem.all fun j=>j == i || wait j i || ind i j with
   | some i=>q4m n aft wait ind k (done++[i])
   | none=>ready.flatMap fun i=>q4m n aft wait ind k (done++[i])

def qbg:Nat→List AOper→Nat × List AOper
 | k,[]=>(k,[])
 | k,o::l=>
  match o.op with
  | .new p=>((qbg (k+1) l).1,{ o with op:=.newAt k p }::(qbg (k+1) l).2)
  | _=>((qbg k l).1,o::(qbg k l).2)

def q97 (ops:Array Oper) (l:List AOper):Option (List (List AOper)):=
 if ((List.range ops.size).all (fun i=>(q6Y ops i).all fun j=>decide (j<i)) && l.all AOper.bare)=true then
  let tab:=qoz ops
  let ord:=q4m ops.size (q6Y ops) (fun j i=>(tab.getD j []).contains i) (fun i j=>(l.getD i default).indep (l.getD j default)) ops.size []
  q1L (fun σ=>q1L (fun i=>l[i]?) σ) ord
 else none

def comp:Code→Option ACode
 | .skip=>some .skip
 | .region _ ops draw=>
  match q1L (q2x P fid pf ops) ops.toList with
  | some l=>
   if draw then
    match (qbg 0 l).1,(if (P.follows .mixedOrders || !Go.Region.departs ops)=true then q97 ops (qbg 0 l).2 else none) with
    | 0,some [l']=>some (.ops l')
    | k,some ls=>some (.draw k ls)
    | _,none=>none
   else some (.ops l)
  | none=>none
 | .seq a b=>
  match comp a,comp b with
  | some x,some y=>some (.seq x y)
  | _,_=>none
 | .cond c a b=>
  match qdr P fid 0 c,comp a,comp b with
  | some x,some y,some z=>some (.cond x y z)
  | _,_,_=>none
 | .block id b=>(comp b).map (.block id)
 | .scope b=>(comp b).map .scope
 | .label _=>some .skip
 | .loop b=>(comp b).map (.loop [])
 | .exit id=>some (.exit id)
 | .ret=>some .ret
 | _=>none

def q5O (r:Go.ResultVar):ResV:=
 match r with
 | .tmp i=>.tmp i
 | .cell i t=>.cell i (if q0v P t then some (q0n P t) else none)

def qhF (r:Go.ResultVar):Bool:=
 match r with
 | .tmp _=>true
 | .cell _ t=>(P.underlying t).isSome

def q9U (fn:Go.Func):Option AFn:=
 match fn.body with
 | some c=>if fn.results.toList.all (qhF P) then (comp P fid pf c).map fun b=>{ nt:=fn.ntmps,res:=fn.results.toList.map (q5O P),body:=b } else none
 | none=>none
end

def ACode.strip:ACode→ACode
 | .seq a b=>.seq a.strip b.strip
 | .cond x a b=>.cond x a.strip b.strip
 | .block id b=>.block id b.strip
 | .scope b=>.scope b.strip
 | .loop _ b=>.loop [] b.strip
 | c=>c

end Ago
