/- The abstract machine: values that are trees or references into a small heap,its operations,its big-step relation. It knows nothing of the program model's worlds. -/
import GoSem.Op.Shift
import GoSem.Op.IntArith
import GoSem.Op.IntBits
import GoSem.Op.IntDiv
import GoSem.Op.IntCmp
import GoSem.Op.String
import GoSem.Core.Utf8
import GoSem.Core.Code
import GoSem.Core.Layout
import GoSem.Op.Equal
import GoSem.Core.Region
set_option linter.unusedSimpArgs false
set_option linter.unusedVariables false
namespace Ago
open Go (IntKind BinOp UnOp)

inductive AV where
 | dead
 | int (k:IntKind) (n:Int)
 | bool (b:Bool)
 | str (s:List UInt8)
 | nilp
 | nilf
 | nili
 | nilm
 | snil (n:Nat)
 | tsl (n:Nat) (l:List AV)
 | sref (n r i len:Nat)
 | ptr (n r i off:Nat)
 | tptr (cs:List AV) (off:Nat)
 | mref (r:Nat)
 | iref (r:Nat)
 | agg (cs:List AV)
 | tup (vs:List AV)
 | fn (f:Nat) (cap:List AV)
 | ifc (t:Nat) (v:AV)
 deriving Inhabited

def AV.cells:AV→List AV
 | .agg cs=>cs
 | x=>[x]

def AV.pureN:Nat→AV→Bool
 | 0,_=>false
 | _+1,.sref .. => false
 | _+1,.ptr .. => false
 | _+1,.mref _=>false
 | _+1,.iref _=>false
 | k+1,.agg cs=>cs.all (AV.pureN k)
 | k+1,.tup cs=>cs.all (AV.pureN k)
 | k+1,.fn _ cs=>cs.all (AV.pureN k)
 | k+1,.ifc _ v=>AV.pureN k v
 | _+1,_=>true

def AV.isPure (v:AV):Bool:=AV.pureN 6 v

def AV.young:AV→Bool
 | .snil _=>true
 | _=>false
def AV.aged:AV→Bool
 | .agg cs=>cs.all fun c=>!c.young
 | x=>!x.young

def AV.plainN:Nat→AV→Bool
 | 0,_=>false
 | _+1,.int .. => true
 | _+1,.bool _=>true
 | _+1,.str _=>true
 | _+1,.snil _=>true
 | _+1,.nilp=>true
 | _+1,.nilm=>true
 | _+1,.nilf=>true
 | _+1,.nili=>true
 | k+1,.agg cs=>cs.all (AV.plainN k)
 | k+1,.tup cs=>cs.all (AV.plainN k)
 | _+1,_=>false

def AV.isPlain (v:AV):Bool:=AV.plainN 6 v

def AV.one:AV→Bool
 | .dead=>false
 | .agg _=>false
 | .tup _=>false
 | _=>true

def AV.solid:AV→Bool
 | .dead=>false
 | .tup _=>false
 | _=>true

inductive Blk where
 | gone
 | resv
 | row (n:Nat) (els:List AV) (ro fl:Bool) (fam:Nat)
 | map (es:List (AV × AV))
 | iter (s:List UInt8) (pos:Nat)
 deriving Inhabited

abbrev Heap:=List Blk

def q1v {α β:Type} (f:α→Option β):List α→Option (List β)
 | []=>some []
 | x::xs=>
  match f x with
  | none=>none
  | some y=>
   match q1v f xs with
   | none=>none
   | some ys=>some (y::ys)


inductive CK where
 | bool
 | int
 | str
 deriving DecidableEq,Inhabited

inductive POp where
 | move
 | pick
 | build (z:List AV) (pl:List (Nat × Nat))
 | bin (op:BinOp)
 | eqB (neg:Bool)
 | eqF (sh:List CK) (neg:Bool)
 | eqN (kind:Nat) (neg:Bool)
 | un (op:UnOp)
 | conv (k:IntKind)
 | convStr
 | runeStr
 | ext (i:Nat)
 | field (off n:Nat) (agg:Bool)
 | idxArr (len n:Nat) (agg:Bool)
 | idxStr
 | faddr (off:Nat)
 | iaddrS (n:Nat)
 | iaddrA (len n:Nat)
 | sliceS (lo hi:Bool)
 | sliceL (n:Nat) (lo hi mx:Bool)
 | lenS
 | lenL
 | lenC (n:Nat)
 | chk
 | mkfn (f:Nat)
 | mkifc (t:Nat)
 | minmax (isMax:Bool)
 deriving Inhabited

def qhT (op:BinOp) (k:IntKind) (a b:Int):Option AV:=
 match op with
 | .add=>some (.int k (k.wrap (a+b)))
 | .sub=>some (.int k (k.wrap (a-b)))
 | .mul=>some (.int k (k.wrap (a * b)))
 | .quo=>if b=0 then none else some (.int k (k.wrap (a.tdiv b)))
 | .rem=>if b=0 then none else some (.int k (a.tmod b))
 | .and=>some (.int k (k.wrap (BitVec.ofInt k.bits a &&& BitVec.ofInt k.bits b).toNat))
 | .or=>some (.int k (k.wrap (BitVec.ofInt k.bits a ||| BitVec.ofInt k.bits b).toNat))
 | .xor=>some (.int k (k.wrap (BitVec.ofInt k.bits a ^^^ BitVec.ofInt k.bits b).toNat))
 | .andNot=>some (.int k (k.wrap (BitVec.ofInt k.bits a &&& ~~~ BitVec.ofInt k.bits b).toNat))
 | .eql=>some (.bool (a == b))
 | .neq=>some (.bool (a != b))
 | .lss=>some (.bool (decide (a<b)))
 | .leq=>some (.bool (decide (a≤b)))
 | .gtr=>some (.bool (decide (a>b)))
 | .geq=>some (.bool (decide (a≥b)))
 | .shl | .shr=>none

def q7h (op:BinOp) (k:IntKind) (a b:Int):Option AV:=
 if b<0 then none else
 match op with
 | .shl=>some (.int k (k.wrap (a * 2^min b.toNat k.bits)))
 | .shr=>some (.int k (a.fdiv (2^min b.toNat k.bits)))
 | _=>none

def lim:Nat:=2^31

def qhH (op:BinOp) (a b:List UInt8):Option AV:=
 match op with
 | .add=>if a.length+b.length≤lim then some (.str (a++b)) else none
 | .eql=>some (.bool (a == b))
 | .neq=>some (.bool (!(a == b)))
 | .lss=>some (.bool (Go.Op.bytesLess a b))
 | .leq=>some (.bool (Go.Op.bytesLess a b || a == b))
 | .gtr=>some (.bool (!(Go.Op.bytesLess a b || a == b)))
 | .geq=>some (.bool (!Go.Op.bytesLess a b))
 | _=>none

def q3p:CK→AV→AV→Option Bool
 | .int,.int k a,.int k' b=>if k=k' then some (a == b) else none
 | .bool,.bool a,.bool b=>some (a == b)
 | .str,.str a,.str b=>some (a == b)
 | _,_,_=>none

def q2p:List CK→List AV→List AV→Option Bool
 | [],[],[]=>some true
 | c::cs,x::xs,y::ys=>
  match q3p c x y with
  | none=>none
  | some a=>
   match q2p cs xs ys with
   | none=>none
   | some b=>some (a && b)
 | _,_,_=>none

def qhy (op:BinOp) (k:IntKind) (a:Int) (k':IntKind) (b:Int):Option AV:=
 match op with
 | .shl=>q7h .shl k a b
 | .shr=>q7h .shr k a b
 | op=>if k=k' then qhT op k a b else none

def qlU (op:BinOp) (x y:AV):Option AV:=
 match x with
 | .int k a=>
  match y with
  | .int k' b=>qhy op k a k' b
  | _=>none
 | .str a=>
  match y with
  | .str b=>qhH op a b
  | _=>none
 | _=>none

def q8M (neg:Bool):Option Bool→Option AV
 | some b=>some (.bool (if neg then !b else b))
 | none=>none

def qpx (neg:Bool):List AV→Option AV
 | [x,y]=>q8M neg (q3p .bool x y)
 | _=>none

def qpK (sh:List CK) (neg:Bool):List AV→Option AV
 | [.agg xs,.agg ys]=>q8M neg (q2p sh xs ys)
 | _=>none

def qma:Nat→AV→AV→Option Bool
 | 0,.nilp,.nilp=>some true
 | 0,.nilp,.tptr .. => some false
 | 0,.tptr ..,.nilp=>some false
 | 0,.nilp,.ptr .. => some false
 | 0,.ptr ..,.nilp=>some false
 | 1,.nilm,.nilm=>some true
 | 1,.nilm,.mref _=>some false
 | 1,.mref _,.nilm=>some false
 | 2,.nilf,.nilf=>some true
 | 2,.fn ..,.nilf=>some false
 | 2,.nilf,.fn .. => some false
 | 3,.ifc ..,.nili=>some false
 | 3,.nili,.ifc .. => some false
 | _,_,_=>none

def qpH (kind:Nat) (neg:Bool):List AV→Option AV
 | [x,y]=>q8M neg (qma kind x y)
 | _=>none

def qre (op:UnOp):AV→Option AV
 | .int k n=>
  match op with
  | .neg=>some (.int k (k.wrap (0-n)))
  | .xor=>some (.int k (k.wrap (BitVec.ofInt k.bits (if k.signed then -1 else k.max) ^^^ BitVec.ofInt k.bits n).toNat))
  | _=>none
 | .bool b=>
  match op with
  | .not=>some (.bool (!b))
  | _=>none
 | _=>none

def part (cs:List AV) (off n:Nat) (agg:Bool):Option AV:=
 match agg with
 | true=>if off+n≤cs.length then some (.agg ((cs.drop off).take n)) else none
 | false=>cs[off]?

def q2M:List AV→List ((Nat × Nat) × AV)→Option (List AV)
 | cs,[]=>some cs
 | cs,((off,n),v)::rest=>
  if v.cells.length=n∧off+n≤cs.length then q2M (cs.take off++v.cells++cs.drop (off+n)) rest else none

def q5V (len:Nat) (l h:Int):Option (Nat × Nat × Bool):=
 if 0≤l∧l≤h∧h≤len then some (l.toNat,h.toNat,false) else none
def qb4 (len:Nat) (l h m:Int):Option (Nat × Nat × Bool):=
 if 0≤l∧l≤h∧h≤m∧m≤len then some (l.toNat,h.toNat,decide (m=l)) else none
def bounds (len:Nat) (lo hi mx:Bool) (bs:List AV):Option (Nat × Nat × Bool):=
 match lo with
 | false=>
  match hi with
  | false=>
   match mx,bs with
   | false,[]=>q5V len 0 len
   | _,_=>none
  | true=>
   match mx,bs with
   | false,[.int _ h]=>q5V len 0 h
   | true,[.int _ h,.int _ m]=>qb4 len 0 h m
   | _,_=>none
 | true=>
  match hi with
  | false=>
   match mx,bs with
   | false,[.int _ l]=>q5V len l len
   | _,_=>none
  | true=>
   match mx,bs with
   | false,[.int _ l,.int _ h]=>q5V len l h
   | true,[.int _ l,.int _ h,.int _ m]=>qb4 len l h m
   | _,_=>none

def qaw (s:List UInt8):Option (Nat × Nat × Bool)→Option AV
 | some (l,h,_)=>some (.str ((s.take h).drop l))
 | none=>none
def q7w (lo hi:Bool):List AV→Option AV
 | .str s::bs=>qaw s (bounds s.length lo hi false bs)
 | _=>none
def q7j (n:Nat) (xs:List AV):Option (Nat × Nat × Bool)→Option AV
 | some (l,h,z)=>if z then some (.snil n) else some (.tsl n ((xs.take h).drop l))
 | none=>none
def q7f (n r i:Nat):Option (Nat × Nat × Bool)→Option AV
 | some (l,h,z)=>if z then some (.snil n) else some (.sref n r (i+l) (h-l))
 | none=>none
def q7m (n:Nat):Option (Nat × Nat × Bool)→Option AV
 | some _=>some (.snil n)
 | none=>none
def q87 (n:Nat) (lo hi mx:Bool):List AV→Option AV
 | .tsl m xs::bs=>if m=n then q7j n xs (bounds xs.length lo hi mx bs) else none
 | .sref m r i len::bs=>if m=n then q7f n r i (bounds len lo hi mx bs) else none
 | .snil m::bs=>q7m m (bounds 0 lo hi mx bs)
 | _=>none

def qnp (isMax:Bool):AV→List AV→Option AV
 | x,[]=>some x
 | .int k a,.int k' b::rest=>if k=k' then qnp isMax (.int k (if isMax then (if b>a then b else a) else (if b<a then b else a))) rest else none
 | _,_=>none

def qkP:List AV→Option AV
 | [x]=>some x
 | _=>none
def qjW:List AV→Option AV
 | [.bool c,a,b]=>some (if c then a else b)
 | _=>none
def q8p (z:List AV) (pl:List (Nat × Nat)) (args:List AV):Option AV:=
 if pl.length=args.length∧args.all AV.solid=true then (q2M z (pl.zip args)).map .agg else none
def qq0 (op:BinOp):List AV→Option AV
 | [x,y]=>qlU op x y
 | _=>none
def xUn (op:UnOp):List AV→Option AV
 | [x]=>qre op x
 | _=>none
def qkN (k:IntKind):List AV→Option AV
 | [.int _ n]=>some (.int k (k.wrap n))
 | _=>none
def q77:List AV→Option AV
 | [.str s]=>some (.str s)
 | _=>none
def qmM:List AV→Option AV
 | [.int _ n]=>some (.str (Go.Utf8.encode n).data.toList)
 | _=>none
def qpC (i:Nat):List AV→Option AV
 | [.tup vs]=>vs[i]?
 | _=>none
def qec (off n:Nat) (agg:Bool):List AV→Option AV
 | [.agg cs]=>part cs off n agg
 | _=>none
def qaB (ln n:Nat) (agg:Bool):List AV→Option AV
 | [.agg cs,.int _ i]=>if 0≤i∧i<ln then part cs (i.toNat * n) n agg else none
 | _=>none
def qdZ:Option UInt8→Option AV
 | some b=>some (.int .u8 b.toNat)
 | none=>none
def q9Z:List AV→Option AV
 | [.str s,.int _ i]=>if 0≤i then qdZ s[i.toNat]? else none
 | _=>none
def qe9 (off:Nat):List AV→Option AV
 | [.ptr n r i o]=>some (.ptr n r i (o+off))
 | [.tptr cs o]=>some (.tptr cs (o+off))
 | _=>none
def qeE:Option AV→Option AV
 | some x=>some (.tptr x.cells 0)
 | none=>none
def qaf (n:Nat):List AV→Option AV
 | [.tsl m l,.int _ i]=>if 0≤i∧m=n then qeE l[i.toNat]? else none
 | [.sref m r j ln,.int _ i]=>if 0≤i∧i<ln∧m=n then some (.ptr n r (j+i.toNat) 0) else none
 | _=>none
def qa8 (ln n:Nat):List AV→Option AV
 | [.ptr m r j off,.int _ i]=>if 0≤i∧i<ln then (if m=n∧off=0 then some (.ptr m r (j+i.toNat) 0) else some (.ptr m r j (off+i.toNat * n))) else none
 | [.tptr cs o,.int _ i]=>if 0≤i∧i<ln then some (.tptr cs (o+i.toNat * n)) else none
 | _=>none
def qjE:List AV→Option AV
 | [.str s]=>some (.int .i64 s.length)
 | _=>none
def qk3:List AV→Option AV
 | [.tsl _ l]=>some (.int .i64 l.length)
 | [.sref _ _ _ ln]=>some (.int .i64 ln)
 | [.snil _]=>some (.int .i64 0)
 | _=>none
def qpQ:List AV→Option AV
 | [.ptr n r i o]=>some (.ptr n r i o)
 | [.tptr cs o]=>some (.tptr cs o)
 | [.fn f cap]=>some (.fn f cap)
 | _=>none
def qqy (t:Nat):List AV→Option AV
 | [x]=>some (.ifc t x)
 | _=>none
def xMM (m:Bool):List AV→Option AV
 | x::rest=>qnp m x rest
 | _=>none

def POp.exec (p:POp) (args:List AV):Option AV:=
 match p with
 | .move=>qkP args
 | .pick=>qjW args
 | .build z pl=>q8p z pl args
 | .bin op=>qq0 op args
 | .un op=>xUn op args
 | .conv k=>qkN k args
 | .convStr=>q77 args
 | .runeStr=>qmM args
 | .ext i=>qpC i args
 | .field off n agg=>qec off n agg args
 | .idxArr ln n agg=>qaB ln n agg args
 | .idxStr=>q9Z args
 | .faddr off=>qe9 off args
 | .iaddrS n=>qaf n args
 | .iaddrA ln n=>qa8 ln n args
 | .eqB neg=>qpx neg args
 | .eqF sh neg=>qpK sh neg args
 | .eqN k neg=>qpH k neg args
 | .sliceS lo hi=>q7w lo hi args
 | .sliceL n lo hi mx=>q87 n lo hi mx args
 | .lenS=>qjE args
 | .lenL=>qk3 args
 | .lenC n=>some (.int .i64 n)
 | .chk=>qpQ args
 | .mkfn f=>some (.fn f args)
 | .mkifc t=>qqy t args
 | .minmax m=>xMM m args


inductive KK where
 | one (c:CK)
 | many (sh:List CK)
 deriving Inhabited

inductive ROp where
 | load (sz:Option Nat)
 | bytesStr
 | lenMap
 | lookup (kk:KK) (zero:AV) (ok:Bool)
 | sliceArr (len n:Nat) (lo hi:Bool)
 | lookupK (sh:List CK) (zero:AV) (ok:Bool)
 deriving Inhabited

def q4g (cs:List AV) (off:Nat):Option Nat→Option AV
 | none=>cs[off]?
 | some n=>if off+n≤cs.length then some (.agg ((cs.drop off).take n)) else none

def flat:List AV→List AV
 | []=>[]
 | x::xs=>x.cells++flat xs

def oneCell (off:Nat):Option AV→Option AV
 | some e=>e.cells[off]?
 | none=>none

def qcT (n off m:Nat):Option AV→Option AV
 | some e=>if off=0∧m=n then some (.agg e.cells) else q4g e.cells off (some m)
 | none=>none

def qa1 (n i off:Nat) (sz:Option Nat) (n':Nat) (els:List AV):Option AV:=
 if n'=n then
  match sz with
  | none=>oneCell off els[i]?
  | some m=>
   if off+m≤n then qcT n off m els[i]?
   else if off=0∧m % n=0∧i+m / n≤els.length then some (.agg (flat ((els.drop i).take (m / n)))) else none
 else none

def q64 {α:Type} (b:Option Blk) (k:Nat→List AV→Bool→Bool→Nat→Option α):Option α:=
 match b with
 | some (.row n els ro fl fam)=>k n els ro fl fam
 | _=>none

def q6U {α:Type} (b:Option Blk) (k:List (AV × AV)→Option α):Option α:=
 match b with
 | some (.map es)=>k es
 | _=>none

def Heap.load (H:Heap) (n r i off:Nat) (sz:Option Nat):Option AV:=q64 H[r]? fun n' els _ _ _=>qa1 n i off sz n' els

def q9o:AV→Option UInt8
 | .int .u8 n=>some (UInt8.ofNat n.toNat)
 | _=>none

def q4k:KK→AV→AV→Option Bool
 | .one c,x,y=>q3p c x y
 | .many sh,.agg xs,.agg ys=>q2p sh xs ys
 | _,_,_=>none

def findKey (kk:KK) (k:AV):List (AV × AV)→Nat→Option (Option (Nat × AV))
 | [],_=>some none
 | (k',v)::es,i=>
  match q4k kk k k' with
  | none=>none
  | some true=>some (some (i,v))
  | some false=>findKey kk k es (i+1)

def qhj (sz:Option Nat) (H:Heap):List AV→Option AV
 | [.tptr cs off]=>q4g cs off sz
 | [.ptr n r i off]=>H.load n r i off sz
 | _=>none
def qmq:Option (List AV)→Option AV
 | some l=>(q1v q9o l).map .str
 | none=>none
def Heap.elems (H:Heap) (n:Nat):AV→Option (List AV)
 | .snil _=>some []
 | .tsl m l=>if m=n∨l=[] then some l else none
 | .sref m r i len=>q64 H[r]? fun n' els _ _ _=>if n'=n∧m=n∧i+len≤els.length then some ((els.drop i).take len) else none
 | _=>none

def q4s (H:Heap):List AV→Option AV
 | [x]=>qmq (H.elems 1 x)
 | _=>none
def q7Q (H:Heap):List AV→Option AV
 | [.mref r]=>q6U H[r]? fun es=>some (.int .i64 es.length)
 | [.nilm]=>some (.int .i64 0)
 | _=>none
def qfA (zero:AV) (ok:Bool):Option (Option (Nat × AV))→Option AV
 | some (some (_,v))=>some (if ok then .tup [v,.bool true] else v)
 | some none=>some (if ok then .tup [zero,.bool false] else zero)
 | none=>none
def q3Y (kk:KK) (zero:AV) (ok:Bool) (H:Heap):List AV→Option AV
 | [.mref r,k]=>q6U H[r]? fun es=>qfA zero ok (findKey kk k es 0)
 | [.nilm,_]=>qfA zero ok (some none)
 | _=>none
def q49 (sh:List CK):AV→Bool
 | .agg cs=>match q2p sh cs cs with
  | some b=>b
  | none=>false
 | _=>false
def q5B (sh:List CK) (zero:AV) (ok:Bool) (H:Heap):List AV→Option AV
 | [m,k]=>if q49 sh k=true then q3Y (.many sh) zero ok H [m,k] else none
 | _=>none
def q7C (len n:Nat) (lo hi:Bool) (H:Heap):List AV→Option AV
 | .ptr m r i off::bs=>
  match bounds len lo hi false bs with
  | some (l,h,_)=>q64 H[r]? fun n' els _ _ _=>if n'=n∧m=n∧off=0∧i+len≤els.length then some (if l<h then .sref n r (i+l) (h-l) else .tsl n []) else none
  | none=>none
 | _=>none

def ROp.exec (p:ROp) (args:List AV) (H:Heap):Option AV:=
 match p with
 | .load sz=>qhj sz H args
 | .bytesStr=>q4s H args
 | .lenMap=>q7Q H args
 | .lookup kk zero ok=>q3Y kk zero ok H args
 | .sliceArr len n lo hi=>q7C len n lo hi H args
 | .lookupK sh zero ok=>q5B sh zero ok H args


inductive NOp where
 | new (n:Nat) (els:List AV)
 | box (n:Nat)
 | buildSlice (n:Nat) (z:List AV) (pl:List Nat)
 | mkSlice (n bytes:Nat) (z:AV)
 | mkMap
 | strBytes
 deriving Inhabited

inductive EOp where
 | store (sz:Nat)
 | append (n bytes:Nat)
 | appendStr
 | copy (n:Nat)
 | mapSet (kk:KK)
 | delete (kk:KK)
 | clearMap
 | clearS (z:AV)
 | mapSetK (sh:List CK)
 deriving Inhabited

def setCells (e:AV) (off:Nat) (vs:List AV):AV:=
 match e with
 | .agg cs=>.agg (cs.take off++vs++cs.drop (off+vs.length))
 | x=>match off,vs with
  | 0,[v]=>v
  | _,_=>x

def q71 (n:Nat):Nat→List AV→List AV
 | 0,_=>[]
 | k+1,cs=>(if n=1 then (cs[0]?).getD .dead else .agg (cs.take n))::q71 n k (cs.drop n)

def q1i (r fam from_:Nat):Heap→Nat→Option Heap
 | [],_=>some []
 | b::bs,j=>
  match q1i r fam from_ bs (j+1) with
  | none=>none
  | some bs'=>
   match b with
   | .row n els ro fl fam'=>
    if fam'=fam∧j≠r∧from_≤els.length then (if ro then none else some (.gone::bs')) else some (.row n els ro fl fam'::bs')
   | b=>some (b::bs')

def Heap.strike (H:Heap) (r fam:Nat) (from_:Nat):Option Heap:=q1i r fam from_ H 0

def q2X (n off:Nat) (vs:List AV) (e:AV):AV:=
 if off=0∧vs.length=n then (match e with | .agg _=>.agg vs | e=>setCells e off vs) else setCells e off vs

def q7d (n i off:Nat) (vs:List AV) (els:List AV):Option (List AV):=
 if off+vs.length≤n then
  match els[i]? with
  | some e=>some (els.set i (q2X n off vs e))
  | none=>none
 else if off=0∧vs.length % n=0∧i+vs.length / n≤els.length then some (els.take i++q71 n (vs.length / n) vs++els.drop (i+vs.length / n))
 else none

def qn7 {α β γ:Type} (x:Option α) (y:Option β) (k:α→β→γ):Option γ:=
 match x,y with
 | some a,some b=>some (k a b)
 | _,_=>none

def Heap.store (H:Heap) (n r i off:Nat) (vs:List AV):Option Heap:=
 q64 H[r]? fun n' els ro fl fam=>
  if n'=n∧ro=false then qn7 (q7d n i off vs els) (H.strike r fam 0) fun els' H'=>H'.set r (.row n els' false (fl && vs.all (AV.pureN 5)) fam)
  else none

def q37 (H:Heap) (n m:Nat) (nfl:Bool):List AV→AV × Heap
 | []=>(.snil m,H)
 | x::xs=>(.sref n H.length 0 (xs.length+1),H++[.row n (x::xs) false nfl H.length])

def Heap.append (H:Heap) (n bytes:Nat) (s:AV) (news:List AV) (nfl:Bool):Option (AV × Heap):=
 match s with
 | .snil m=>if news.length * bytes≤2^40∧news.length≤lim then some (q37 H n m nfl news) else none
 | .sref m r i len=>
  q64 H[r]? fun n' els _ fl fam=>
   if n'=n∧m=n∧i+len≤els.length∧(len+news.length) * bytes≤2^40∧len+news.length≤lim then
    if i=0∧len=els.length then
     (H.strike r fam (len+1)).map fun H'=>(.sref n H.length 0 (len+news.length),H'++[.row n (els++news) false (fl && nfl) fam])
    else
     (H.strike H.length fam 0).map fun H'=>(.sref n H.length 0 (len+news.length),H'++[.row n ((els.drop i).take len++news) false (fl && nfl) H.length])
   else none
 | _=>none

def Heap.flatOf (H:Heap):AV→Bool
 | .sref _ r _ _=>match H[r]? with
  | some (.row _ _ _ fl _)=>fl
  | _=>false
 | _=>true

def qnw (n:Nat) (els:List AV) (id:Nat):List AV→Option (AV × Blk)
 | []=>some (.ptr n id 0 0,.row n els false true id)
 | _=>none
def qog (n:Nat) (id:Nat):List AV→Option (AV × Blk)
 | [v]=>
  if v.cells.all AV.one=false then none
  else if v.cells.length=n then some (.ptr n id 0 0,.row n [v] false v.isPure id)
  else if v.cells.length % n=0 then some (.ptr n id 0 0,.row n (q71 n (v.cells.length / n) v.cells) false v.isPure id)
  else none
 | _=>none
def q3m (n:Nat) (z:List AV) (pl:List Nat) (id:Nat) (args:List AV):Option (AV × Blk):=
 if pl.length=args.length∧args.all (fun v=>decide (v.cells.length=n) && v.cells.all AV.one)=true∧pl.all (fun i=>decide (i<z.length))=true then
  (match z with
  | []=>some (.snil n,.gone)
  | _=>some (.sref n id 0 z.length,.row n ((pl.zip args).foldl (fun l x=>l.set x.1 x.2) z) false (args.all fun v=>v.isPure && v.aged) id))
 else none
def q5w (n bytes:Nat) (z:AV) (id:Nat):List AV→Option (AV × Blk)
 | [.int _ l,.int _ c]=>
  if 0≤l∧l≤c∧c * bytes≤2^40∧c≤lim then
   (if c=0 then some (.snil n,.gone) else some (.sref n id 0 l.toNat,.row n (List.replicate c.toNat z) false z.aged id))
  else none
 | _=>none
def q9h (id:Nat):List AV→Option (AV × Blk)
 | []=>some (.mref id,.map [])
 | [.int _ _]=>some (.mref id,.map [])
 | _=>none
def q8s (id:Nat):List AV→Option (AV × Blk)
 | [.str b]=>some (.sref 1 id 0 b.length,.row 1 (b.map fun c=>.int .u8 c.toNat) false true id)
 | _=>none

def NOp.exec (p:NOp) (args:List AV) (id:Nat):Option (AV × Blk):=
 match p with
 | .new n els=>qnw n els id args
 | .box n=>qog n id args
 | .buildSlice n z pl=>q3m n z pl id args
 | .mkSlice n bytes z=>q5w n bytes z id args
 | .mkMap=>q9h id args
 | .strBytes=>q8s id args

def qiK (H:Heap):AV × Heap:=(.tup [],H)

def qea (sz:Nat) (H:Heap):List AV→Option (AV × Heap)
 | [.ptr n r i off,v]=>if v.cells.length=sz∧v.cells.all AV.one=true then (H.store n r i off v.cells).map qiK else none
 | _=>none
def q2B (n bytes:Nat) (H:Heap):List AV→Option (AV × Heap)
 | [s,x]=>(H.elems n x).bind fun news=>H.append n bytes s news (H.flatOf x)
 | _=>none
def q4Z (H:Heap):List AV→Option (AV × Heap)
 | [s,.str b]=>H.append 1 1 s (b.map fun c=>.int .u8 c.toNat) true
 | _=>none
def qkZ (n:Nat) (H:Heap):List AV→Option (AV × Heap)
 | [.sref m r i ln,x]=>
  (H.elems n x).bind fun xs=>q64 H[r]? fun n' els ro fl fam=>
   if n'=n∧m=n∧ro=false∧i+ln≤els.length then
    (H.strike r fam 0).map fun H'=>(.int .i64 (min xs.length ln:Nat),H'.set r (.row n (els.take i++xs.take ln++els.drop (i+min xs.length ln)) false (fl && H.flatOf x) fam))
   else none
 | [.snil _,x]=>(H.elems n x).map fun _=>(.int .i64 0,H)
 | _=>none
def qdU (H:Heap) (r:Nat) (k v:AV) (es:List (AV × AV)):Option (Option (Nat × AV))→Option (AV × Heap)
 | some (some (i,_))=>some (qiK (H.set r (.map (es.set i (k,v)))))
 | some none=>some (qiK (H.set r (.map (es++[(k,v)]))))
 | none=>none
def q5v (kk:KK) (H:Heap):List AV→Option (AV × Heap)
 | [.mref r,k,v]=>q6U H[r]? fun es=>qdU H r k v es (findKey kk k es 0)
 | _=>none
def q7n (sh:List CK) (H:Heap):List AV→Option (AV × Heap)
 | [m,k,v]=>if q49 sh k=true then q5v (.many sh) H [m,k,v] else none
 | _=>none
def qhi (H:Heap) (r:Nat) (es:List (AV × AV)):Option (Option (Nat × AV))→Option (AV × Heap)
 | some (some (i,_))=>some (qiK (H.set r (.map (es.eraseIdx i))))
 | some none=>some (qiK H)
 | none=>none
def qgP (kk:KK) (H:Heap):List AV→Option (AV × Heap)
 | [.mref r,k]=>q6U H[r]? fun es=>qhi H r es (findKey kk k es 0)
 | _=>none
def qb5 (H:Heap):List AV→Option (AV × Heap)
 | [.mref r]=>q6U H[r]? fun _=>some (qiK (H.set r (.map [])))
 | _=>none

def qai (z:AV) (H:Heap):List AV→Option (AV × Heap)
 | [.snil _]=>some (qiK H)
 | [.sref m r i len]=>q64 H[r]? fun n' els ro fl fam=>
   if n'=z.cells.length∧m=n'∧ro=false∧i+len≤els.length then (H.strike r fam 0).map fun H'=>qiK (H'.set r (.row n' (els.take i++List.replicate len z++els.drop (i+len)) false (fl && z.isPure) fam)) else none
 | _=>none

def EOp.exec (p:EOp) (args:List AV) (H:Heap):Option (AV × Heap):=
 match p with
 | .store sz=>qea sz H args
 | .append n bytes=>q2B n bytes H args
 | .appendStr=>q4Z H args
 | .copy n=>qkZ n H args
 | .mapSet kk=>q5v kk H args
 | .delete kk=>qgP kk H args
 | .clearMap=>qb5 H args
 | .clearS z=>qai z H args
 | .mapSetK sh=>q7n sh H args


inductive Opd where
 | t (i:Nat)
 | c (v:AV)
 deriving Inhabited

inductive AOp where
 | pure (p:POp)
 | read (p:ROp)
 | new (p:NOp)
 | newAt (j:Nat) (p:NOp)
 | eff (p:EOp)
 | call (f:Nat)
 | pcall (f:Nat)
 | callv
 | bad
 deriving Inhabited

structure AOper where
 dst:Option Nat
 op:AOp
 args:List Opd
 guard:Option (Nat × Bool)
 deriving Inhabited

inductive ACode where
 | skip
 | ops (l:List AOper)
 | draw (k:Nat) (ls:List (List AOper))
 | seq (a b:ACode)
 | cond (x:Opd) (a b:ACode)
 | block (id:Nat) (b:ACode)
 | scope (b:ACode)
 | loop (live:List Nat) (b:ACode)
 | exit (id:Nat)
 | ret
 deriving Inhabited

inductive ResV where
 | tmp (i:Nat)
 | cell (i:Nat) (sz:Option Nat)
 deriving Inhabited

structure AFn where
 nt:Nat
 res:List ResV
 body:ACode
 deriving Inhabited

inductive Ex where
 | normal
 | exit (id:Nat)
 | ret
 deriving DecidableEq,Inhabited

structure St where
 tmps:List AV
 heap:Heap
 base:Nat
 rb:Nat:=0
 deriving Inhabited

def undef:AV:=.tup []

def St.eval (s:St):Opd→AV
 | .t i=>s.tmps.getD i undef
 | .c v=>v

def St.put (s:St) (dst:Option Nat) (v:AV) (H:Heap):St:=
 match dst with
 | some d=>{ s with tmps:=s.tmps.set d v,heap:=H }
 | none=>{ s with heap:=H }

def St.wanted (s:St):Option (Nat × Bool)→Option Bool
 | none=>some true
 | some (t,b)=>
  match s.tmps[t]? with
  | some (.bool c)=>some (c == b)
  | some (.tup [])=>some false
  | _=>none


def frz (H:Heap):Nat→AV→Option AV
 | 0,_=>none
 | k+1,.sref n r i len=>
  match H[r]? with
  | some (.row n' els _ fl _)=>
   if n'=n∧i+len≤els.length then
    (if fl then some (.tsl n ((els.drop i).take len)) else (q1v (frz H k) ((els.drop i).take len)).map (.tsl n))
   else none
  | _=>none
 | _+1,.snil n=>some (.tsl n [])
 | k+1,.agg cs=>(q1v (frz H k) cs).map .agg
 | k+1,.tup cs=>(q1v (frz H k) cs).map .tup
 | k+1,.ptr n r i off=>
  match H[r]? with
  | some (.row n' els _ fl _)=>
   if n'=n then
    (match els[i]? with
    | some e=>if fl then some (.tptr e.cells off) else (q1v (frz H k) e.cells).map fun cs=>.tptr cs off
    | none=>none)
   else none
  | _=>none
 | k+1,.fn f cap=>(q1v (frz H k) cap).map (.fn f)
 | _+1,.mref _=>none
 | _+1,.iref _=>none
 | _+1,.ifc .. => none
 | _+1,.dead=>none
 | _+1,v=>some v
end Ago
namespace Ago
mutual
def AV.bulk:AV→Nat
 | .str s=>s.length+1
 | .tsl _ l=>AV.bulks l+1
 | .agg cs=>AV.bulks cs+1
 | _=>1
def AV.bulks:List AV→Nat
 | []=>0
 | x::xs=>AV.bulk x+AV.bulks xs
end

theorem q2Q : ∀ (a b:List AV),AV.bulks (a++b)=AV.bulks a+AV.bulks b
 | [],b=>by simp [AV.bulks]
 | x::a,b=>by simp [AV.bulks,q2Q a b,Nat.add_assoc]

theorem q1b (x:AV):1≤x.bulk:=by
 cases x<;>simp [AV.bulk]

end Ago
namespace Ago

def AV.refsN:Nat→AV→List Nat
 | 0,_=>[]
 | _+1,.sref _ r _ _=>[r]
 | _+1,.ptr _ r _ _=>[r]
 | _+1,.mref r=>[r]
 | _+1,.iref r=>[r]
 | k+1,.agg cs=>cs.flatMap (AV.refsN k)
 | k+1,.tup cs=>cs.flatMap (AV.refsN k)
 | k+1,.fn _ cs=>cs.flatMap (AV.refsN k)
 | k+1,.ifc _ v=>AV.refsN k v
 | _+1,_=>[]

def Blk.refs:Blk→List Nat
 | .row _ els _ fl _=>if fl then [] else els.flatMap (AV.refsN 6)
 | .map es=>es.flatMap fun x=>AV.refsN 6 x.1++AV.refsN 6 x.2
 | _=>[]

def q4u (H:Heap) (base:Nat):Nat→List Nat→List Nat→List Nat
 | 0,_,seen=>seen
 | _+1,[],seen=>seen
 | k+1,r::todo,seen=>
  if r<base then q4u H base k todo seen
  else if seen.contains r then q4u H base k todo seen
  else
   match H[r]? with
   | none=>q4u H base k todo seen
   | some b=>q4u H base k (b.refs++todo) (seen++[r])

def q3K (base:Nat) (ks:List Nat) (r:Nat):Option Nat:=
 if r<base then some r else (ks.idxOf? r).map (base + ·)

def AV.renN (f:Nat→Option Nat):Nat→AV→AV
 | 0,_=>.dead
 | _+1,.sref n r i l=>match f r with
  | some r'=>.sref n r' i l
  | none=>.dead
 | _+1,.ptr n r i o=>match f r with
  | some r'=>.ptr n r' i o
  | none=>.dead
 | _+1,.mref r=>match f r with
  | some r'=>.mref r'
  | none=>.dead
 | _+1,.iref r=>match f r with
  | some r'=>.iref r'
  | none=>.dead
 | k+1,.agg cs=>.agg (cs.map (AV.renN f k))
 | k+1,.tup cs=>.tup (cs.map (AV.renN f k))
 | k+1,.fn g cs=>.fn g (cs.map (AV.renN f k))
 | k+1,.ifc t v=>.ifc t (AV.renN f k v)
 | _+1,v=>v

def Blk.famOf:Blk→Option Nat
 | .row _ _ _ _ fam=>some fam
 | _=>none

def q80 (H:Heap) (base:Nat) (ks:List Nat) (fam:Nat):Nat:=
 if fam<base then fam else base+(ks.findIdx fun r=>(H.getD r .gone).famOf == some fam)

def Blk.ren (f:Nat→Option Nat) (g:Nat→Nat):Blk→Blk
 | .row n els ro fl fam=>.row n (if fl then els else els.map (AV.renN f 6)) ro fl (g fam)
 | .map es=>.map (es.map fun x=>(AV.renN f 6 x.1,AV.renN f 6 x.2))
 | b=>b

def q32 (live:List Nat):Nat→List AV→List AV
 | _,[]=>[]
 | i,v::vs=>(if live.contains i then v else .dead)::q32 live (i+1) vs

def q1R (ks:List Nat):Heap→Nat→List (Nat × Nat)
 | [],_=>[]
 | .row _ els true _ fam::bs,j=>if ks.contains j then q1R ks bs (j+1) else (fam,els.length)::q1R ks bs (j+1)
 | _::bs,j=>q1R ks bs (j+1)

def Blk.fits (dr:List (Nat × Nat)):Blk→Bool
 | .row _ els _ _ fam=>dr.all fun d=>d.1 != fam || decide (d.2≤els.length)
 | _=>true

def Blk.roBy (dr:List (Nat × Nat)):Blk→Blk
 | .row n els ro fl fam=>.row n els (ro || dr.any fun d=>d.1 == fam) fl fam
 | b=>b

def qby (dr:List (Nat × Nat)) (bs:List Blk):Bool:=
 match dr with
 | []=>true
 | dr=>bs.all (Blk.fits dr)

def q7H (dr:List (Nat × Nat)) (bs:List Blk):List Blk:=
 match dr with
 | []=>bs
 | dr=>bs.map (Blk.roBy dr)

def q7q (b:Bool) (s t:St):St:=
 match b with
 | true=>t
 | false=>s

def q31 (f:Nat→Option Nat) (bs:List Blk):Bool:=bs.all fun b=>b.refs.all fun q=>(f q).isSome

def St.normBy (s:St) (tm:List AV) (ks:List Nat):St:=
 let kept:=s.heap.take s.base++ks.map fun r=>s.heap.getD r .gone
 let dr:=q1R ks (s.heap.drop s.base) s.base
 q7q (q31 (q3K s.base ks) kept && qby dr kept) s
  { tmps:=tm.map (AV.renN (q3K s.base ks) 6),heap:=(q7H dr kept).map (Blk.ren (q3K s.base ks) (q80 s.heap s.base ks)),base:=s.base,rb:=0 }

def St.normTm (s:St) (tm:List AV):St:=s.normBy tm (q4u s.heap s.base 4000 (tm.flatMap (AV.refsN 6)++(s.heap.take s.base).flatMap Blk.refs) [])

def St.norm (live:List Nat) (s:St):St:=s.normTm (q32 live 0 s.tmps)

def q8a (s:St):ResV→Option AV
 | .tmp i=>some (s.tmps.getD i undef)
 | .cell i sz=>ROp.exec (.load sz) [s.tmps.getD i undef] s.heap

def results (res:List ResV) (s:St):Option AV:=
 match q1v (q8a s) res with
 | some [v]=>some v
 | some vs=>some (.tup vs)
 | none=>none

def q8D (base:Nat) (v:AV) (H:Heap):St:=St.norm [0] { tmps:=[v],heap:=H,base:=base }

def q0k (H:Heap):Nat→AV→List Nat
 | 0,_=>[]
 | k+1,.sref _ r i len=>
  match H[r]? with
  | some (.row _ els _ fl _)=>r::(if fl then [] else ((els.drop i).take len).flatMap (q0k H k))
  | _=>[]
 | k+1,.ptr _ r i _=>
  match H[r]? with
  | some (.row _ els _ fl _)=>r::(if fl then [] else match els[i]? with
   | some e=>e.cells.flatMap (q0k H k)
   | none=>[])
  | _=>[]
 | k+1,.agg cs=>cs.flatMap (q0k H k)
 | k+1,.tup cs=>cs.flatMap (q0k H k)
 | k+1,.fn _ cs=>cs.flatMap (q0k H k)
 | _+1,_=>[]

def Blk.mark:Blk→Blk
 | .row n els _ fl fam=>.row n els true fl fam
 | b=>b

def q3D (rs:List Nat):Nat→Heap→Heap
 | _,[]=>[]
 | j,b::bs=>(if rs.contains j then b.mark else b)::q3D rs (j+1) bs

def q1t (H:Heap) (rs:List Nat):Heap:=
 match rs with
 | []=>H
 | rs=>q3D rs 0 H

def q0t (H:Heap) (args:List AV) (v:AV):Heap:=if v.isPlain then H else q1t H (args.flatMap (q0k H 6))

inductive J where
 | ops (l:List AOper) (s s':St)
 | exec (c:ACode) (s:St) (e:Ex) (s':St)
 | run (f:Nat) (args:List AV) (H:Heap) (v:AV) (H':Heap)
 | prun (f:Nat) (ts:List AV) (v:AV)

def enter (fn:AFn) (args:List AV) (H:Heap):St:=
 { tmps:=args++List.replicate (fn.nt-args.length) undef,heap:=H,base:=H.length }

def Ex.out (id:Nat) (e:Ex):Ex:=
 match e with
 | .exit i=>if i=id then .normal else .exit i
 | e=>e

def St.keep (s:St) (k:Nat):St:={ s with heap:=s.heap++List.replicate k .resv,rb:=s.heap.length }

structure Ctx where
 code:Nat→Option AFn
 prim:Nat→List AV→Heap→AV→Heap→Prop
 pprim:Nat→List AV→AV→Prop

inductive BS (C:Ctx):J→Prop where
 | prim {f:Nat} {args:List AV} {H:Heap} {v:AV} {H':Heap} (h:C.prim f args H v H'):BS C (.run f args H v H')
 | pprim {f:Nat} {ts:List AV} {v:AV} (h:C.pprim f ts v):BS C (.prun f ts v)
 | nil (s:St):BS C (.ops [] s s)
 | pass {o:AOper} {l:List AOper} {s s':St} (hw:s.wanted o.guard=some false) (h:BS C (.ops l (s.put o.dst undef s.heap) s')):BS C (.ops (o::l) s s')
 | pure {o:AOper} {l:List AOper} {s s':St} {p:POp} {v:AV} (hw:s.wanted o.guard=some true) (ho:o.op = .pure p) (hv:p.exec (o.args.map s.eval)=some v)
   (h:BS C (.ops l (s.put o.dst v s.heap) s')):BS C (.ops (o::l) s s')
 | read {o:AOper} {l:List AOper} {s s':St} {p:ROp} {v:AV} (hw:s.wanted o.guard=some true) (ho:o.op = .read p) (hv:p.exec (o.args.map s.eval) s.heap=some v)
   (h:BS C (.ops l (s.put o.dst v s.heap) s')):BS C (.ops (o::l) s s')
 | new {o:AOper} {l:List AOper} {s s':St} {p:NOp} {v:AV} {b:Blk} (hw:s.wanted o.guard=some true) (ho:o.op = .new p) (hv:p.exec (o.args.map s.eval) s.heap.length=some (v,b))
   (h:BS C (.ops l (s.put o.dst v (s.heap++[b])) s')):BS C (.ops (o::l) s s')
 | newAt {o:AOper} {l:List AOper} {s s':St} {j:Nat} {p:NOp} {v:AV} {b:Blk} (hw:s.wanted o.guard=some true) (ho:o.op = .newAt j p) (hv:p.exec (o.args.map s.eval) (s.rb+j)=some (v,b))
   (hf:s.heap[s.rb+j]?=some .resv) (h:BS C (.ops l (s.put o.dst v (s.heap.set (s.rb+j) b)) s')):BS C (.ops (o::l) s s')
 | eff {o:AOper} {l:List AOper} {s s':St} {p:EOp} {v:AV} {H':Heap} (hw:s.wanted o.guard=some true) (ho:o.op = .eff p) (hv:p.exec (o.args.map s.eval) s.heap=some (v,H'))
   (h:BS C (.ops l (s.put o.dst v H') s')):BS C (.ops (o::l) s s')
 | call {o:AOper} {l:List AOper} {s s':St} {f:Nat} {v:AV} {H':Heap} (hw:s.wanted o.guard=some true) (ho:o.op = .call f) (hv:BS C (.run f (o.args.map s.eval) s.heap v H'))
   (h:BS C (.ops l (s.put o.dst v H') s')):BS C (.ops (o::l) s s')
 | pcall {o:AOper} {l:List AOper} {s s':St} {f:Nat} {ts:List AV} {v:AV} (hw:s.wanted o.guard=some true) (ho:o.op = .pcall f) (ha:q1v (frz s.heap 6) (o.args.map s.eval)=some ts)
   (hr:BS C (.prun f ts v)) (h:BS C (.ops l (s.put o.dst v (q0t s.heap (o.args.map s.eval) v)) s')):BS C (.ops (o::l) s s')
 | callv {o:AOper} {l:List AOper} {s s':St} {f:Nat} {cap args:List AV} {v:AV} {H':Heap} (hw:s.wanted o.guard=some true) (ho:o.op = .callv) (ha:o.args.map s.eval = .fn f cap::args)
   (hv:BS C (.run f (args++cap) s.heap v H')) (h:BS C (.ops l (s.put o.dst v H') s')):BS C (.ops (o::l) s s')
 | skip (s:St):BS C (.exec .skip s .normal s)
 | ops {l:List AOper} {s s':St} (h:BS C (.ops l s s')):BS C (.exec (.ops l) s .normal s')
 | draw {k:Nat} {ls:List (List AOper)} {s s':St} (hne:ls≠[]) (h : ∀ l,l∈ls→BS C (.ops l (s.keep k) s')):BS C (.exec (.draw k ls) s .normal { s' with rb:=0 })
 | seq {a b:ACode} {s s1 s2:St} {e:Ex} (h1:BS C (.exec a s .normal s1)) (h2:BS C (.exec b s1 e s2)):BS C (.exec (.seq a b) s e s2)
 | seqE {a b:ACode} {s s1:St} {e:Ex} (h1:BS C (.exec a s e s1)) (he:e ≠ .normal):BS C (.exec (.seq a b) s e s1)
 | condT {x:Opd} {a b:ACode} {s s1:St} {e:Ex} (hx:s.eval x = .bool true) (h:BS C (.exec a s e s1)):BS C (.exec (.cond x a b) s e s1)
 | condF {x:Opd} {a b:ACode} {s s1:St} {e:Ex} (hx:s.eval x = .bool false) (h:BS C (.exec b s e s1)):BS C (.exec (.cond x a b) s e s1)
 | block {id:Nat} {b:ACode} {s s1:St} {e:Ex} (h:BS C (.exec b s e s1)):BS C (.exec (.block id b) s (e.out id) s1)
 | scope {b:ACode} {s s1:St} {e:Ex} (h:BS C (.exec b s e s1)):BS C (.exec (.scope b) s e s1)
 | loop {live:List Nat} {b:ACode} {s s1 s2:St} {e:Ex} (h1:BS C (.exec b (s.norm live) .normal s1)) (h2:BS C (.exec (.loop live b) s1 e s2)):BS C (.exec (.loop live b) s e s2)
 | loopE {live:List Nat} {b:ACode} {s s1:St} {e:Ex} (h1:BS C (.exec b (s.norm live) e s1)) (he:e ≠ .normal):BS C (.exec (.loop live b) s e s1)
 | exit (id:Nat) (s:St):BS C (.exec (.exit id) s (.exit id) s)
 | ret (s:St):BS C (.exec .ret s .ret s)
 | run {f:Nat} {fn:AFn} {args:List AV} {H:Heap} {e:Ex} {s':St} {v:AV} (hf:C.code f=some fn) (h:BS C (.exec fn.body (enter fn args H) e s')) (he:e = .normal∨e = .ret)
   (hr:results fn.res s'=some v):BS C (.run f args H ((q8D H.length v s'.heap).tmps.getD 0 .dead) (q8D H.length v s'.heap).heap)
 | prun {f:Nat} {fn:AFn} {ts:List AV} {e:Ex} {s':St} {u v:AV} (hf:C.code f=some fn) (h:BS C (.exec fn.body (enter fn ts []) e s')) (he:e = .normal∨e = .ret)
   (hr:results fn.res s'=some u) (hv:frz s'.heap 6 u=some v):BS C (.prun f ts v)


def q2w {α:Type} (x:Option α) (k:α→Prop):Prop:=
 match x with
 | some v=>k v
 | none=>False

def q5Z (x:AV) (a b:Prop):Prop:=
 match x with
 | .bool true=>a
 | .bool false=>b
 | _=>False

def q2d (x:Option Bool) (a b:Prop):Prop:=
 match x with
 | some true=>a
 | some false=>b
 | none=>False

def qls (x:Option (AV × Blk)) (y:Option Blk) (k:AV × Blk→Prop):Prop:=
 match x,y with
 | some v,some .resv=>k v
 | _,_=>False

def qlu (l:List AV) (k:Nat→List AV→Prop):Prop:=
 match l with
 | .fn f cap::args=>k f (args++cap)
 | _=>False

def qh6 (R:Nat→List AV→Heap→AV→Heap→Prop) (f:Nat) (args:List AV) (H:Heap) (k:AV→Heap→Prop):Prop:=∃ v H',R f args H v H'∧k v H'
def qlw (PR:Nat→List AV→AV→Prop) (f:Nat) (ts:List AV) (k:AV→Prop):Prop:=∃ v,PR f ts v∧k v

section
variable (R:Nat→List AV→Heap→AV→Heap→Prop) (PR:Nat→List AV→AV→Prop)

def q0W:List AOper→(St→Prop)→St→Prop
 | [],K,s=>K s
 | ⟨dst,op,args,g⟩::l,K,s=>
  q2d (s.wanted g)
   (match op with
   | .pure p=>q2w (p.exec (args.map s.eval)) fun v=>q0W l K (s.put dst v s.heap)
   | .read p=>q2w (p.exec (args.map s.eval) s.heap) fun v=>q0W l K (s.put dst v s.heap)
   | .new p=>q2w (p.exec (args.map s.eval) s.heap.length) fun v=>q0W l K (s.put dst v.1 (s.heap++[v.2]))
   | .newAt j p=>qls (p.exec (args.map s.eval) (s.rb+j)) s.heap[s.rb+j]? fun v=>q0W l K (s.put dst v.1 (s.heap.set (s.rb+j) v.2))
   | .eff p=>q2w (p.exec (args.map s.eval) s.heap) fun v=>q0W l K (s.put dst v.1 v.2)
   | .call f=>qh6 R f (args.map s.eval) s.heap fun v H'=>q0W l K (s.put dst v H')
   | .pcall f=>q2w (q1v (frz s.heap 6) (args.map s.eval)) fun ts=>qlw PR f ts fun v=>q0W l K (s.put dst v (q0t s.heap (args.map s.eval) v))
   | .callv=>qlu (args.map s.eval) fun f as=>qh6 R f as s.heap fun v H'=>q0W l K (s.put dst v H')
   | .bad=>False)
   (q0W l K (s.put dst undef s.heap))

def q6E (next:St→Prop) (Q:Ex→St→Prop):Ex→St→Prop
 | .normal,s=>next s
 | e,s=>Q e s

def q4A (id:Nat) (Q:Ex→St→Prop) (e:Ex) (s:St):Prop:=Q (e.out id) s

def qo9 (live:List Nat) (body:(Ex→St→Prop)→St→Prop) (Q:Ex→St→Prop) (s:St):Prop:=
 ∀ X:St→Prop,(∀ t,body (q6E X Q) (t.norm live)→X t)→X s

def aw:ACode→(Ex→St→Prop)→St→Prop
 | .skip,Q,s=>Q .normal s
 | .ops l,Q,s=>q0W R PR l (Q .normal) s
 | .draw k ls,Q,s=>∃ s',ls≠[]∧(∀ l,l∈ls→q0W R PR l (fun t=>t=s') (s.keep k))∧Q .normal { s' with rb:=0 }
 | .seq a b,Q,s=>aw a (q6E (aw b Q) Q) s
 | .cond x a b,Q,s=>
  q5Z (s.eval x) (aw a Q s) (aw b Q s)
 | .block id b,Q,s=>aw b (q4A id Q) s
 | .scope b,Q,s=>aw b Q s
 | .loop live b,Q,s=>qo9 live (aw b) Q s
 | .exit id,Q,s=>Q (.exit id) s
 | .ret,Q,s=>Q .ret s
end

section
variable {C:Ctx}

def q1M (C:Ctx) (f:Nat) (args:List AV) (H:Heap) (v:AV) (H':Heap):Prop:=BS C (.run f args H v H')

def q0f (C:Ctx) (f:Nat) (ts:List AV) (v:AV):Prop:=BS C (.prun f ts v)

theorem q1a {α:Type} {x:Option α} {k:α→Prop} (h:q2w x k) : ∃ v,x=some v∧k v:=by
 cases x with
 | none=>exact h.elim
 | some v=>exact ⟨v,rfl,h⟩

theorem qbM {x:Option (AV × Blk)} {y:Option Blk} {k:AV × Blk→Prop} (h:qls x y k) : ∃ v,x=some v∧y=some .resv∧k v:=by
 unfold qls at h
 split at h
 ·exact ⟨_,rfl,rfl,h⟩
 ·exact h.elim

theorem qb9 {l:List AV} {k:Nat→List AV→Prop} (h:qlu l k) : ∃ f cap args,l = .fn f cap::args∧k f (args++cap):=by
 unfold qlu at h
 split at h
 ·exact ⟨_,_,_,rfl,h⟩
 ·exact h.elim

theorem q7X {x:Option Bool} {a b:Prop} (h:q2d x a b):(x=some true∧a)∨(x=some false∧b):=by
 unfold q2d at h
 split at h
 ·exact .inl ⟨rfl,h⟩
 ·exact .inr ⟨rfl,h⟩
 ·exact h.elim

theorem qdc {x:AV} {a b:Prop} (h:q5Z x a b):(x = .bool true∧a)∨(x = .bool false∧b):=by
 unfold q5Z at h
 split at h
 ·exact .inl ⟨rfl,h⟩
 ·exact .inr ⟨rfl,h⟩
 ·exact h.elim

theorem q18 : ∀ (l:List AOper) (K:St→Prop) (s:St),q0W (q1M C) (q0f C) l K s→∃ s',BS C (.ops l s s')∧K s'
 | [],_,s,h=>⟨s,.nil s,h⟩
 | ⟨dst,op,args,g⟩::l,K,s,h=>by
  unfold q0W at h
  rcases q7X h with ⟨hw,h⟩ | ⟨hw,h⟩
  ·cases op with
   | pure p=>
    obtain ⟨v,hv,h⟩:=q1a h
    obtain ⟨s',h1,h2⟩:=q18 l K _ h
    exact ⟨s',.pure hw rfl hv h1,h2⟩
   | read p=>
    obtain ⟨v,hv,h⟩:=q1a h
    obtain ⟨s',h1,h2⟩:=q18 l K _ h
    exact ⟨s',.read hw rfl hv h1,h2⟩
   | new p=>
    obtain ⟨⟨v,b⟩,hv,h⟩:=q1a h
    obtain ⟨s',h1,h2⟩:=q18 l K _ h
    exact ⟨s',.new hw rfl hv h1,h2⟩
   | newAt j p=>
    obtain ⟨⟨v,b⟩,hv,hf,h⟩:=qbM h
    obtain ⟨s',h1,h2⟩:=q18 l K _ h
    exact ⟨s',.newAt hw rfl hv hf h1,h2⟩
   | eff p=>
    obtain ⟨⟨v,b⟩,hv,h⟩:=q1a h
    obtain ⟨s',h1,h2⟩:=q18 l K _ h
    exact ⟨s',.eff hw rfl hv h1,h2⟩
   | call f=>
    obtain ⟨v,H',hr,h⟩:=h
    obtain ⟨s',h1,h2⟩:=q18 l K _ h
    exact ⟨s',.call hw rfl hr h1,h2⟩
   | pcall f=>
    obtain ⟨ts,ha,v,hr,h⟩:=q1a h
    obtain ⟨s',h1,h2⟩:=q18 l K _ h
    exact ⟨s',.pcall hw rfl ha hr h1,h2⟩
   | callv=>
    obtain ⟨f,cap,as,ha,v,H',hr,h⟩:=qb9 h
    obtain ⟨s',h1,h2⟩:=q18 l K _ h
    exact ⟨s',.callv hw rfl ha hr h1,h2⟩
   | bad=>exact h.elim
  ·obtain ⟨s',h1,h2⟩:=q18 l K _ h
   exact ⟨s',.pass hw h1,h2⟩

theorem q22 : ∀ (c:ACode) (Q:Ex→St→Prop) (s:St),aw (q1M C) (q0f C) c Q s→∃ e s',BS C (.exec c s e s')∧Q e s'
 | .skip,_,s,h=>⟨.normal,s,.skip s,h⟩
 | .ops l,_,s,h=>by
  obtain ⟨s',h1,h2⟩:=q18 l _ s h
  exact ⟨.normal,s',.ops h1,h2⟩
 | .draw k ls,_,s,h=>by
  obtain ⟨s',hne,hl,h2⟩:=h
  refine ⟨.normal,_,.draw hne fun l hm=>?_,h2⟩
  obtain ⟨t,h1,rfl⟩:=q18 l _ _ (hl l hm)
  exact h1
 | .seq a b,Q,s,h=>by
  obtain ⟨e,s1,h1,h2⟩:=q22 a _ s h
  by_cases he:e = .normal
  ·subst he
   obtain ⟨e2,s2,h3,h4⟩:=q22 b Q s1 h2
   exact ⟨e2,s2,.seq h1 h3,h4⟩
  ·refine ⟨e,s1,.seqE h1 he,?_⟩
   cases e<;>first | exact (he rfl).elim | exact h2
 | .cond x a b,Q,s,h=>by
  rcases qdc h with ⟨hx,h⟩ | ⟨hx,h⟩
  ·obtain ⟨e,s1,h1,h2⟩:=q22 a Q s h
   exact ⟨e,s1,.condT hx h1,h2⟩
  ·obtain ⟨e,s1,h1,h2⟩:=q22 b Q s h
   exact ⟨e,s1,.condF hx h1,h2⟩
 | .block id b,Q,s,h=>by
  obtain ⟨e,s1,h1,h2⟩:=q22 b _ s h
  exact ⟨_,s1,.block h1,h2⟩
 | .scope b,Q,s,h=>by
  obtain ⟨e,s1,h1,h2⟩:=q22 b Q s h
  exact ⟨e,s1,.scope h1,h2⟩
 | .loop live b,Q,s,h=>by
  refine h (fun s=>∃ e s',BS C (.exec (.loop live b) s e s')∧Q e s') fun t ht=>?_
  obtain ⟨e,s1,h1,h2⟩:=q22 b _ _ ht
  by_cases he:e = .normal
  ·subst he
   obtain ⟨e2,s2,h3,h4⟩:=h2
   exact ⟨e2,s2,.loop h1 h3,h4⟩
  ·refine ⟨e,s1,.loopE h1 he,?_⟩
   cases e<;>first | exact (he rfl).elim | exact h2
 | .exit id,_,s,h=>⟨.exit id,s,.exit id s,h⟩
 | .ret,_,s,h=>⟨.ret,s,.ret s,h⟩

theorem qh2 {f:Nat} {fn:AFn} {args:List AV} {H:Heap} {v:AV} {H':Heap} (hf:C.code f=some fn)
  (h:aw (q1M C) (q0f C) fn.body (fun e s=>(e = .normal∨e = .ret)∧∃ u,results fn.res s=some u∧(q8D H.length u s.heap).tmps.getD 0 .dead=v∧(q8D H.length u s.heap).heap=H') (enter fn args H)) :
  q1M C f args H v H':=by
 obtain ⟨e,s,h1,he,u,h2,rfl,rfl⟩:=q22 _ _ _ h
 exact .run hf h1 he h2

theorem qg0 {f:Nat} {fn:AFn} {ts:List AV} {v:AV} (hf:C.code f=some fn)
  (h:aw (q1M C) (q0f C) fn.body (fun e s=>(e = .normal∨e = .ret)∧∃ u,results fn.res s=some u∧frz s.heap 6 u=some v) (enter fn ts [])):q0f C f ts v:=by
 obtain ⟨e,s,h1,he,u,h2,h3⟩:=q22 _ _ _ h
 exact .prun hf h1 he h2 h3
end

section
variable {R:Nat→List AV→Heap→AV→Heap→Prop} {PR:Nat→List AV→AV→Prop}

theorem q3k {α:Type} {x:Option α} {k k':α→Prop} (hk : ∀ v,k v→k' v) (h:q2w x k):q2w x k':=by
 cases x with
 | none=>exact h.elim
 | some v=>exact hk v h
theorem qiH {x:Option (AV × Blk)} {y:Option Blk} {k k':AV × Blk→Prop} (hk : ∀ v,k v→k' v) (h:qls x y k):qls x y k':=by
 unfold qls at h ⊢
 split at h
 ·exact hk _ h
 ·exact h.elim
theorem qiE {l:List AV} {k k':Nat→List AV→Prop} (hk : ∀ f v,k f v→k' f v) (h:qlu l k):qlu l k':=by
 unfold qlu at h ⊢
 split at h
 ·exact hk _ _ h
 ·exact h.elim
theorem qdf {x:Option Bool} {a b a' b':Prop} (ha:a→a') (hb:b→b') (h:q2d x a b):q2d x a' b':=by
 unfold q2d at h ⊢
 split at h
 ·exact ha h
 ·exact hb h
 ·exact h.elim
theorem qdF {x:AV} {a b a' b':Prop} (ha:a→a') (hb:b→b') (h:q5Z x a b):q5Z x a' b':=by
 unfold q5Z at h ⊢
 split at h
 ·exact ha h
 ·exact hb h
 ·exact h.elim

theorem q1u {K K':St→Prop} (hk : ∀ s,K s→K' s) : ∀ (l:List AOper) (s:St),q0W R PR l K s→q0W R PR l K' s
 | [],s,h=>hk s h
 | ⟨dst,op,args,g⟩::l,s,h=>by
  unfold q0W at h ⊢
  refine qdf (fun h=>?_) (fun h=>q1u hk l _ h) h
  cases op with
  | pure p=>exact q3k (fun _ h=>q1u hk l _ h) h
  | read p=>exact q3k (fun _ h=>q1u hk l _ h) h
  | new p=>exact q3k (fun _ h=>q1u hk l _ h) h
  | newAt j p=>exact qiH (fun _ h=>q1u hk l _ h) h
  | eff p=>exact q3k (fun _ h=>q1u hk l _ h) h
  | call f=>
   obtain ⟨v,H',hr,h⟩:=h
   exact ⟨v,H',hr,q1u hk l _ h⟩
  | pcall f=>
   refine q3k (fun ts h=>?_) h
   obtain ⟨v,hr,h⟩:=h
   exact ⟨v,hr,q1u hk l _ h⟩
  | callv=>
   refine qiE (fun f as h=>?_) h
   obtain ⟨v,H',hr,h⟩:=h
   exact ⟨v,H',hr,q1u hk l _ h⟩
  | bad=>exact h.elim

theorem q4L : ∀ (c:ACode) {Q Q':Ex→St→Prop} (_ : ∀ e s,Q e s→Q' e s) (s:St),aw R PR c Q s→aw R PR c Q' s
 | .skip,_,_,hq,s,h=>hq _ _ h
 | .ops l,_,_,hq,s,h=>q1u (fun s=>hq .normal s) l s h
 | .draw k ls,_,_,hq,s,h=>by
  obtain ⟨s',hne,hl,h2⟩:=h
  exact ⟨s',hne,hl,hq _ _ h2⟩
 | .seq a b,Q,Q',hq,s,h=>by
  refine q4L a (fun e t ht=>?_) s h
  cases e with
  | normal=>exact q4L b hq t ht
  | exit id=>exact hq _ _ ht
  | ret=>exact hq _ _ ht
 | .cond x a b,Q,Q',hq,s,h=>qdF (fun h=>q4L a hq s h) (fun h=>q4L b hq s h) h
 | .block id b,_,_,hq,s,h=>q4L b (fun _ _ ht=>hq _ _ ht) s h
 | .scope b,_,_,hq,s,h=>q4L b hq s h
 | .loop live b,Q,Q',hq,s,h=>by
  intro X hX
  refine h X fun t ht=>hX t (q4L b (fun e u hu=>?_) _ ht)
  cases e with
  | normal=>exact hu
  | exit id=>exact hq _ _ hu
  | ret=>exact hq _ _ hu
 | .exit id,_,_,hq,s,h=>hq _ _ h
 | .ret,_,_,hq,s,h=>hq _ _ h

theorem qmE {α:Type} {live:List Nat} {b:ACode} {Q:Ex→St→Prop} {s:St} (st:α→St) (Inv:α→Prop) (μ:α→Nat) (a0:α) (h0:s.norm live=st a0) (hi:Inv a0)
  (round : ∀ a,Inv a→aw R PR b (q6E (fun t=>∃ a',t.norm live=st a'∧Inv a'∧μ a'<μ a) Q) (st a)):aw R PR (.loop live b) Q s:=by
 intro X hX
 have key : ∀ n a,μ a=n→Inv a→∀ t:St,t.norm live=st a→X t:=by
  intro n
  induction n using Nat.strongRecOn with
  | _ n ih=>
   intro a hn ha t ht
   refine hX t ?_
   rw[ht]
   refine q4L b (fun e u hu=>?_) _ (round a ha)
   cases e with
   | normal=>
    obtain ⟨a',h1,h2,h3⟩:=hu
    exact ih (μ a') (hn▸h3) a' rfl h2 u h1
   | exit id=>exact hu
   | ret=>exact hu
 exact key _ a0 rfl hi s h0
end
end Ago
namespace Ago
open Go (IntKind BinOp UnOp TypeId TypeDesc Program Operand Oper Op Code Value FuncId Builtin)

section
variable (P:Program)

def q0g (t:TypeId):Nat:=((P.info? t).map (·.size)).getD 0
def q2l (t:TypeId):Nat:=((P.info? t).map (·.bytes)).getD 0
def q0q (t:TypeId):Bool:=
 match P.underlying t with
 | some (.struct _)=>true
 | some (.array _ _)=>true
 | _=>false

def qlP:Nat→TypeId→Option (List AV)
 | 0,_=>none
 | k+1,t=>
  match P.underlying t with
  | some .bool=>some [.bool false]
  | some (.int i)=>some [.int i 0]
  | some .string=>some [.str []]
  | some (.pointer _)=>some [.nilp]
  | some (.slice e)=>some [.snil (q0g P e)]
  | some (.map _ _)=>some [.nilm]
  | some (.func _ _ _)=>some [.nilf]
  | some (.interface _)=>some [.nili]
  | some (.struct fs)=>(q1v (fun (f:Go.Field)=>qlP k f.type) fs.toList).map List.flatten
  | some (.array n e)=>(qlP k e).map fun z=>(List.replicate n z).flatten
  | _=>none

def qjM:AV→Value→Bool
 | .int k n,.int k' n'=>k == k' && n == n'
 | .bool b,.bool b'=>b == b'
 | .str s,.string s'=>s == s'.data.toList
 | .nilp,.pointer none=>true
 | .snil _,.slice none 0 0=>true
 | .nilm,.map none=>true
 | .nilf,.nilFunc=>true
 | .nili,.nilIface=>true
 | _,_=>false

def q88:List AV→List Value→Bool
 | [],[]=>true
 | x::xs,v::vs=>qjM x v && q88 xs vs
 | _,_=>false

def zeroCells (t:TypeId):Option (List AV):=
 match qlP P 12 t,(P.info? t).bind (·.zero) with
 | some cs,some v=>if q88 cs v.cells.toList && cs.length == q0g P t then some cs else none
 | _,_=>none

def q6F (agg:Bool) (cs:List AV):Option AV:=
 match agg with
 | true=>some (.agg cs)
 | false=>
  match cs with
  | [x]=>some x
  | _=>none

def q1W (t:TypeId):Option AV:=(zeroCells P t).bind (q6F (q0q P t))

def qiV (t:TypeId):Nat:=
 match P.underlying t with
 | some (.array _ e)=>q0g P e
 | _=>q0g P t

def q3j (g:TypeId→Option (List CK)):List Go.Field→Nat→Option (List CK)
 | [],_=>some []
 | f::fs,o=>
  if f.name = "_" ∨ f.offset ≠ o then none
  else
   match g f.type with
   | none=>none
   | some s=>
    match q3j g fs (o+s.length) with
    | none=>none
    | some r=>if s.length=q0g P f.type then some (s++r) else none

def q1w:Nat→TypeId→Option (List CK)
 | 0,_=>none
 | k+1,t=>
  match P.underlying t with
  | some .bool=>some [.bool]
  | some (.int _)=>some [.int]
  | some .string=>some [.str]
  | some (.struct fs)=>if P.stoodInHeld t then none else q3j P (q1w k) fs.toList 0
  | some (.array n e)=>
   match q1w k e with
   | some s=>if s.length=q0g P e then some (List.replicate n s).flatten else none
   | none=>none
  | _=>none

variable (fid:FuncId→Option Nat) (pf:Nat→Bool)

def qcu (t:TypeId):Value→Option AV
 | .int k n=>some (.int k n)
 | .bool b=>some (.bool b)
 | .string s=>some (.str s.data.toList)
 | .pointer none=>some .nilp
 | .slice none 0 0=>
  match P.underlying t with
  | some (.slice e)=>some (.snil (q0g P e))
  | _=>some (.snil 0)
 | .map none=>some .nilm
 | .nilFunc=>some .nilf
 | .nilIface=>some .nili
 | .agg vs=>
  match zeroCells P t with
  | some l=>if q88 l vs.toList=true then some (.agg l) else none
  | none=>none
 | _=>none

def qaI (t:TypeId):Operand→Option Opd
 | .tmp i=>some (.t i)
 | .const v=>(qcu P t v).map .c
 | .func f=>(fid f).map fun g=>.c (.fn g [])
 | .global _=>none

def q5A:List (TypeId × Operand)→Option (List Opd)
 | []=>some []
 | (t,x)::xs=>
  match qaI P fid t x,q5A xs with
  | some a,some as=>some (a::as)
  | _,_=>none

def q98 (t:TypeId):Option CK:=
 match P.underlying t with
 | some (.int _)=>some .int
 | some .string=>some .str
 | some .bool=>some .bool
 | _=>none

def q8h (t:TypeId):Option (List CK):=
 match P.underlying t with
 | some (.array n e)=>
  match q98 P e with
  | some c=>if q0g P e=1 then some (List.replicate n c) else none
  | none=>none
 | _=>none

def q7U (e:TypeId):Bool:=
 match (P.info? e).bind (·.zero) with
 | some (.agg _)=>q0q P e
 | some (.tuple _)=>false
 | some _=>!q0q P e
 | none=>false

def q0c (op:AOp) (l:List (TypeId × Operand)):Option (AOp × List Opd):=(q5A P fid l).map fun a=>(op,a)

def qpZ (t:TypeId) (neg:Bool):Option POp:=
 match P.underlying t with
 | some .bool=>some (.eqB neg)
 | some (.int _)=>some (.bin (if neg then .neq else .eql))
 | some .string=>some (.bin (if neg then .neq else .eql))
 | some (.struct _)=>if P.eqGuardType P.depth t then none else (q1w P 6 t).map fun s=>.eqF s neg
 | some (.array _ _)=>if P.eqGuardType P.depth t then none else (q1w P 6 t).map fun s=>.eqF s neg
 | some (.pointer _)=>some (.eqN 0 neg)
 | some (.map _ _)=>some (.eqN 1 neg)
 | some (.func _ _ _)=>some (.eqN 2 neg)
 | some (.interface _)=>some (.eqN 3 neg)
 | _=>none

def q45 (b:Builtin) (args:List (TypeId × Operand)):Option (AOp × List Opd):=
 match b,args with
 | .len,[(t,x)]=>
  match P.underlying t with
  | some .string=>q0c P fid (.pure .lenS) [(t,x)]
  | some (.slice _)=>q0c P fid (.pure .lenL) [(t,x)]
  | some (.map _ _)=>q0c P fid (.read .lenMap) [(t,x)]
  | some (.array n _)=>q0c P fid (.pure (.lenC n)) [(t,x)]
  | _=>none
 | .append,[(t,s),(u,x)]=>
  match P.underlying t,P.underlying u with
  | some (.slice e),some (.slice _)=>if q0g P e=0∨(q1W P e).isNone then none else q0c P fid (.eff (.append (q0g P e) (q2l P e))) [(t,s),(u,x)]
  | some (.slice e),some .string=>
   match P.underlying e with
   | some (.int .u8)=>if q0g P e=1∧q2l P e=1∧(q1W P e).isSome then q0c P fid (.eff .appendStr) [(t,s),(u,x)] else none
   | _=>none
  | _,_=>none
 | .copy,[(t,d),(u,x)]=>
  match P.underlying t,P.underlying u with
  | some (.slice e),some (.slice _)=>if q0g P e=0 then none else q0c P fid (.eff (.copy (q0g P e))) [(t,d),(u,x)]
  | _,_=>none
 | .delete,[(t,m),(u,k)]=>
  match P.underlying t with
  | some (.map kt _)=>none
  | _=>none
 | .clear,[(t,m)]=>
  match P.underlying t with
  | some (.slice e)=>
   match q1W P e with
   | some z=>if q0g P e=0 then none else q0c P fid (.eff (.clearS z)) [(t,m)]
   | none=>none
  | _=>none
 | .max,args=>q0c P fid (.pure (.minmax true)) args
 | .min,args=>q0c P fid (.pure (.minmax false)) args
 | _,_=>none

def q6A (t:TypeId) (f:Nat):Option Go.Field:=
 match P.underlying t with
 | some (.struct fs)=>(fs[f]?).bind fun fd=>if (P.underlying fd.type).isSome then some fd else none
 | _=>none

def q3T (o:Oper):Option (AOp × List Opd):=
 match o.op with
 | .move x=>q0c P fid (.pure .move) [(o.type,x)]
 | .assign x=>q0c P fid (.pure .move) [(o.type,x)]
 | .pick c a b=>q0c P fid (.pure .pick) [(o.type,c),(o.type,a),(o.type,b)]
 | .alloc t=>
  match zeroCells P t with
  | some cs=>
   if qiV P t=0 then none
   else
    match P.underlying t with
    | some (.array n _)=>if cs.length=n * qiV P t∧n≠0 then q0c P fid (.new (.new (qiV P t) (q71 (qiV P t) n cs))) [] else none
    | _=>
     match q1W P t with
     | some z=>q0c P fid (.new (.new (qiV P t) [z])) []
     | none=>none
  | none=>none
 | .box t x=>if qiV P t=0∨q0g P t=0 then none else q0c P fid (.new (.box (qiV P t))) [(t,x)]
 | .build t parts=>
  match zeroCells P t,P.underlying t with
  | some z,some (.struct fs)=>
   match q1v (fun (p:Nat × Operand)=>(fs[p.1]?).map fun f=>(f.offset,q0g P f.type)) parts.toList with
   | some pl=>if fs.toList.all (fun f=>(P.info? f.type).isSome)=false then none else q0c P fid (.pure (.build z pl)) (parts.toList.map fun p=>((((fs[p.1]?).map (·.type)).getD 0),p.2))
   | none=>none
  | some z,some (.array _ e)=>if (P.info? e).isNone then none else q0c P fid (.pure (.build z (parts.toList.map fun p=>(p.1 * q0g P e,q0g P e)))) (parts.toList.map fun p=>(e,p.2))
  | _,_=>none
 | .buildSlice t len parts=>
  match P.underlying t with
  | some (.slice e)=>
   match q1W P e with
   | some z=>if q0g P e=0∨len * q0g P e>2^24 then none else q0c P fid (.new (.buildSlice (q0g P e) (List.replicate len z) (parts.toList.map (·.1)))) (parts.toList.map fun p=>(e,p.2))
   | none=>none
  | _=>none
 | .load t a=>if (P.underlying t).isNone then none else q0c P fid (.read (.load (if q0q P t then some (q0g P t) else none))) [(t,a)]
 | .store t a x=>if (P.underlying t).isNone then none else q0c P fid (.eff (.store (q0g P t))) [(t,a),(t,x)]
 | .nilCheck x=>q0c P fid (.pure .chk) [(o.type,x)]
 | .binOp op t x y _=>
  match op with
  | .eql=>(qpZ P t false).bind fun p=>q0c P fid (.pure p) [(t,x),(t,y)]
  | .neq=>(qpZ P t true).bind fun p=>q0c P fid (.pure p) [(t,x),(t,y)]
  | op=>q0c P fid (.pure (.bin op)) [(t,x),(t,y)]
 | .unOp op t x=>q0c P fid (.pure (.un op)) [(t,x)]
 | .convert s d x=>
  match P.underlying s,P.underlying d with
  | some (.int _),some (.int k)=>q0c P fid (.pure (.conv k)) [(s,x)]
  | some .string,some .string=>q0c P fid (.pure .convStr) [(s,x)]
  | some (.int _),some .string=>q0c P fid (.pure .runeStr) [(s,x)]
  | some .string,some (.slice e)=>
   match P.underlying e with
   | some (.int .u8)=>none
   | _=>none
  | some (.slice e),some .string=>
   match P.underlying e with
   | some (.int .u8)=>if q0g P e=1 then q0c P fid (.read .bytesStr) [(s,x)] else none
   | _=>none
  | _,_=>none
 | .makeInterface t x=>
  match P.underlying t with
  | some (.interface _)=>none
  | none=>none
  | _=>q0c P fid (.pure (.mkifc t)) [(t,x)]
 | .makeFunc fn first captured=>
  match fn,first.toList with
  | .func f,[]=>
   match fid f with
   | some g=>q0c P fid (.pure (.mkfn g)) (captured.toList.map fun x=>(0,x))
   | none=>none
  | _,_=>none
 | .makeMap t r=>
  match P.underlying t with
  | some (.map _ _)=>q0c P fid (.new .mkMap) (r.toList.map fun x=>(t,x))
  | _=>none
 | .makeSlice t l c=>
  match P.underlying t with
  | some (.slice e)=>
   match q1W P e with
   | some z=>if q0g P e=0 then none else q0c P fid (.new (.mkSlice (q0g P e) (q2l P e) z)) [(t,l),(t,c)]
   | none=>none
  | _=>none
 | .slice t x lo hi mx=>
  match P.underlying t with
  | some .string=>if mx.isSome then none else q0c P fid (.pure (.sliceS lo.isSome hi.isSome)) ((t,x)::(lo.toList++hi.toList).map fun y=>(t,y))
  | some (.slice e)=>if q0g P e=0 then none else q0c P fid (.pure (.sliceL (q0g P e) lo.isSome hi.isSome mx.isSome)) ((t,x)::(lo.toList++hi.toList++mx.toList).map fun y=>(t,y))
  | some (.array n e)=>
   none
  | _=>none
 | .fieldAddr t x f=>
  match q6A P t f with
  | some fd=>if q0g P fd.type=0 then none else q0c P fid (.pure (.faddr fd.offset)) [(t,x)]
  | none=>none
 | .field t x f=>
  match q6A P t f with
  | some fd=>q0c P fid (.pure (.field fd.offset (q0g P fd.type) (q0q P fd.type))) [(t,x)]
  | none=>none
 | .indexAddr t x i=>
  match P.underlying t with
  | some (.slice e)=>if q0g P e=0 then none else q0c P fid (.pure (.iaddrS (q0g P e))) [(t,x),(t,i)]
  | some (.array n e)=>if q0g P e=0 then none else q0c P fid (.pure (.iaddrA n (q0g P e))) [(t,x),(t,i)]
  | _=>none
 | .index t x i=>
  match P.underlying t with
  | some .string=>q0c P fid (.pure .idxStr) [(t,x),(t,i)]
  | some (.array n e)=>if (P.underlying e).isSome then q0c P fid (.pure (.idxArr n (q0g P e) (q0q P e))) [(t,x),(t,i)] else none
  | _=>none
 | .lookup t m k ok=>
  match P.underlying t with
  | some (.map kt e)=>
   match q1W P e,q98 P kt with
   | some z,some c=>if q7U P e then q0c P fid (.read (.lookup (.one c) z ok)) [(t,m),(kt,k)] else none
   | some z,none=>
    match q8h P kt with
    | some sh=>if q7U P e then q0c P fid (.read (.lookupK sh z ok)) [(t,m),(kt,k)] else none
    | none=>none
   | _,_=>none
  | _=>none
 | .mapUpdate t m k x=>
  match P.underlying t with
  | some (.map kt e)=>
   match q98 P kt with
   | some c=>q0c P fid (.eff (.mapSet (.one c))) [(t,m),(kt,k),(e,x)]
   | none=>
    match q8h P kt with
    | some sh=>q0c P fid (.eff (.mapSetK sh)) [(t,m),(kt,k),(e,x)]
    | none=>none
  | _=>none
 | .insert t m k x=>
  match P.underlying t with
  | some (.map kt e)=>
   match q98 P kt with
   | some c=>q0c P fid (.eff (.mapSet (.one c))) [(t,m),(kt,k),(e,x)]
   | none=>
    match q8h P kt with
    | some sh=>q0c P fid (.eff (.mapSetK sh)) [(t,m),(kt,k),(e,x)]
    | none=>none
  | _=>none
 | .extract x i=>q0c P fid (.pure (.ext i)) [(o.type,x)]
 | .call c=>
  match c.callee with
  | .value (.func f)=>
   match fid f,P.funcs[f]? with
   | some g,some fn => if fn.body.isSome && fn.name != "runtime.NumGoroutine" && fn.params.size == c.args.size then q0c P fid (if pf g then .pcall g else .call g) (fn.params.toList.zip c.args.toList) else none
   | _,_=>none
  | .value x=>q0c P fid .callv ((0,x)::c.args.toList.map fun y=>(0,y))
  | .builtin b=>if c.argTypes.size=c.args.size then q45 P fid b (c.argTypes.toList.zip c.args.toList) else none
  | _=>none
 | _=>none

def q1T (ops:Array Oper) (o:Oper):Option AOper:=
 match o.guard with
 | none=>some { dst:=o.dst,op:=((q3T P fid pf o).map (·.1)).getD .bad,args:=((q3T P fid pf o).map (·.2)).getD [],guard:=none }
 | some (j,b)=>
  match (ops[j]?).bind (·.dst) with
  | some t=>some { dst:=o.dst,op:=((q3T P fid pf o).map (·.1)).getD .bad,args:=((q3T P fid pf o).map (·.2)).getD [],guard:=some (t,b) }
  | none=>none


def AOper.looks (o:AOper):List Nat:=
 (o.args.filterMap fun | .t i=>some i | .c _=>none)++(match o.guard with | some (t,_)=>[t] | none=>[])

def AOper.cls (o:AOper):Nat:=
 match o.op with
 | .pure _=>0
 | .read _=>1
 | .pcall _=>1
 | .newAt _ _=>3
 | _=>2

def AOper.indep (x y:AOper):Bool:=
 (match x.dst with
 | some d=>!y.looks.contains d && y.dst != some d
 | none=>true) &&
 (match y.dst with
 | some d=>!x.looks.contains d
 | none=>true) &&
 (x.cls == 0 || y.cls == 0 || (x.cls != 2 && y.cls != 2))

def q5k (ops:Array Oper) (i:Nat):List Nat:=
 match ops[i]? with
 | some o=>(o.after.toList.filter fun e=>Go.Region.binds .any e).map (·.on)
 | none=>[]

def AV.bare1:AV→Bool
 | .int .. => true
 | .bool _=>true
 | .str _=>true
 | .nilp=>true
 | .nilf=>true
 | .nili=>true
 | .nilm=>true
 | .snil _=>true
 | _=>false

def AV.bare:AV→Bool
 | .agg cs=>cs.all AV.bare1
 | .int .. => true
 | .bool _=>true
 | .str _=>true
 | .nilp=>true
 | .nilf=>true
 | .nili=>true
 | .nilm=>true
 | .snil _=>true
 | .fn _ []=>true
 | _=>false

def AOper.bare (o:AOper):Bool:=o.args.all fun
 | .t _=>true
 | .c v=>v.bare

def qng:List Nat→List Nat
 | []=>[]
 | x::xs=>if xs.contains x then qng xs else x::qng xs

def qlC (ops:Array Oper):List (List Nat):=
 (List.range ops.size).foldl (fun acc i=>acc++[qng ((q5k ops i).flatMap fun j=>j::acc.getD j [])]) []

def q3s (n:Nat) (aft:Nat→List Nat) (wait:Nat→Nat→Bool) (ind:Nat→Nat→Bool):Nat→List Nat→List (List Nat)
 | 0,done=>[done]
 | k+1,done=>
  let rem:=(List.range n).filter fun i=>!done.contains i
  if rem.isEmpty then [done]
  else
   let ready:=rem.filter fun i=>(aft i).all fun j=>done.contains j
   match ready.find? fun i=>rem.all fun j=>j == i || wait j i || ind i j with
   | some i=>q3s n aft wait ind k (done++[i])
   | none=>ready.flatMap fun i=>q3s n aft wait ind k (done++[i])

def q8R:Nat→List AOper→Nat × List AOper
 | k,[]=>(k,[])
 | k,o::l=>
  match o.op with
  | .new p=>((q8R (k+1) l).1,{ o with op:=.newAt k p }::(q8R (k+1) l).2)
  | _=>((q8R k l).1,o::(q8R k l).2)

def q7a (ops:Array Oper) (l:List AOper):Option (List (List AOper)):=
 if ((List.range ops.size).all (fun i=>(q5k ops i).all fun j=>decide (j<i)) && l.all AOper.bare)=true then
  let tab:=qlC ops
  let ord:=q3s ops.size (q5k ops) (fun j i=>(tab.getD j []).contains i) (fun i j=>(l.getD i default).indep (l.getD j default)) ops.size []
  q1v (fun σ=>q1v (fun i=>l[i]?) σ) ord
 else none

def comp:Code→Option ACode
 | .skip=>some .skip
 | .region _ ops draw=>
  match q1v (q1T P fid pf ops) ops.toList with
  | some l=>
   if draw then
    match (q8R 0 l).1,(if (P.follows .mixedOrders || !Go.Region.departs ops)=true then q7a ops (q8R 0 l).2 else none) with
    | 0,some [l']=>some (.ops l')
    | k,some ls=>some (.draw k ls)
    | _,none=>none
   else some (.ops l)
  | none=>none
 | .seq a b=>
  match comp a,comp b with
  | some x,some y=>some (.seq x y)
  | _,_=>none
 | .cond c a b=>
  match qaI P fid 0 c,comp a,comp b with
  | some x,some y,some z=>some (.cond x y z)
  | _,_,_=>none
 | .block id b=>(comp b).map (.block id)
 | .scope b=>(comp b).map .scope
 | .label _=>some .skip
 | .loop b=>(comp b).map (.loop [])
 | .exit id=>some (.exit id)
 | .ret=>some .ret
 | _=>none

def q4r (r:Go.ResultVar):ResV:=
 match r with
 | .tmp i=>.tmp i
 | .cell i t=>.cell i (if q0q P t then some (q0g P t) else none)

def qg9 (r:Go.ResultVar):Bool:=
 match r with
 | .tmp _=>true
 | .cell _ t=>(P.underlying t).isSome

def qcc (fn:Go.Func):Option AFn:=
 match fn.body with
 | some c=>if fn.results.toList.all (qg9 P) then (comp P fid pf c).map fun b=>{ nt:=fn.ntmps,res:=fn.results.toList.map (q4r P),body:=b } else none
 | none=>none
end

def ACode.strip:ACode→ACode
 | .seq a b=>.seq a.strip b.strip
 | .cond x a b=>.cond x a.strip b.strip
 | .block id b=>.block id b.strip
 | .scope b=>.scope b.strip
 | .loop _ b=>.loop [] b.strip
 | c=>c

end Ago
