/- The abstract machine as a program for the kernel: what is worked out is worked out at once; functions whose results are known by a proof are taken as they are. -/
import Derived.Test.YtkibapblgbdhmaaGreatDoorMachI
set_option linter.unusedSimpArgs false
set_option linter.unusedVariables false
namespace Ago

def qdx {β:Type} (n:Nat) (k:Nat→β):β:=
 match n with
 | 0=>k 0
 | m+1=>k (m+1)
def qrE {β:Type} (i:Int) (k:Int→β):β:=
 match i with
 | .ofNat m=>qdx m fun m=>k (.ofNat m)
 | .negSucc m=>qdx m fun m=>k (.negSucc m)
def qmJ {β:Type} (b:Bool) (k:Bool→β):β:=
 match b with
 | true=>k true
 | false=>k false
def qru {β:Type}:List UInt8→(List UInt8→β)→β
 | [],k=>k []
 | c::s,k=>qdx c.toNat fun n=>qru s fun s=>k (UInt8.ofNat n::s)
def qae {α β:Type} (f:α→(α→β)→β):List α→(List α→β)→β
 | [],k=>k []
 | x::l,k=>f x fun x=>qae f l fun l=>k (x::l)
def avK {β:Type}:Nat→AV→(AV→β)→β
 | 0,x,k=>k x
 | n+1,x,k=>
  match x with
  | .dead=>k .dead
  | .int t i=>qrE i fun i=>k (.int t i)
  | .bool b=>qmJ b fun b=>k (.bool b)
  | .str s=>qru s fun s=>k (.str s)
  | .nilp=>k .nilp
  | .nilf=>k .nilf
  | .nili=>k .nili
  | .nilm=>k .nilm
  | .snil a=>qdx a fun a=>k (.snil a)
  | .tsl a l=>qae (avK n) l fun l=>k (.tsl a l)
  | .sref a b c d=>qdx b fun b=>qdx c fun c=>qdx d fun d=>k (.sref a b c d)
  | .ptr a b c d=>qdx b fun b=>qdx c fun c=>qdx d fun d=>k (.ptr a b c d)
  | .tptr l a=>qae (avK n) l fun l=>qdx a fun a=>k (.tptr l a)
  | .mref a=>qdx a fun a=>k (.mref a)
  | .iref a=>qdx a fun a=>k (.iref a)
  | .agg l=>qae (avK n) l fun l=>k (.agg l)
  | .tup l=>qae (avK n) l fun l=>k (.tup l)
  | .fn a l=>qae (avK n) l fun l=>k (.fn a l)
  | .ifc a u=>avK n u fun u=>k (.ifc a u)
def qrV {β:Type} (d:Nat) (b:Blk) (k:Blk→β):β:=
 match b with
 | .gone=>k .gone
 | .resv=>k .resv
 | .row n els ro fl fam=>qmJ ro fun ro=>qmJ fl fun fl=>qdx fam fun fam=>qae (avK d) els fun els=>k (.row n els ro fl fam)
 | .map es=>qae (fun x k=>avK d x.1 fun a=>avK d x.2 fun b=>k (a,b)) es fun es=>k (.map es)
 | .iter s p=>k (.iter s p)
def qqZ {β:Type} (d:Nat):Heap→(Heap→β)→β:=qae (qrV d)
section
variable (R:Nat→List AV→Heap→Option (AV × Heap)) (PR:Nat→List AV→Option AV)
end
section
variable (code:Nat→Option AFn) (clR clP:Nat→Option (Nat × Nat)) (orP:Nat→List AV→Option AV)
end
end Ago
