/- The abstract machine as a program for the kernel: what is worked out is worked out at once; functions whose results are known by a proof are taken as they are. -/
import Derived.Test.YtjeahlpkonkjiaaGreatDoorMachI
set_option linter.unusedSimpArgs false
set_option linter.unusedVariables false
namespace Ago

def qgN {β:Type} (n:Nat) (k:Nat→β):β:=
 match n with
 | 0=>k 0
 | m+1=>k (m+1)
def qyZ {β:Type} (i:Int) (k:Int→β):β:=
 match i with
 | .ofNat m=>qgN m fun m=>k (.ofNat m)
 | .negSucc m=>qgN m fun m=>k (.negSucc m)
def qsQ {β:Type} (b:Bool) (k:Bool→β):β:=
 match b with
 | true=>k true
 | false=>k false
def qyO {β:Type}:List UInt8→(List UInt8→β)→β
 | [],k=>k []
 | c::s,k=>qgN c.toNat fun n=>qyO s fun s=>k (UInt8.ofNat n::s)
def qc8 {α β:Type} (f:α→(α→β)→β):List α→(List α→β)→β
 | [],k=>k []
 | x::l,k=>f x fun x=>qc8 f l fun l=>k (x::l)
def avK {β:Type}:Nat→AV→(AV→β)→β
 | 0,x,k=>k x
 | n+1,x,k=>
  match x with
  | .dead=>k .dead
  | .int t i=>qyZ i fun i=>k (.int t i)
  | .bool b=>qsQ b fun b=>k (.bool b)
  | .str s=>qyO s fun s=>k (.str s)
  | .nilp=>k .nilp
  | .nilf=>k .nilf
  | .nili=>k .nili
  | .nilm=>k .nilm
  | .snil a=>qgN a fun a=>k (.snil a)
  | .tsl a l=>qc8 (avK n) l fun l=>k (.tsl a l)
  | .sref a b c d=>qgN b fun b=>qgN c fun c=>qgN d fun d=>k (.sref a b c d)
  | .ptr a b c d=>qgN b fun b=>qgN c fun c=>qgN d fun d=>k (.ptr a b c d)
  | .tptr l a=>qc8 (avK n) l fun l=>qgN a fun a=>k (.tptr l a)
  | .mref a=>qgN a fun a=>k (.mref a)
  | .iref a=>qgN a fun a=>k (.iref a)
  | .agg l=>qc8 (avK n) l fun l=>k (.agg l)
  | .tup l=>qc8 (avK n) l fun l=>k (.tup l)
  | .fn a l=>qc8 (avK n) l fun l=>k (.fn a l)
  | .ifc a u=>avK n u fun u=>k (.ifc a u)
def qz0 {β:Type} (d:Nat) (b:Blk) (k:Blk→β):β:=
 match b with
 | .gone=>k .gone
 | .resv=>k .resv
 | .row n els ro fl fam=>qsQ ro fun ro=>qsQ fl fun fl=>qgN fam fun fam=>qc8 (avK d) els fun els=>k (.row n els ro fl fam)
 | .map es=>qc8 (fun x k=>avK d x.1 fun a=>avK d x.2 fun b=>k (a,b)) es fun es=>k (.map es)
 | .iter s p=>k (.iter s p)
def qxB {β:Type} (d:Nat):Heap→(Heap→β)→β:=qc8 (qz0 d)
section
variable (R:Nat→List AV→Heap→Option (AV × Heap)) (PR:Nat→List AV→Option AV)
end
section
variable (code:Nat→Option AFn) (clR clP:Nat→Option (Nat × Nat)) (orP:Nat→List AV→Option AV)
end
end Ago
