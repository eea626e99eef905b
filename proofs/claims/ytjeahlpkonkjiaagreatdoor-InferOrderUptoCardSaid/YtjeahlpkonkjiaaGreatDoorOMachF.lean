/- The abstract machine as a program for the kernel: what is worked out is worked out at once; functions whose results are known by a proof are taken as they are. -/
import Derived.Test.YtjeahlpkonkjiaaGreatDoorOMachI
set_option linter.unusedSimpArgs false
set_option linter.unusedVariables false
namespace Ago

def qf0 {β:Type} (n:Nat) (k:Nat→β):β:=
 match n with
 | 0=>k 0
 | m+1=>k (m+1)
def qyg {β:Type} (i:Int) (k:Int→β):β:=
 match i with
 | .ofNat m=>qf0 m fun m=>k (.ofNat m)
 | .negSucc m=>qf0 m fun m=>k (.negSucc m)
def qr2 {β:Type} (b:Bool) (k:Bool→β):β:=
 match b with
 | true=>k true
 | false=>k false
def qxW {β:Type}:List UInt8→(List UInt8→β)→β
 | [],k=>k []
 | c::s,k=>qf0 c.toNat fun n=>qxW s fun s=>k (UInt8.ofNat n::s)
def qbc {α β:Type} (f:α→(α→β)→β):List α→(List α→β)→β
 | [],k=>k []
 | x::l,k=>f x fun x=>qbc f l fun l=>k (x::l)
def avK {β:Type}:Nat→AV→(AV→β)→β
 | 0,x,k=>k x
 | n+1,x,k=>
  match x with
  | .dead=>k .dead
  | .int t i=>qyg i fun i=>k (.int t i)
  | .bool b=>qr2 b fun b=>k (.bool b)
  | .str s=>qxW s fun s=>k (.str s)
  | .nilp=>k .nilp
  | .nilf=>k .nilf
  | .nili=>k .nili
  | .nilm=>k .nilm
  | .snil a=>qf0 a fun a=>k (.snil a)
  | .tsl a l=>qbc (avK n) l fun l=>k (.tsl a l)
  | .sref a b c d=>qf0 b fun b=>qf0 c fun c=>qf0 d fun d=>k (.sref a b c d)
  | .ptr a b c d=>qf0 b fun b=>qf0 c fun c=>qf0 d fun d=>k (.ptr a b c d)
  | .tptr l a=>qbc (avK n) l fun l=>qf0 a fun a=>k (.tptr l a)
  | .mref a=>qf0 a fun a=>k (.mref a)
  | .iref a=>qf0 a fun a=>k (.iref a)
  | .agg l=>qbc (avK n) l fun l=>k (.agg l)
  | .tup l=>qbc (avK n) l fun l=>k (.tup l)
  | .fn a l=>qbc (avK n) l fun l=>k (.fn a l)
  | .ifc a u=>avK n u fun u=>k (.ifc a u)
def qy9 {β:Type} (d:Nat) (b:Blk) (k:Blk→β):β:=
 match b with
 | .gone=>k .gone
 | .resv=>k .resv
 | .row n els ro fl fam=>qr2 ro fun ro=>qr2 fl fun fl=>qf0 fam fun fam=>qbc (avK d) els fun els=>k (.row n els ro fl fam)
 | .map es=>qbc (fun x k=>avK d x.1 fun a=>avK d x.2 fun b=>k (a,b)) es fun es=>k (.map es)
 | .iter s p=>k (.iter s p)
def qxc {β:Type} (d:Nat):Heap→(Heap→β)→β:=qbc (qy9 d)
section
variable (R:Nat→List AV→Heap→Option (AV × Heap)) (PR:Nat→List AV→Option AV)
end
section
variable (code:Nat→Option AFn) (clR clP:Nat→Option (Nat × Nat)) (orP:Nat→List AV→Option AV)
end
end Ago
