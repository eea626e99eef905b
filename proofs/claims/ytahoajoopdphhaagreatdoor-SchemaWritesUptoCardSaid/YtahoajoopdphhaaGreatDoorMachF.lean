/- The abstract machine as a program for the kernel: what is worked out is worked out at once; functions whose results are known by a proof are taken as they are. -/
import Derived.Test.YtahoajoopdphhaaGreatDoorMachI
set_option linter.unusedSimpArgs false
set_option linter.unusedVariables false
namespace Ago

def q5b {β:Type} (n:Nat) (k:Nat→β):β:=
 match n with
 | 0=>k 0
 | m+1=>k (m+1)
theorem q41 {β:Type} (n:Nat) (k:Nat→β):q5b n k=k n:=by cases n<;>rfl
def quA {β:Type} (i:Int) (k:Int→β):β:=
 match i with
 | .ofNat m=>q5b m fun m=>k (.ofNat m)
 | .negSucc m=>q5b m fun m=>k (.negSucc m)
theorem qky {β:Type} (i:Int) (k:Int→β):quA i k=k i:=by cases i<;>simp [quA,q41]
def qdI {β:Type} (b:Bool) (k:Bool→β):β:=
 match b with
 | true=>k true
 | false=>k false
theorem q7V {β:Type} (b:Bool) (k:Bool→β):qdI b k=k b:=by cases b<;>rfl
def qvs {β:Type}:List UInt8→(List UInt8→β)→β
 | [],k=>k []
 | c::s,k=>q5b c.toNat fun n=>qvs s fun s=>k (UInt8.ofNat n::s)
theorem qlq {β:Type} : ∀ (s:List UInt8) (k:List UInt8→β),qvs s k=k s
 | [],k=>rfl
 | c::s,k=>by rw[qvs,q41,qlq s,UInt8.ofNat_toNat]
def q4L {α β:Type} (f:α→(α→β)→β):List α→(List α→β)→β
 | [],k=>k []
 | x::l,k=>f x fun x=>q4L f l fun l=>k (x::l)
theorem q2w {α β:Type} {f:α→(α→β)→β} (hf : ∀ x k,f x k=k x) : ∀ (l:List α) (k:List α→β),q4L f l k=k l
 | [],k=>rfl
 | x::l,k=>by rw[q4L,hf,q2w hf l]
def avK {β:Type}:Nat→AV→(AV→β)→β
 | 0,x,k=>k x
 | n+1,x,k=>
  match x with
  | .dead=>k .dead
  | .int t i=>quA i fun i=>k (.int t i)
  | .bool b=>qdI b fun b=>k (.bool b)
  | .str s=>qvs s fun s=>k (.str s)
  | .nilp=>k .nilp
  | .nilf=>k .nilf
  | .nili=>k .nili
  | .nilm=>k .nilm
  | .snil a=>q5b a fun a=>k (.snil a)
  | .tsl a l=>q4L (avK n) l fun l=>k (.tsl a l)
  | .sref a b c d=>q5b b fun b=>q5b c fun c=>q5b d fun d=>k (.sref a b c d)
  | .ptr a b c d=>q5b b fun b=>q5b c fun c=>q5b d fun d=>k (.ptr a b c d)
  | .tptr l a=>q4L (avK n) l fun l=>q5b a fun a=>k (.tptr l a)
  | .mref a=>q5b a fun a=>k (.mref a)
  | .iref a=>q5b a fun a=>k (.iref a)
  | .agg l=>q4L (avK n) l fun l=>k (.agg l)
  | .tup l=>q4L (avK n) l fun l=>k (.tup l)
  | .fn a l=>q4L (avK n) l fun l=>k (.fn a l)
  | .ifc a u=>avK n u fun u=>k (.ifc a u)
theorem q7G {β:Type} : ∀ (n:Nat) (x:AV) (k:AV→β),avK n x k=k x
 | 0,_,_=>rfl
 | n+1,x,k=>by
  have ih:=q7G (β:=β) n
  cases x<;>simp [avK,qky,q7V,qlq,q41,q2w ih,ih]
def qvL {β:Type} (d:Nat) (b:Blk) (k:Blk→β):β:=
 match b with
 | .gone=>k .gone
 | .resv=>k .resv
 | .row n els ro fl fam=>qdI ro fun ro=>qdI fl fun fl=>q5b fam fun fam=>q4L (avK d) els fun els=>k (.row n els ro fl fam)
 | .map es=>q4L (fun x k=>avK d x.1 fun a=>avK d x.2 fun b=>k (a,b)) es fun es=>k (.map es)
 | .iter s p=>k (.iter s p)
theorem qp8 {β:Type} (d:Nat) (b:Blk) (k:Blk→β):qvL d b k=k b:=by
 cases b<;>simp [qvL,q7V,q41,q2w (q7G d)]
 rw[q2w fun x k=>by rw[q7G,q7G]]
def qtX {β:Type} (d:Nat):Heap→(Heap→β)→β:=q4L (qvL d)
theorem qo0 {β:Type} (d:Nat) (H:Heap) (k:Heap→β):qtX d H k=k H:=q2w (qp8 d) H k
section
variable (R:Nat→List AV→Heap→Option (AV × Heap)) (PR:Nat→List AV→Option AV)
end
section
variable (code:Nat→Option AFn) (clR clP:Nat→Option (Nat × Nat)) (orP:Nat→List AV→Option AV)
end
end Ago
