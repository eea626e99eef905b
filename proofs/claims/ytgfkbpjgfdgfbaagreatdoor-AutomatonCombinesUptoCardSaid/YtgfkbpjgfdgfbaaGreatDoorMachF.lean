/- The abstract machine as a program for the kernel: what is worked out is worked out at once; functions whose results are known by a proof are taken as they are. -/
import Derived.Test.YtgfkbpjgfdgfbaaGreatDoorMachI
set_option linter.unusedSimpArgs false
set_option linter.unusedVariables false
namespace Ago

/-! ### To work out -/
def natK {β:Type} (n:Nat) (k:Nat→β):β:=
  match n with
  | 0=>k 0
  | m+1=>k (m+1)
theorem natK_eq {β:Type} (n:Nat) (k:Nat→β):natK n k=k n:=by cases n<;>rfl
def intK {β:Type} (i:Int) (k:Int→β):β:=
  match i with
  | .ofNat m=>natK m fun m=>k (.ofNat m)
  | .negSucc m=>natK m fun m=>k (.negSucc m)
theorem intK_eq {β:Type} (i:Int) (k:Int→β):intK i k=k i:=by cases i<;>simp [intK, natK_eq]
def boolK {β:Type} (b:Bool) (k:Bool→β):β:=
  match b with
  | true=>k true
  | false=>k false
theorem boolK_eq {β:Type} (b:Bool) (k:Bool→β):boolK b k=k b:=by cases b<;>rfl
def strK {β:Type}:List UInt8→(List UInt8→β)→β
  | [], k=>k []
  | c::s, k=>natK c.toNat fun n=>strK s fun s=>k (UInt8.ofNat n::s)
theorem strK_eq {β:Type} : ∀ (s:List UInt8) (k:List UInt8→β), strK s k=k s
  | [], k=>rfl
  | c::s, k=>by rw[strK, natK_eq, strK_eq s, UInt8.ofNat_toNat]
def listK {α β:Type} (f:α→(α→β)→β):List α→(List α→β)→β
  | [], k=>k []
  | x::l, k=>f x fun x=>listK f l fun l=>k (x::l)
theorem listK_eq {α β:Type} {f:α→(α→β)→β} (hf : ∀ x k, f x k=k x) : ∀ (l:List α) (k:List α→β), listK f l k=k l
  | [], k=>rfl
  | x::l, k=>by rw[listK, hf, listK_eq hf l]
def avK {β:Type}:Nat→AV→(AV→β)→β
  | 0, x, k=>k x
  | n+1, x, k=>
    match x with
    | .dead=>k .dead
    | .int t i=>intK i fun i=>k (.int t i)
    | .bool b=>boolK b fun b=>k (.bool b)
    | .str s=>strK s fun s=>k (.str s)
    | .nilp=>k .nilp
    | .nilf=>k .nilf
    | .nili=>k .nili
    | .nilm=>k .nilm
    | .snil a=>natK a fun a=>k (.snil a)
    | .tsl a l=>listK (avK n) l fun l=>k (.tsl a l)
    | .sref a b c d=>natK b fun b=>natK c fun c=>natK d fun d=>k (.sref a b c d)
    | .ptr a b c d=>natK b fun b=>natK c fun c=>natK d fun d=>k (.ptr a b c d)
    | .tptr l a=>listK (avK n) l fun l=>natK a fun a=>k (.tptr l a)
    | .mref a=>natK a fun a=>k (.mref a)
    | .iref a=>natK a fun a=>k (.iref a)
    | .agg l=>listK (avK n) l fun l=>k (.agg l)
    | .tup l=>listK (avK n) l fun l=>k (.tup l)
    | .fn a l=>listK (avK n) l fun l=>k (.fn a l)
    | .ifc a u=>avK n u fun u=>k (.ifc a u)
theorem avK_eq {β:Type} : ∀ (n:Nat) (x:AV) (k:AV→β), avK n x k=k x
  | 0, _, _=>rfl
  | n+1, x, k=>by
    have ih:=avK_eq (β:=β) n
    cases x<;>simp [avK, intK_eq, boolK_eq, strK_eq, natK_eq, listK_eq ih, ih]
def blkK {β:Type} (d:Nat) (b:Blk) (k:Blk→β):β:=
  match b with
  | .gone=>k .gone
  | .resv=>k .resv
  | .row n els ro fl fam=>boolK ro fun ro=>boolK fl fun fl=>natK fam fun fam=>listK (avK d) els fun els=>k (.row n els ro fl fam)
  | .map es=>listK (fun x k=>avK d x.1 fun a=>avK d x.2 fun b=>k (a, b)) es fun es=>k (.map es)
  | .iter s p=>k (.iter s p)
theorem blkK_eq {β:Type} (d:Nat) (b:Blk) (k:Blk→β):blkK d b k=k b:=by
  cases b<;>simp [blkK, boolK_eq, natK_eq, listK_eq (avK_eq d)]
  rw[listK_eq fun x k=>by rw[avK_eq, avK_eq]]
def heapK {β:Type} (d:Nat):Heap→(Heap→β)→β:=listK (blkK d)
theorem heapK_eq {β:Type} (d:Nat) (H:Heap) (k:Heap→β):heapK d H k=k H:=listK_eq (blkK_eq d) H k
/-! ### The program -/
section
variable (R:Nat→List AV→Heap→Option (AV × Heap)) (PR:Nat→List AV→Option AV)
end
section
variable (code:Nat→Option AFn) (clR clP:Nat→Option (Nat × Nat)) (orP:Nat→List AV→Option AV)
end
end Ago
