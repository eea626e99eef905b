/- The names that a schema refers to,gathered in a slice that grows. -/
import Derived.Test.YtjeahlpkonkjiaaGreatDoorORunG
import Derived.Test.YtjeahlpkonkjiaaGreatDoorORunX
set_option linter.unusedSimpArgs false
set_option linter.unusedVariables false
set_option maxRecDepth 100000
set_option maxHeartbeats 4000000
namespace Ago
open Go (IntKind)
def Fb (H:Heap):Prop:=∀ (j n:Nat) (els:List AV) (ro fl:Bool) (f:Nat),H[j]?=some (Blk.row n els ro fl f)→f<H.length
inductive Hold (H:Heap):AV→List AV→Nat→Prop
 | nil:Hold H (AV.snil 1) [] H.length
 | row {r fam:Nat} {els:List AV}:els≠[]→H[r]?=some (Blk.row 1 els false true fam)→fam<H.length→(∀ j n e ro fl,H[j]?=some (Blk.row n e ro fl fam)→j=r∨e.length≤els.length)→Hold H (AV.sref 1 r 0 els.length) els fam
theorem Hold.two {H:Heap} {l:AV} {els:List AV} {fam:Nat} (h:Hold H l els fam):(l = .snil 1∧els=[]∧fam=H.length)∨∃ r,l = .sref 1 r 0 els.length∧H[r]?=some (Blk.row 1 els false true fam)∧fam<H.length∧r<H.length∧(∀ j n e ro fl,H[j]?=some (Blk.row n e ro fl fam)→j=r∨e.length≤els.length):=by
 cases h with
 | nil=>exact .inl ⟨rfl,rfl,rfl⟩
 | row h1 h2 h3 h4=>exact .inr ⟨_,rfl,h2,h3,(Ky.1 h2).1,h4⟩
def quh (H:Heap) (l:AV) (els m:List AV):AV:=if m=[] then l else .sref 1 H.length 0 (els++m).length
def qkA (H:Heap) (els m:List AV) (fam:Nat):Heap:=if m=[] then H else H++[.row 1 (els++m) false true fam]
theorem qwa {H:Heap} {j:Nat} {b c:Blk} (h:(H++[b])[j]?=some c):H[j]?=some c∨(j=H.length∧b=c):=by
 rcases Vx j H.length with hj | hj
 ·rw[K4 hj] at h
  exact .inl h
 ·rw[VB hj] at h
  have:j-H.length=0:=by
   have:=(Ky.1 h).1
   simp at this
   omega
  rw[this] at h
  simp at h
  exact .inr ⟨by omega,h⟩
theorem Hold.fam_le {H:Heap} {l:AV} {els:List AV} {fam:Nat} (h:Hold H l els fam):fam≤H.length:=by
 cases h with
 | nil=>exact Ko _
 | row _ _ h _=>omega
theorem Hold.next {H:Heap} {l:AV} {els:List AV} {fam:Nat} (h:Hold H l els fam) (hf:Fb H) (m:List AV):Hold (qkA H els m fam) (quh H l els m) (els++m) (if m=[] then fam else fam)∧Fb (qkA H els m fam):=by
 have hle:=h.fam_le
 unfold qkA quh
 by_cases hm:m=[]
 ·subst hm
  simp only[if_true,KY]
  exact ⟨h,hf⟩
 ·rw[if_neg hm,if_neg hm,if_neg hm]
  refine ⟨.row (by simp [hm]) (by simp) (by simp; omega) fun j n e ro fl hj=>?_,fun j n e ro fl f hj=>?_⟩
  ·rcases qwa hj with hj2 | ⟨rfl,hj2⟩
   ·cases h with
    | nil=>
     have:=hf _ _ _ _ _ _ hj2
     omega
    | row h1 h2 h3 h4=>
     rcases h4 j n e ro fl hj2 with rfl | h5
     ·rw[h2] at hj2
      cases hj2
      simp
     ·right
      simp
      omega
   ·exact .inl rfl
  ·rcases qwa hj with hj | ⟨_,hj⟩
   ·have:=hf _ _ _ _ _ _ hj
    simp
    omega
   ·cases hj
    simp
    omega
theorem Cl.next {H:Heap} {l:AV} {els:List AV} {fam:Nat} (hC:Cl H) (h:Hold H l els fam) (m:List AV):Cl (qkA H els m fam):=by
 unfold qkA
 split
 ·exact hC
 ·exact hC.push _ _ _ _ h.fam_le
structure OneRef (S:AV→List AV):Prop where
 ren : ∀ f a,(S a).map (AV.renN f 6)=S (AV.renN f 6 a)
 refs : ∀ a,(S a).flatMap (AV.refsN 6)=AV.refsN 6 a
theorem Hold.low {H:Heap} {l:AV} {els:List AV} {fam:Nat} (h:Hold H l els fam):(∀ r,r∈AV.refsN 6 l→r<H.length)∧∀ f:Nat→Option Nat,(∀ r,r<H.length→f r=some r)→AV.renN f 6 l=l:=by
 cases h with
 | nil=>exact ⟨fun r hr=>by simp [AV.refsN] at hr,fun f _=>rfl⟩
 | row h1 h2 h3 h4=>
  have:=(Ky.1 h2).1
  refine ⟨fun r hr=>?_,fun f hf=>?_⟩
  ·simp only[AV.refsN,KR] at hr
   omega
  ·simp only[AV.renN]
   rw[hf _ this]
theorem Fb.push {H:Heap} (h:Fb H) {n:Nat} {els:List AV} {ro fl:Bool} {f:Nat} (hf:f≤H.length):Fb (H++[.row n els ro fl f]):=fun j n' e ro' fl' f' hj=>by
 rcases qwa hj with hj2 | ⟨_,hj2⟩
 ·have:=h _ _ _ _ _ _ hj2
  simp
  omega
 ·cases hj2
  simp
  omega
theorem Hold.box {H:Heap} {l:AV} {els:List AV} {fam:Nat} (h:Hold H l els fam) (n:Nat) (e:List AV) (ro fl:Bool) : ∃ fam2,Hold (H++[.row n e ro fl H.length]) l els fam2∧(fam2=fam∨(els=[]∧H.length≤fam2)):=by
 cases h with
 | nil=>exact ⟨_,.nil,.inr ⟨rfl,by simp⟩⟩
 | row h1 h2 h3 h4=>
  have hr:=(Ky.1 h2).1
  refine ⟨fam,.row h1 (by rw[K4 hr]; exact h2) (by simp; omega) (fun j n' e' ro' fl' hj=>?_),.inl rfl⟩
  rcases qwa hj with hj2 | ⟨_,hj2⟩
  ·exact h4 _ _ _ _ _ hj2
  ·cases hj2
   omega
end Ago
set_option maxRecDepth 100000
set_option maxHeartbeats 4000000
namespace Ago
open Go (IntKind)
open Go.Op (bytesLess)
end Ago
set_option maxRecDepth 100000
set_option maxHeartbeats 4000000
namespace Ago
open Go (IntKind)
open Go.Op (bytesLess)
end Ago
set_option maxRecDepth 100000
set_option maxHeartbeats 4000000
namespace Ago
open Go (IntKind)
def qwF (p:List UInt8):List (List UInt8)→List (List UInt8)
 | []=>[]
 | y::l=>if y=p then qwF p l else y::qwF y l
def dd:List (List UInt8)→List (List UInt8)
 | []=>[]
 | p::l=>p::qwF p l
def R1 (ss:List (List UInt8)):Blk:=.row 1 (ss.map .str) false true 1
end Ago
set_option maxRecDepth 100000
set_option maxHeartbeats 4000000
namespace Ago
open Go (IntKind)
open Go.Op (bytesLess)
end Ago
