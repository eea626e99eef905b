/- The law ValidateDispatches. -/
import Derived.Test.YtahoajoopdphhaaGreatDoorRunG
import Derived.Test.YtahoajoopdphhaaGreatDoorRunX
set_option linter.unusedSimpArgs false
set_option linter.unusedVariables false
set_option maxRecDepth 100000
set_option maxHeartbeats 4000000
namespace Ago
open Go (IntKind)
def qoA (m n:Int):Bool:=IntKind.i64.wrap ((BitVec.ofInt 64 (m.fdiv (2^min n.toNat 64)) &&& BitVec.ofInt 64 1).toNat:Int) == 1
end Ago
set_option maxRecDepth 100000
set_option maxHeartbeats 4000000
namespace Ago
open Go (IntKind)
theorem q7c (r fam k:Nat) : ∀ (H:Heap) (i:Nat),(∀ j n els ro fl,H[j]?=some (.row n els ro fl fam)→i+j=r∨els.length<k)→q0D r fam k H i=some H
 | [],_,_=>rfl
 | b::H,i,h=>by
  have ih:=q7c r fam k H (i+1) fun j n els ro fl hj=>by
   have:=h (j+1) n els ro fl hj
   omega
  unfold q0D
  rw[ih]
  cases b with
  | row n els ro fl fam'=>
   show (if fam'=fam∧i≠r∧k≤els.length then _ else _)=_
   rw[if_neg]
   rintro ⟨rfl,h1,h2⟩
   have:=h 0 n els ro fl rfl
   omega
  | _=>rfl
theorem qas {H:Heap} {r fam k:Nat} (h : ∀ j n els ro fl,H[j]?=some (.row n els ro fl fam)→j=r∨els.length<k):H.strike r fam k=some H:=q7c r fam k H 0 fun j n els ro fl hj=>by
 have:=h j n els ro fl hj
 omega
def Fb (H:Heap):Prop:=∀ (j n:Nat) (els:List AV) (ro fl:Bool) (f:Nat),H[j]?=some (Blk.row n els ro fl f)→f<H.length
inductive Hold (H:Heap):AV→List AV→Nat→Prop
 | nil:Hold H (AV.snil 1) [] H.length
 | row {r fam:Nat} {els:List AV}:els≠[]→H[r]?=some (Blk.row 1 els false true fam)→fam<H.length→(∀ j n e ro fl,H[j]?=some (Blk.row n e ro fl fam)→j=r∨e.length≤els.length)→Hold H (AV.sref 1 r 0 els.length) els fam
theorem Hold.two {H:Heap} {l:AV} {els:List AV} {fam:Nat} (h:Hold H l els fam):(l = .snil 1∧els=[]∧fam=H.length)∨∃ r,l = .sref 1 r 0 els.length∧H[r]?=some (Blk.row 1 els false true fam)∧fam<H.length∧r<H.length∧(∀ j n e ro fl,H[j]?=some (Blk.row n e ro fl fam)→j=r∨e.length≤els.length):=by
 cases h with
 | nil=>exact .inl ⟨rfl,rfl,rfl⟩
 | row h1 h2 h3 h4=>exact .inr ⟨_,rfl,h2,h3,(Ks.1 h2).1,h4⟩
def q3N (H:Heap) (l:AV) (els m:List AV):AV:=if m=[] then l else .sref 1 H.length 0 (els++m).length
def q24 (H:Heap) (els m:List AV) (fam:Nat):Heap:=if m=[] then H else H++[.row 1 (els++m) false true fam]
theorem qpL {H:Heap} {j:Nat} {b c:Blk} (h:(H++[b])[j]?=some c):H[j]?=some c∨(j=H.length∧b=c):=by
 rcases Nat.lt_or_ge j H.length with hj | hj
 ·rw[KG hj] at h
  exact .inl h
 ·rw[KJ hj] at h
  have:j-H.length=0:=by
   have:=(Ks.1 h).1
   simp at this
   omega
  rw[this] at h
  simp at h
  exact .inr ⟨by omega,h⟩
theorem Hold.fam_le {H:Heap} {l:AV} {els:List AV} {fam:Nat} (h:Hold H l els fam):fam≤H.length:=by
 cases h with
 | nil=>exact Kr _
 | row _ _ h _=>omega
theorem Hold.next {H:Heap} {l:AV} {els:List AV} {fam:Nat} (h:Hold H l els fam) (hf:Fb H) (m:List AV):Hold (q24 H els m fam) (q3N H l els m) (els++m) (if m=[] then fam else fam)∧Fb (q24 H els m fam):=by
 have hle:=h.fam_le
 unfold q24 q3N
 by_cases hm:m=[]
 ·subst hm
  simp only[if_true,Kj]
  exact ⟨h,hf⟩
 ·rw[if_neg hm,if_neg hm,if_neg hm]
  refine ⟨.row (by simp [hm]) (by simp) (by simp; omega) fun j n e ro fl hj=>?_,fun j n e ro fl f hj=>?_⟩
  ·rcases qpL hj with hj2 | ⟨rfl,hj2⟩
   ·cases h with
    | nil=>
     have:=hf _ _ _ _ _ _ hj2
     omega
    | row h1 h2 h3 h4=>
     rcases h4 j n e ro fl hj2 with rfl | h5
     ·rw[h2] at hj2
      cases hj2
      simp
     ·right
      simp
      omega
   ·exact .inl rfl
  ·rcases qpL hj with hj | ⟨_,hj⟩
   ·have:=hf _ _ _ _ _ _ hj
    simp
    omega
   ·cases hj
    simp
    omega
theorem Cl.next {H:Heap} {l:AV} {els:List AV} {fam:Nat} (hC:Cl H) (h:Hold H l els fam) (m:List AV):Cl (q24 H els m fam):=by
 unfold q24
 split
 ·exact hC
 ·exact hC.push _ _ _ _ h.fam_le
def q2H (o:Bool):Nat→Sch→List (List UInt8)
 | 0,_=>[]
 | d+1,x=>(if x.s.op=14 then [x.s.name] else [])++(if o=true∧(x.s.op=9∨x.s.op=10) then [] else x.kids.flatMap (q2H o d))
theorem q8s (o:Bool) (x:Sch):q2H o 0 x=[]:=(rfl)
theorem q8l (o:Bool) (d:Nat) (x:Sch):q2H o (d+1) x=(if x.s.op=14 then [x.s.name] else [])++(if o=true∧(x.s.op=9∨x.s.op=10) then [] else x.kids.flatMap (q2H o d)):=(rfl)
theorem q64 (o:Bool) : ∀ (d:Nat) (x:Sch),(q2H o d x).length≤q3u d x
 | 0,x=>by simp [q8s]
 | d+1,x=>by
  rw[q8l,q2q,Kb]
  have h1:(if x.s.op=14 then [x.s.name] else []).length≤1:=by split<;>simp
  have h2:(if o=true∧(x.s.op=9∨x.s.op=10) then [] else x.kids.flatMap (q2H o d)).length≤(x.kids.map (q3u d)).sum:=by
   split
   ·simp
   ·rw[List.length_flatMap]
    exact qbJ x.kids fun y _=>q64 o d y
  omega
theorem qeA {H:Heap} {base k q:Nat} {b:Blk} (h1:base≤q) (h2:H[q]?=some b) (h3:b.refs=[]):q1M H base (k+2) [q] []=[q]:=by
 rw[q1M,if_neg (by omega),if_neg (by simp),h2]
 simp only[h3,Kh]
 rfl
structure OneRef (S:AV→List AV):Prop where
 ren : ∀ f a,(S a).map (AV.renN f 6)=S (AV.renN f 6 a)
 refs : ∀ a,(S a).flatMap (AV.refsN 6)=AV.refsN 6 a
theorem qiJ {m r:Nat} (ks:List Nat) (h:r<m):q0V m ks r=some r:=by
 unfold q0V
 rw[if_pos h]
theorem q6k {S:AV→List AV} (hS:OneRef S) {live:List Nat} {tm:List AV} {H E:Heap} {m rb:Nat} {a:AV} (hm:m=H.length) (hC:Cl H) (hE : ∀ b,b∈E→b.roB=false) (hL:q0l live 0 tm=S a) (ha : ∀ r,r∈AV.refsN 6 a→r<m)
  (hr : ∀ f:Nat→Option Nat,(∀ r,r<m→f r=some r)→AV.renN f 6 a=a):St.norm live ⟨tm,H++E,m,rb⟩=⟨S a,H,m,0⟩:=by
 have:=qkf (rb:=rb) (ks:=[]) (K:=[]) (L':=S a) hm hC hE hL (by rw[hS.refs]; exact q89 _ _ _ _ _ ha) (by simp) (by rw[hS.ren,hr _ fun r hr=>qiJ _ hr]) rfl
 rw[Kj] at this
 exact this
theorem q30 {S:AV→List AV} (hS:OneRef S) {live:List Nat} {tm:List AV} {H E:Heap} {m rb q n fam:Nat} {els:List AV} (hm:m=H.length) (hC:Cl H) (hE : ∀ b,b∈E→b.roB=false) (hL:q0l live 0 tm=S (.sref 1 q 0 n)) (hq:m≤q)
  (hb:(H++E)[q]?=some (.row 1 els false true fam)):St.norm live ⟨tm,H++E,m,rb⟩=⟨S (.sref 1 m 0 n),H++[.row 1 els false true (if fam<m then fam else m)],m,0⟩:=by
 refine qkf (ks:=[q]) hm hC hE hL (by rw[hS.refs]; exact qeA hq hb rfl) (fun r hr=>?_) ?_ ?_
 ·rw[Kx.1 hr,Ko,hb]
  rfl
 ·rw[hS.ren]
  congr 1
  simp only[AV.renN,q0V]
  rw[if_neg (by omega)]
  simp [List.idxOf?,List.findIdx?,List.findIdx?.go]
 ·simp only[Kd,Kl,Ko,hb,K8,Blk.ren,if_true,q2K]
  congr 2
  split
  ·rfl
  ·simp [List.findIdx,List.findIdx.go,hb,Blk.famOf]
theorem qgB:OneRef fun a=>[a]:=⟨fun _ _=>rfl,fun a=>by simp⟩
theorem q8e {m:Nat} {res:List ResV} {a:AV} {H E:Heap} {tm:List AV} {b rb:Nat} {e:Ex} (he:e = .normal∨e = .ret) (hres:results res ⟨tm,H++E,b,rb⟩=some a) (hm:m=H.length) (hC:Cl H) (hE : ∀ b,b∈E→b.roB=false) (ha : ∀ r,r∈AV.refsN 6 a→r<m)
  (hr : ∀ f:Nat→Option Nat,(∀ r,r<m→f r=some r)→AV.renN f 6 a=a):qnB m res a H e ⟨tm,H++E,b,rb⟩:=by
 have:=q6k (rb:=0) qgB (live:=[0]) (tm:=[a]) hm hC hE rfl ha hr
 refine ⟨he,a,hres,?_,?_⟩
 ·unfold q7P
  rw[this]
  rfl
 ·unfold q7P
  rw[this]
theorem qi9 {m:Nat} {res:List ResV} {H E:Heap} {tm:List AV} {b rb q n fam:Nat} {els:List AV} {e:Ex} (he:e = .normal∨e = .ret) (hres:results res ⟨tm,H++E,b,rb⟩=some (.sref 1 q 0 n)) (hm:m=H.length) (hC:Cl H) (hE : ∀ b,b∈E→b.roB=false) (hq:m≤q)
  (hb:(H++E)[q]?=some (.row 1 els false true fam)):qnB m res (.sref 1 m 0 n) (H++[.row 1 els false true (if fam<m then fam else m)]) e ⟨tm,H++E,b,rb⟩:=by
 have:=q30 (rb:=0) qgB (live:=[0]) (tm:=[.sref 1 q 0 n]) hm hC hE rfl hq hb
 refine ⟨he,_,hres,?_,?_⟩
 ·unfold q7P
  rw[this]
  rfl
 ·unfold q7P
  rw[this]
theorem Hold.low {H:Heap} {l:AV} {els:List AV} {fam:Nat} (h:Hold H l els fam):(∀ r,r∈AV.refsN 6 l→r<H.length)∧∀ f:Nat→Option Nat,(∀ r,r<H.length→f r=some r)→AV.renN f 6 l=l:=by
 cases h with
 | nil=>exact ⟨fun r hr=>by simp [AV.refsN] at hr,fun f _=>rfl⟩
 | row h1 h2 h3 h4=>
  have:=(Ks.1 h2).1
  refine ⟨fun r hr=>?_,fun f hf=>?_⟩
  ·simp only[AV.refsN,Kx] at hr
   omega
  ·simp only[AV.renN]
   rw[hf _ this]
theorem q1t {b:Blk} {E:Heap} (h1:b.roB=false) (h2 : ∀ b,b∈E→b.roB=false) : ∀ x,x∈b::E→x.roB=false:=fun x hx=>by
 rcases KA.1 hx with rfl | hx
 ·exact h1
 ·exact h2 x hx
theorem q4F : ∀ b,b∈([]:Heap)→b.roB=false:=fun b h=>by cases h
theorem q57 {H:Heap} {l:AV} {els m:List AV} (hm:m=[]):q3N H l els m=l∧∀ fam,q24 H els m fam=H:=by
 subst hm
 exact ⟨rfl,fun _=>rfl⟩
theorem Hold.fam_if {H:Heap} {l:AV} {els:List AV} {fam:Nat} (h:Hold H l els fam):(if fam<H.length then fam else H.length)=fam:=by
 have:=h.fam_le
 split<;>omega
theorem Hold.fam_nil {H:Heap} {l:AV} {els:List AV} {fam:Nat} (h:Hold H l els fam) (he:els=[]):fam=H.length:=by
 cases h with
 | nil=>rfl
 | row h1 _ _ _=>exact (h1 he).elim
theorem q4Q {S:AV→List AV} (hS:OneRef S) {live:List Nat} {tm:List AV} {H:Heap} {l:AV} {els m m1:List AV} {fam fam2 rb:Nat} {box:Blk} (hH:Hold H l els fam) (hC:Cl H) (hbox:box.roB=false)
  (h2:fam2=fam∨(els=[]∧H.length≤fam2)) (hL:q0l live 0 tm=S (q3N (q24 H els m fam++[box]) (q3N H l els m) (els++m) m1)) :
  St.norm live ⟨tm,q24 (q24 H els m fam++[box]) (els++m) m1 fam2,H.length,rb⟩=⟨S (q3N H l els (m++m1)),q24 H els (m++m1) fam,H.length,0⟩:=by
 have hf2:(if fam2<H.length then fam2 else H.length)=fam:=by
  rcases h2 with rfl | ⟨he,h2⟩
  ·exact hH.fam_if
  ·rw[hH.fam_nil he,if_neg (by omega)]
 by_cases hm:m=[]
 ·subst hm
  simp only[q3N,q24,if_true,Kh,Kj] at hL ⊢
  by_cases hm1:m1=[]
  ·subst hm1
   simp only[if_true] at hL ⊢
   exact q6k hS rfl hC (q1t hbox q4F) hL hH.low.1 hH.low.2
  ·simp only[if_neg hm1] at hL ⊢
   rw[Ke]
   have:=q30 (rb:=rb) (els:=els++m1) (fam:=fam2) hS (E:=[box]++[.row 1 (els++m1) false true fam2]) rfl hC (q1t hbox (q1t rfl q4F)) hL (by simp) (by simp)
   rw[this,hf2]
 ·have hmm : ¬ m++m1=[]:=by simp [hm]
  simp only[q3N,q24,if_neg hm,if_neg hmm] at hL ⊢
  by_cases hm1:m1=[]
  ·subst hm1
   simp only[if_true,Kj] at hL ⊢
   rw[Ke]
   have:=q30 (rb:=rb) (els:=els++m) (fam:=fam) hS (E:=[.row 1 (els++m) false true fam]++[box]) rfl hC (q1t rfl (q1t hbox q4F)) hL (by simp) (by simp)
   rw[this,hH.fam_if]
  ·simp only[if_neg hm1] at hL ⊢
   rw[Ke,Ke]
   have:=q30 (rb:=rb) (els:=els++m++m1) (fam:=fam2) hS (E:=[.row 1 (els++m) false true fam]++([box]++[.row 1 (els++m++m1) false true fam2])) rfl hC (q1t rfl (q1t hbox (q1t rfl q4F))) hL (by simp) (by simp)
   rw[this,hf2,Ke]
theorem q4T {res:List ResV} {H:Heap} {l:AV} {els m:List AV} {fam b rb:Nat} {tm:List AV} {e:Ex} (he:e = .normal∨e = .ret) (hH:Hold H l els fam) (hC:Cl H) (hres:results res ⟨tm,q24 H els m fam,b,rb⟩=some (q3N H l els m)) :
  qnB H.length res (q3N H l els m) (q24 H els m fam) e ⟨tm,q24 H els m fam,b,rb⟩:=by
 by_cases hm:m=[]
 ·subst hm
  simp only[q3N,q24,if_true] at hres ⊢
  have:=q8e (res:=res) (E:=[]) (tm:=tm) (b:=b) (rb:=rb) he (by rw[Kj]; exact hres) rfl hC q4F hH.low.1 hH.low.2
  rw[Kj] at this
  exact this
 ·simp only[q3N,q24,if_neg hm] at hres ⊢
  have:=qi9 (res:=res) (els:=els++m) (fam:=fam) (E:=[.row 1 (els++m) false true fam]) (tm:=tm) (b:=b) (rb:=rb) he hres rfl hC (q1t rfl q4F) (Kr _) (by simp)
  rw[hH.fam_if] at this
  exact this
theorem Fb.push {H:Heap} (h:Fb H) {n:Nat} {els:List AV} {ro fl:Bool} {f:Nat} (hf:f≤H.length):Fb (H++[.row n els ro fl f]):=fun j n' e ro' fl' f' hj=>by
 rcases qpL hj with hj2 | ⟨_,hj2⟩
 ·have:=h _ _ _ _ _ _ hj2
  simp
  omega
 ·cases hj2
  simp
  omega
theorem q0S {H:Heap} (hF:Fb H) (n k:Nat) (els:List AV) (fl:Bool):q0D H.length H.length k (H++[.row n els false fl H.length]) 0=some (H++[.row n els false fl H.length]):=qas fun j n' e ro' fl' hj=>by
 rcases qpL hj with hj2 | ⟨h,_⟩
 ·have:=hF _ _ _ _ _ _ hj2
  omega
 ·exact .inl h
theorem qig {H:Heap} {r fam:Nat} {els:List AV} (hf:fam<H.length) (h4 : ∀ j n e ro fl,H[j]?=some (Blk.row n e ro fl fam)→j=r∨e.length≤els.length) (n1 n2:Nat) (e1 e2:List AV) :
  q0D r fam (els.length+1) (H++[.row n1 e1 false true H.length,.row n2 e2 false true (H.length+1)]) 0=some (H++[.row n1 e1 false true H.length,.row n2 e2 false true (H.length+1)]):=qas fun j n' e ro' fl' hj=>by
 rw[show H++[Blk.row n1 e1 false true H.length,Blk.row n2 e2 false true (H.length+1)]=(H++[Blk.row n1 e1 false true H.length])++[Blk.row n2 e2 false true (H.length+1)] by simp] at hj
 rcases qpL hj with hj2 | ⟨_,h⟩
 ·rcases qpL hj2 with hj3 | ⟨_,h⟩
  ·have:=h4 _ _ _ _ _ hj3
   omega
  ·cases h
   omega
 ·cases h
  omega
theorem Hold.box {H:Heap} {l:AV} {els:List AV} {fam:Nat} (h:Hold H l els fam) (n:Nat) (e:List AV) (ro fl:Bool) : ∃ fam2,Hold (H++[.row n e ro fl H.length]) l els fam2∧(fam2=fam∨(els=[]∧H.length≤fam2)):=by
 cases h with
 | nil=>exact ⟨_,.nil,.inr ⟨rfl,by simp⟩⟩
 | row h1 h2 h3 h4=>
  have hr:=(Ks.1 h2).1
  refine ⟨fam,.row h1 (by rw[KG hr]; exact h2) (by simp; omega) (fun j n' e' ro' fl' hj=>?_),.inl rfl⟩
  rcases qpL hj with hj2 | ⟨_,hj2⟩
  ·exact h4 _ _ _ _ _ hj2
  ·cases hj2
   omega
theorem qmu (o:Bool) : ∀ (d:Nat) (D:Int),D=d→d<2^30→∀ x:Sch,x.bulk≤2^24→∀ (H:Heap) (l:AV) (els:List AV) (fam:Nat),Cl H→Fb H→Hold H l els fam→els.length+q3u d x≤2^26 →
  q1z CS 491 [l,q06 x,.int .i64 D,.bool o] H (q3N H l els ((q2H o d x).map .str)) (q24 H els ((q2H o d x).map .str) fam):=by
 intro d
 induction d with
 | zero=>
  intro D hD hd x hx H l els fam hC hF hH hl
  rw[q8s]
  simp only[q3N,q24,Kl,if_true]
  rw[q02]
  refine q6X q5I rfl ?_
  (repeat' first|simp (disch:=omega) only[go_sem,q5I,enter,Ka]|(apply spl<;>intro h<;>try simp (disch:=omega) only[go_sem,h]))
  all_goals first | omega | skip
  exact q8e (.inr rfl) rfl rfl hC (q1t rfl q4F) hH.low.1 hH.low.2
 | succ d ih=>
  intro D hD hd x hx H l els fam hC hF hH hl
  have L:=Sch.lens hx
  have hp:=qai x hx
  have hkl:=q47 x
  have h0:=hH
  rw[q8l]
  by_cases h14:x.s.op=14
  ·rw[if_pos h14,if_neg (by omega : ¬ (o=true∧(x.s.op=9∨x.s.op=10)))]
   rw[q02] at hp ⊢
   obtain ⟨M,hM⟩ : ∃ M:Nat→List (List UInt8),∀ k,M k=[x.s.name]++(x.kids.take k).flatMap (q2H o d):=⟨_,fun _=>rfl⟩
   have hM0:M 0=[x.s.name]:=by rw[hM]; rfl
   have hMs : ∀ k y,x.kids[k]?=some y→M (k+1)=M k++q2H o d y:=fun k y hy=>by
    rw[hM,hM,KD,hy]
    simp
   have hMm : ∀ k,x.kids.length≤k→(M k).map AV.str=AV.str x.s.name::(x.kids.flatMap (q2H o d)).map AV.str:=fun k hk=>by
    rw[hM,Kz hk]
    rfl
   have hMb : ∀ k y,x.kids[k]?=some y→els.length+(M k).length+q3u d y≤2^26:=fun k y hy=>by
    have h1:(M k).length≤1+((x.kids.take k).map (q3u d)).sum:=by
     rw[hM,Kb,List.length_flatMap]
     have:=qbJ (f:=fun z=>(q2H o d z).length) (g:=q3u d) (x.kids.take k) fun z _=>q64 o d z
     simp only[List.length_cons,List.length_nil]
     omega
    have h2:=q5l (q3u d) x.kids k y hy
    have h3:=q2i (q3u d) x.kids (k+1)
    rw[q2q] at hl
    omega
   have hl2:=hl
   rw[q2q] at hl2
   rcases hH.two with ⟨e1,e2,e3⟩ | ⟨r,e1,e2,e3,e4,e5⟩
   ·rw[e1] at hH ⊢
    have h00:els.length=0:=by rw[e2]; rfl
    cases o with
    | true=>
     refine q6X q5I rfl ?_
     (repeat' first|simp (disch:=omega) only[go_sem,q5I,enter,Ka,q1S,q6Q,Kb,Ke,KT]|refine q00 _ (hp) ?_|(apply spl<;>intro h<;>try simp (disch:=omega) only[go_sem,h]))
     all_goals first | omega | skip
     refine q0a (α:=Nat) (fun k=>{ tmps:=q0i 49 [(0,q3N H (.snil 1) els ((M k).map .str)),(2,.int .i64 D),(3,.bool true),(35,.tsl 15 (x.kids.map q06)),(36,.int .i64 x.kids.length),(37,.int .i64 k)],heap:=q24 H els ((M k).map .str) fam,base:=H.length }) (fun k=>k≤x.kids.length) (fun k=>x.kids.length-k) 0
      ?_ (Kn _) ?_
     ·show St.norm _ _=_
      simp only[hM0]
      refine (q30 (rb:=0) (els:=[.str x.s.name]) (fam:=(H.length+2)) (q:=H.length+2) (n:=1) (live:=[0,2,3,35,36,37]) (S:=fun a=>q0i 49 [(0,a),(2,.int .i64 D),(3,.bool true),(35,.tsl 15 (x.kids.map q06)),(36,.int .i64 x.kids.length),(37,.int .i64 (0:Nat))]) (H:=H) ⟨fun _ _=>rfl,fun a=>Kj _⟩ rfl hC ?_ ?_ (by omega) ?_).trans ?_
      ·exact q1t rfl (q1t rfl (q1t rfl q4F))
      ·rfl
      ·simp
      ·rw[if_neg (by omega)]
       simp [q3N,q24,e2,e3]
     intro k hk
     by_cases hlt:k<x.kids.length
     ·obtain ⟨y,hy⟩:=q08 hlt
      have hym:=Kc hy
      have hy2:=q0d (g:=q06) hy
      obtain ⟨N1,F1⟩:=hH.next hF ((M k).map AV.str)
      rw[ite_self] at N1
      have C1:=Cl.next hC hH ((M k).map AV.str)
      obtain ⟨fam2,N2,q2⟩:=N1.box 15 [q06 y] false true
      have hb:(els++(M k).map AV.str).length+q3u d y≤2^26:=by
       have:=hMb k y hy
       simp only[Kb,Ka]
       omega
      have hc:=ih (D-1) (by omega) (by omega) y (by have:=Sch.kids_bulk hym; omega) _ _ _ _ (C1.push 15 [q06 y] false _ (Kr _)) (F1.push (Kr _)) N2 hb
      have q3:fam2=fam∨(els=[]∧H.length≤fam2):=by
       rcases q2 with rfl | ⟨h1,h2⟩
       ·exact .inl rfl
       ·right
        have:=V0.1 h1
        refine ⟨this.1,?_⟩
        rw[show q24 H els ((M k).map AV.str) fam=H from (q57 (l:=l) this.2).2 fam] at h2
        exact h2
      rw[q02] at hy2 hc
      (repeat' first|simp (disch:=omega) only[go_sem,hy2,Ka,q1S,q53,q0S F1]|(refine q0b _ _ hc ?_)|(apply spl<;>intro h<;>try simp (disch:=omega) only[go_sem,h]))
      all_goals first | omega | skip
      refine ⟨k+1,?_,hlt,by omega⟩
      rw[hMs k y hy,Va]
      exact q4Q (S:=fun a=>q0i 49 [(0,a),(2,.int .i64 D),(3,.bool true),(35,.tsl 15 (x.kids.map q06)),(36,.int .i64 x.kids.length),(37,.int .i64 ((k+1:Nat):Int))]) ⟨fun _ _=>rfl,fun a=>Kj _⟩ hH hC rfl q3 rfl
     ·rw[←hMm k (by omega)]
      (repeat' first|simp (disch:=omega) only[go_sem,Ka]|(apply spl<;>intro h<;>try simp (disch:=omega) only[go_sem,h]))
      all_goals first | omega | skip
      exact q4T (.inr rfl) hH hC rfl
    | false=>
     refine q6X q5I rfl ?_
     (repeat' first|simp (disch:=omega) only[go_sem,q5I,enter,Ka,q1S,q6Q,Kb,Ke,KT]|refine q00 _ (hp) ?_|(apply spl<;>intro h<;>try simp (disch:=omega) only[go_sem,h]))
     all_goals first | omega | skip
     refine q0a (α:=Nat) (fun k=>{ tmps:=q0i 49 [(0,q3N H (.snil 1) els ((M k).map .str)),(2,.int .i64 D),(3,.bool false),(35,.tsl 15 (x.kids.map q06)),(36,.int .i64 x.kids.length),(37,.int .i64 k)],heap:=q24 H els ((M k).map .str) fam,base:=H.length }) (fun k=>k≤x.kids.length) (fun k=>x.kids.length-k) 0
      ?_ (Kn _) ?_
     ·show St.norm _ _=_
      simp only[hM0]
      refine (q30 (rb:=0) (els:=[.str x.s.name]) (fam:=(H.length+2)) (q:=H.length+2) (n:=1) (live:=[0,2,3,35,36,37]) (S:=fun a=>q0i 49 [(0,a),(2,.int .i64 D),(3,.bool false),(35,.tsl 15 (x.kids.map q06)),(36,.int .i64 x.kids.length),(37,.int .i64 (0:Nat))]) (H:=H) ⟨fun _ _=>rfl,fun a=>Kj _⟩ rfl hC ?_ ?_ (by omega) ?_).trans ?_
      ·exact q1t rfl (q1t rfl (q1t rfl q4F))
      ·rfl
      ·simp
      ·rw[if_neg (by omega)]
       simp [q3N,q24,e2,e3]
     intro k hk
     by_cases hlt:k<x.kids.length
     ·obtain ⟨y,hy⟩:=q08 hlt
      have hym:=Kc hy
      have hy2:=q0d (g:=q06) hy
      obtain ⟨N1,F1⟩:=hH.next hF ((M k).map AV.str)
      rw[ite_self] at N1
      have C1:=Cl.next hC hH ((M k).map AV.str)
      obtain ⟨fam2,N2,q2⟩:=N1.box 15 [q06 y] false true
      have hb:(els++(M k).map AV.str).length+q3u d y≤2^26:=by
       have:=hMb k y hy
       simp only[Kb,Ka]
       omega
      have hc:=ih (D-1) (by omega) (by omega) y (by have:=Sch.kids_bulk hym; omega) _ _ _ _ (C1.push 15 [q06 y] false _ (Kr _)) (F1.push (Kr _)) N2 hb
      have q3:fam2=fam∨(els=[]∧H.length≤fam2):=by
       rcases q2 with rfl | ⟨h1,h2⟩
       ·exact .inl rfl
       ·right
        have:=V0.1 h1
        refine ⟨this.1,?_⟩
        rw[show q24 H els ((M k).map AV.str) fam=H from (q57 (l:=l) this.2).2 fam] at h2
        exact h2
      rw[q02] at hy2 hc
      (repeat' first|simp (disch:=omega) only[go_sem,hy2,Ka,q1S,q53,q0S F1]|(refine q0b _ _ hc ?_)|(apply spl<;>intro h<;>try simp (disch:=omega) only[go_sem,h]))
      all_goals first | omega | skip
      refine ⟨k+1,?_,hlt,by omega⟩
      rw[hMs k y hy,Va]
      exact q4Q (S:=fun a=>q0i 49 [(0,a),(2,.int .i64 D),(3,.bool false),(35,.tsl 15 (x.kids.map q06)),(36,.int .i64 x.kids.length),(37,.int .i64 ((k+1:Nat):Int))]) ⟨fun _ _=>rfl,fun a=>Kj _⟩ hH hC rfl q3 rfl
     ·rw[←hMm k (by omega)]
      (repeat' first|simp (disch:=omega) only[go_sem,Ka]|(apply spl<;>intro h<;>try simp (disch:=omega) only[go_sem,h]))
      all_goals first | omega | skip
      exact q4T (.inr rfl) hH hC rfl
   ·rw[e1] at hH ⊢
    have hs2:=qig e3 e5
    cases o with
    | true=>
     refine q6X q5I rfl ?_
     (repeat' first|simp (disch:=omega) only[go_sem,q5I,enter,Ka,q1S,q6Q,Kb,Ke,KT,q2O,e2,hs2]|refine q00 _ (hp) ?_|(apply spl<;>intro h<;>try simp (disch:=omega) only[go_sem,h]))
     all_goals first | omega | skip
     refine q0a (α:=Nat) (fun k=>{ tmps:=q0i 49 [(0,q3N H (.sref 1 r 0 els.length) els ((M k).map .str)),(2,.int .i64 D),(3,.bool true),(35,.tsl 15 (x.kids.map q06)),(36,.int .i64 x.kids.length),(37,.int .i64 k)],heap:=q24 H els ((M k).map .str) fam,base:=H.length }) (fun k=>k≤x.kids.length) (fun k=>x.kids.length-k) 0
      ?_ (Kn _) ?_
     ·show St.norm _ _=_
      simp only[hM0]
      refine (q30 (rb:=0) (els:=els++[.str x.s.name]) (fam:=fam) (q:=H.length+2) (n:=els.length+1) (live:=[0,2,3,35,36,37]) (S:=fun a=>q0i 49 [(0,a),(2,.int .i64 D),(3,.bool true),(35,.tsl 15 (x.kids.map q06)),(36,.int .i64 x.kids.length),(37,.int .i64 (0:Nat))]) (H:=H) ⟨fun _ _=>rfl,fun a=>Kj _⟩ rfl hC ?_ ?_ (by omega) ?_).trans ?_
      ·exact q1t rfl (q1t rfl (q1t rfl q4F))
      ·rfl
      ·simp
      ·rw[if_pos e3]
       simp [q3N,q24,e2,e3]
     intro k hk
     by_cases hlt:k<x.kids.length
     ·obtain ⟨y,hy⟩:=q08 hlt
      have hym:=Kc hy
      have hy2:=q0d (g:=q06) hy
      obtain ⟨N1,F1⟩:=hH.next hF ((M k).map AV.str)
      rw[ite_self] at N1
      have C1:=Cl.next hC hH ((M k).map AV.str)
      obtain ⟨fam2,N2,q2⟩:=N1.box 15 [q06 y] false true
      have hb:(els++(M k).map AV.str).length+q3u d y≤2^26:=by
       have:=hMb k y hy
       simp only[Kb,Ka]
       omega
      have hc:=ih (D-1) (by omega) (by omega) y (by have:=Sch.kids_bulk hym; omega) _ _ _ _ (C1.push 15 [q06 y] false _ (Kr _)) (F1.push (Kr _)) N2 hb
      have q3:fam2=fam∨(els=[]∧H.length≤fam2):=by
       rcases q2 with rfl | ⟨h1,h2⟩
       ·exact .inl rfl
       ·right
        have:=V0.1 h1
        refine ⟨this.1,?_⟩
        rw[show q24 H els ((M k).map AV.str) fam=H from (q57 (l:=l) this.2).2 fam] at h2
        exact h2
      rw[q02] at hy2 hc
      (repeat' first|simp (disch:=omega) only[go_sem,hy2,Ka,q1S,q53,q0S F1]|(refine q0b _ _ hc ?_)|(apply spl<;>intro h<;>try simp (disch:=omega) only[go_sem,h]))
      all_goals first | omega | skip
      refine ⟨k+1,?_,hlt,by omega⟩
      rw[hMs k y hy,Va]
      exact q4Q (S:=fun a=>q0i 49 [(0,a),(2,.int .i64 D),(3,.bool true),(35,.tsl 15 (x.kids.map q06)),(36,.int .i64 x.kids.length),(37,.int .i64 ((k+1:Nat):Int))]) ⟨fun _ _=>rfl,fun a=>Kj _⟩ hH hC rfl q3 rfl
     ·rw[←hMm k (by omega)]
      (repeat' first|simp (disch:=omega) only[go_sem,Ka]|(apply spl<;>intro h<;>try simp (disch:=omega) only[go_sem,h]))
      all_goals first | omega | skip
      exact q4T (.inr rfl) hH hC rfl
    | false=>
     refine q6X q5I rfl ?_
     (repeat' first|simp (disch:=omega) only[go_sem,q5I,enter,Ka,q1S,q6Q,Kb,Ke,KT,q2O,e2,hs2]|refine q00 _ (hp) ?_|(apply spl<;>intro h<;>try simp (disch:=omega) only[go_sem,h]))
     all_goals first | omega | skip
     refine q0a (α:=Nat) (fun k=>{ tmps:=q0i 49 [(0,q3N H (.sref 1 r 0 els.length) els ((M k).map .str)),(2,.int .i64 D),(3,.bool false),(35,.tsl 15 (x.kids.map q06)),(36,.int .i64 x.kids.length),(37,.int .i64 k)],heap:=q24 H els ((M k).map .str) fam,base:=H.length }) (fun k=>k≤x.kids.length) (fun k=>x.kids.length-k) 0
      ?_ (Kn _) ?_
     ·show St.norm _ _=_
      simp only[hM0]
      refine (q30 (rb:=0) (els:=els++[.str x.s.name]) (fam:=fam) (q:=H.length+2) (n:=els.length+1) (live:=[0,2,3,35,36,37]) (S:=fun a=>q0i 49 [(0,a),(2,.int .i64 D),(3,.bool false),(35,.tsl 15 (x.kids.map q06)),(36,.int .i64 x.kids.length),(37,.int .i64 (0:Nat))]) (H:=H) ⟨fun _ _=>rfl,fun a=>Kj _⟩ rfl hC ?_ ?_ (by omega) ?_).trans ?_
      ·exact q1t rfl (q1t rfl (q1t rfl q4F))
      ·rfl
      ·simp
      ·rw[if_pos e3]
       simp [q3N,q24,e2,e3]
     intro k hk
     by_cases hlt:k<x.kids.length
     ·obtain ⟨y,hy⟩:=q08 hlt
      have hym:=Kc hy
      have hy2:=q0d (g:=q06) hy
      obtain ⟨N1,F1⟩:=hH.next hF ((M k).map AV.str)
      rw[ite_self] at N1
      have C1:=Cl.next hC hH ((M k).map AV.str)
      obtain ⟨fam2,N2,q2⟩:=N1.box 15 [q06 y] false true
      have hb:(els++(M k).map AV.str).length+q3u d y≤2^26:=by
       have:=hMb k y hy
       simp only[Kb,Ka]
       omega
      have hc:=ih (D-1) (by omega) (by omega) y (by have:=Sch.kids_bulk hym; omega) _ _ _ _ (C1.push 15 [q06 y] false _ (Kr _)) (F1.push (Kr _)) N2 hb
      have q3:fam2=fam∨(els=[]∧H.length≤fam2):=by
       rcases q2 with rfl | ⟨h1,h2⟩
       ·exact .inl rfl
       ·right
        have:=V0.1 h1
        refine ⟨this.1,?_⟩
        rw[show q24 H els ((M k).map AV.str) fam=H from (q57 (l:=l) this.2).2 fam] at h2
        exact h2
      rw[q02] at hy2 hc
      (repeat' first|simp (disch:=omega) only[go_sem,hy2,Ka,q1S,q53,q0S F1]|(refine q0b _ _ hc ?_)|(apply spl<;>intro h<;>try simp (disch:=omega) only[go_sem,h]))
      all_goals first | omega | skip
      refine ⟨k+1,?_,hlt,by omega⟩
      rw[hMs k y hy,Va]
      exact q4Q (S:=fun a=>q0i 49 [(0,a),(2,.int .i64 D),(3,.bool false),(35,.tsl 15 (x.kids.map q06)),(36,.int .i64 x.kids.length),(37,.int .i64 ((k+1:Nat):Int))]) ⟨fun _ _=>rfl,fun a=>Kj _⟩ hH hC rfl q3 rfl
     ·rw[←hMm k (by omega)]
      (repeat' first|simp (disch:=omega) only[go_sem,Ka]|(apply spl<;>intro h<;>try simp (disch:=omega) only[go_sem,h]))
      all_goals first | omega | skip
      exact q4T (.inr rfl) hH hC rfl
  by_cases ho:o=true∧(x.s.op=9∨x.s.op=10)
  ·rw[if_neg h14,if_pos ho]
   simp only[q3N,q24,Kl,Kj,if_true]
   rw[q02]
   obtain ⟨rfl,ho⟩:=ho
   refine q6X q5I rfl ?_
   (repeat' first|simp (disch:=omega) only[go_sem,q5I,enter,Ka,q1S]|(apply spl<;>intro h<;>try simp (disch:=omega) only[go_sem,h]))
   all_goals first | omega | skip
   all_goals exact q8e (.inr rfl) rfl rfl hC (q1t rfl q4F) hH.low.1 hH.low.2
  rw[if_neg h14,if_neg ho,Kh]
  rw[q02] at hp ⊢
  refine q6X q5I rfl ?_
  have hno : ∀ b:Bool,o=b→b=true→¬ x.s.op=9∧¬ x.s.op=10:=by
   rintro b rfl h
   constructor<;>(intro h2; exact ho ⟨h,by omega⟩)
  obtain ⟨M,hM⟩ : ∃ M:Nat→List (List UInt8),∀ k,M k=(x.kids.take k).flatMap (q2H o d):=⟨_,fun _=>rfl⟩
  have hM0:M 0=[]:=by rw[hM]; rfl
  have hMs : ∀ k y,x.kids[k]?=some y→M (k+1)=M k++q2H o d y:=fun k y hy=>by
   rw[hM,hM,KD,hy]
   simp
  have hMm : ∀ k,x.kids.length≤k→(M k).map AV.str=(x.kids.flatMap (q2H o d)).map AV.str:=fun k hk=>by rw[hM,Kz hk]
  have hMb : ∀ k y,x.kids[k]?=some y→els.length+(M k).length+q3u d y≤2^26:=fun k y hy=>by
   have h1:(M k).length≤((x.kids.take k).map (q3u d)).sum:=by
    rw[hM,List.length_flatMap]
    exact qbJ _ fun z _=>q64 o d z
   have h2:=q5l (q3u d) x.kids k y hy
   have h3:=q2i (q3u d) x.kids (k+1)
   rw[q2q] at hl
   omega
  cases o with
  | true=>
   obtain ⟨h9,h10⟩:=hno true rfl rfl
   (repeat' first|simp (disch:=omega) only[go_sem,q5I,enter,Ka,q1S]|refine q00 _ (hp) ?_|(apply spl<;>intro h<;>try simp (disch:=omega) only[go_sem,h]))
   all_goals first | omega | skip
   refine q0a (α:=Nat) (fun k=>{ tmps:=q0i 49 [(0,q3N H l els ((M k).map .str)),(2,.int .i64 D),(3,.bool true),(35,.tsl 15 (x.kids.map q06)),(36,.int .i64 x.kids.length),(37,.int .i64 k)],heap:=q24 H els ((M k).map .str) fam,base:=H.length }) (fun k=>k≤x.kids.length) (fun k=>x.kids.length-k) 0
    (by
     rw[hM0]
     exact q6k (S:=fun a=>q0i 49 [(0,a),(2,.int .i64 D),(3,.bool true),(35,.tsl 15 (x.kids.map q06)),(36,.int .i64 x.kids.length),(37,.int .i64 (0:Nat))]) ⟨fun _ _=>rfl,fun a=>Kj _⟩ rfl hC (q1t rfl q4F) rfl hH.low.1 hH.low.2) (Kn _) ?_
   intro k hk
   by_cases hlt:k<x.kids.length
   ·obtain ⟨y,hy⟩:=q08 hlt
    have hym:=Kc hy
    have hy2:=q0d (g:=q06) hy
    obtain ⟨N1,F1⟩:=hH.next hF ((M k).map AV.str)
    rw[ite_self] at N1
    have C1:=Cl.next hC hH ((M k).map AV.str)
    obtain ⟨fam2,N2,q2⟩:=N1.box 15 [q06 y] false true
    have hb:(els++(M k).map AV.str).length+q3u d y≤2^26:=by
     have:=hMb k y hy
     simp only[Kb,Ka]
     omega
    have hc:=ih (D-1) (by omega) (by omega) y (by have:=Sch.kids_bulk hym; omega) _ _ _ _ (C1.push 15 [q06 y] false _ (Kr _)) (F1.push (Kr _)) N2 hb
    have q3:fam2=fam∨(els=[]∧H.length≤fam2):=by
     rcases q2 with rfl | ⟨h1,h2⟩
     ·exact .inl rfl
     ·right
      have:=V0.1 h1
      refine ⟨this.1,?_⟩
      rw[show q24 H els ((M k).map AV.str) fam=H from (q57 (l:=l) this.2).2 fam] at h2
      exact h2
    rw[q02] at hy2 hc
    (repeat' first|simp (disch:=omega) only[go_sem,hy2,Ka,q1S,q53,q0S F1]|(refine q0b _ _ hc ?_)|(apply spl<;>intro h<;>try simp (disch:=omega) only[go_sem,h]))
    all_goals first | omega | skip
    refine ⟨k+1,?_,hlt,by omega⟩
    rw[hMs k y hy,Va]
    exact q4Q (S:=fun a=>q0i 49 [(0,a),(2,.int .i64 D),(3,.bool true),(35,.tsl 15 (x.kids.map q06)),(36,.int .i64 x.kids.length),(37,.int .i64 ((k+1:Nat):Int))]) ⟨fun _ _=>rfl,fun a=>Kj _⟩ hH hC rfl q3 rfl
   ·rw[←hMm k (by omega)]
    (repeat' first|simp (disch:=omega) only[go_sem,Ka]|(apply spl<;>intro h<;>try simp (disch:=omega) only[go_sem,h]))
    all_goals first | omega | skip
    exact q4T (.inr rfl) hH hC rfl
  | false=>
   (repeat' first|simp (disch:=omega) only[go_sem,q5I,enter,Ka,q1S]|refine q00 _ (hp) ?_|(apply spl<;>intro h<;>try simp (disch:=omega) only[go_sem,h]))
   all_goals first | omega | skip
   refine q0a (α:=Nat) (fun k=>{ tmps:=q0i 49 [(0,q3N H l els ((M k).map .str)),(2,.int .i64 D),(3,.bool false),(35,.tsl 15 (x.kids.map q06)),(36,.int .i64 x.kids.length),(37,.int .i64 k)],heap:=q24 H els ((M k).map .str) fam,base:=H.length }) (fun k=>k≤x.kids.length) (fun k=>x.kids.length-k) 0
    (by
     rw[hM0]
     exact q6k (S:=fun a=>q0i 49 [(0,a),(2,.int .i64 D),(3,.bool false),(35,.tsl 15 (x.kids.map q06)),(36,.int .i64 x.kids.length),(37,.int .i64 (0:Nat))]) ⟨fun _ _=>rfl,fun a=>Kj _⟩ rfl hC (q1t rfl q4F) rfl hH.low.1 hH.low.2) (Kn _) ?_
   intro k hk
   by_cases hlt:k<x.kids.length
   ·obtain ⟨y,hy⟩:=q08 hlt
    have hym:=Kc hy
    have hy2:=q0d (g:=q06) hy
    obtain ⟨N1,F1⟩:=hH.next hF ((M k).map AV.str)
    rw[ite_self] at N1
    have C1:=Cl.next hC hH ((M k).map AV.str)
    obtain ⟨fam2,N2,q2⟩:=N1.box 15 [q06 y] false true
    have hb:(els++(M k).map AV.str).length+q3u d y≤2^26:=by
     have:=hMb k y hy
     simp only[Kb,Ka]
     omega
    have hc:=ih (D-1) (by omega) (by omega) y (by have:=Sch.kids_bulk hym; omega) _ _ _ _ (C1.push 15 [q06 y] false _ (Kr _)) (F1.push (Kr _)) N2 hb
    have q3:fam2=fam∨(els=[]∧H.length≤fam2):=by
     rcases q2 with rfl | ⟨h1,h2⟩
     ·exact .inl rfl
     ·right
      have:=V0.1 h1
      refine ⟨this.1,?_⟩
      rw[show q24 H els ((M k).map AV.str) fam=H from (q57 (l:=l) this.2).2 fam] at h2
      exact h2
    rw[q02] at hy2 hc
    (repeat' first|simp (disch:=omega) only[go_sem,hy2,Ka,q1S,q53,q0S F1]|(refine q0b _ _ hc ?_)|(apply spl<;>intro h<;>try simp (disch:=omega) only[go_sem,h]))
    all_goals first | omega | skip
    refine ⟨k+1,?_,hlt,by omega⟩
    rw[hMs k y hy,Va]
    exact q4Q (S:=fun a=>q0i 49 [(0,a),(2,.int .i64 D),(3,.bool false),(35,.tsl 15 (x.kids.map q06)),(36,.int .i64 x.kids.length),(37,.int .i64 ((k+1:Nat):Int))]) ⟨fun _ _=>rfl,fun a=>Kj _⟩ hH hC rfl q3 rfl
   ·rw[←hMm k (by omega)]
    (repeat' first|simp (disch:=omega) only[go_sem,Ka]|(apply spl<;>intro h<;>try simp (disch:=omega) only[go_sem,h]))
    all_goals first | omega | skip
    exact q4T (.inr rfl) hH hC rfl
end Ago
set_option maxRecDepth 100000
set_option maxHeartbeats 4000000
namespace Ago
open Go (IntKind)
open Go.Op (bytesLess)
def q0G (l:List (List UInt8)) (s:List UInt8):List (List UInt8):=l.takeWhile (fun x=>bytesLess x s)++s::(l.dropWhile fun x=>bytesLess x s).filter fun x=>!(x == s)
theorem q7w {α:Type} (p:α→Bool) : ∀ (l:List α) (k:Nat),k≤l.length→(l.take k).all p=true→(∀ y,l[k]?=some y→p y=false)→l.takeWhile p=l.take k∧l.dropWhile p=l.drop k
 | [],k,_,_,_=>by simp
 | x::l,0,_,_,h=>by
  have:=h x rfl
  simp [this]
 | x::l,k+1,hk,ha,h=>by
  simp only[K4,Vy,Kk] at ha
  obtain ⟨h1,h2⟩:=q7w p l k (by simpa using hk) ha.2 (fun y hy=>h y (by simpa using hy))
  simp [ha.1,h1,h2]
theorem q8A {α:Type} (p:α→Bool) {l:List α} {k:Nat} {y:α} (hy:l[k]?=some y) (ha:(l.take k).all p=true) (hp:p y=true):(l.take (k+1)).all p=true:=q0C hy ha hp
theorem q5Y (l:List (List UInt8)) (s:List UInt8) (hl:l.length<2^30):q0m CS 521 [.tsl 1 (l.map .str),.str s] (.tsl 1 ((q0G l s).map .str)):=by
 refine q05 qom rfl ?_
 (repeat' first|simp (disch:=omega) only[go_sem,qom,enter,Ka]|(apply spl<;>intro h<;>try simp (disch:=omega) only[go_sem,h]))
 refine q0a (α:=Nat) (fun k=>{ tmps:=q0i 52 [(0,.tsl 1 (l.map .str)),(1,.str s),(5,q0B 1 0 ((l.take k).map .str)),(6,.int .i64 k)],heap:=q0z 1 0 ((l.take k).map .str),base:=0 }) (fun k=>k≤l.length∧(l.take k).all (fun x=>bytesLess x s)=true) (fun k=>l.length-k) 0 rfl ⟨Kn _,rfl⟩ ?_
 rintro k ⟨hk,ha⟩
 have key : ∀ k,k≤l.length→(l.take k).all (fun x=>bytesLess x s)=true→(∀ y,l[k]?=some y→bytesLess y s=false)→q0G l s=l.take k++s::(l.drop k).filter (fun x=>!(x == s)):=fun k hk ha h=>by
  obtain ⟨h1,h2⟩:=q7w (fun x=>bytesLess x s) l k hk ha h
  unfold q0G
  rw[h1,h2]
 by_cases hc : ∃ y,l[k]?=some y∧bytesLess y s=true
 ·obtain ⟨y,hy,hb⟩:=hc
  have hlt:k<l.length:=(Ks.1 hy).1
  have hy2:=q0d (g:=AV.str) hy
  have hlen:(l.take k).length=k:=by simp; omega
  have hnext:(l.take (k+1)).map AV.str=(l.take k).map AV.str++[.str y]:=by rw[KD,hy]; simp
  obtain ⟨out,hout⟩ : ∃ out,(l.take k).map AV.str=out:=⟨_,rfl⟩
  have hol:out.length=k:=by rw[←hout]; simp; omega
  rw[hout] at hnext ⊢
  cases out with
  | nil=>
   (repeat' first|simp (disch:=omega) only[go_sem,hy2,hb,q0B,q0z,Ka]|(apply spl<;>intro h<;>try simp (disch:=omega) only[go_sem,h]))
   all_goals first | omega | skip
   refine ⟨k+1,?_,⟨hlt,q8A _ hy ha hb⟩,by omega⟩
   simp only[hnext]
   rfl
  | cons z out=>
   simp only[List.length_cons] at hol
   (repeat' first|simp (disch:=omega) only[go_sem,hy2,hb,q0B,q0z,Ka]|(apply spl<;>intro h<;>try simp (disch:=omega) only[go_sem,h]))
   all_goals first | omega | skip
   refine ⟨k+1,?_,⟨hlt,q8A _ hy ha hb⟩,by omega⟩
   simp only[hnext,Kf,q0B,q0z,Kb,List.length_cons,List.length_nil]
   rfl
 ·have hno : ∀ y,l[k]?=some y→bytesLess y s=false:=fun y hy=>by
   cases h:bytesLess y s with
   | false=>rfl
   | true=>exact (hc ⟨y,hy,h⟩).elim
  have hw:=key k hk ha hno
  rw[hw]
  obtain ⟨G,hG⟩ : ∃ G:Nat→List (List UInt8),∀ j,G j=l.take k++s::((l.take j).drop k).filter (fun x=>!(x == s)):=⟨_,fun _=>rfl⟩
  have hG0:(G k).map AV.str=(l.take k).map .str++[.str s]:=by rw[hG]; simp
  have hGe : ∀ j,l.length≤j→G j=l.take k++s::(l.drop k).filter (fun x=>!(x == s)):=fun j hj=>by rw[hG,Kz hj]
  have hGs : ∀ j y,k≤j→l[j]?=some y→(G (j+1)).map AV.str=(G j).map .str++(if y=s then [] else [.str y]):=fun j y hj hy=>by
   have h1:j<l.length:=(Ks.1 hy).1
   rw[hG,hG,KD,hy,VU (by simp; omega)]
   by_cases h:y=s
   ·simp [h]
   ·simp [h]
  have hGl : ∀ j,(G j).length≤j+1∨j<k:=fun j=>by
   rcases Nat.lt_or_ge j k with h | h
   ·exact .inr h
   ·left
    rw[hG]
    have:=List.length_filter_le (fun x=>!(x == s)) ((l.take j).drop k)
    simp only[Kb,List.length_cons,KI,VZ] at this ⊢
    omega
  have hGn : ∀ j,∃ z zs,(G j).map AV.str=z::zs:=fun j=>by
   rw[hG]
   cases l.take k with
   | nil=>exact ⟨_,_,rfl⟩
   | cons a b=>exact ⟨_,_,rfl⟩
  obtain ⟨out,hout⟩ : ∃ out,(l.take k).map AV.str=out:=⟨_,rfl⟩
  have hol:out.length=k:=by rw[←hout]; simp; omega
  rw[hout] at hG0 ⊢
  cases out with
  | nil=>
   simp only[List.length_nil] at hol
   subst hol
   by_cases hlt:0<l.length
   ·obtain ⟨y,hy⟩:=q08 hlt
    have hy2:=q0d (g:=AV.str) hy
    have hb:=hno y hy
    (repeat' first|simp (disch:=omega) only[go_sem,hy2,hb,q0B,q0z,Ka]|(apply spl<;>intro h<;>try simp (disch:=omega) only[go_sem,h]))
    all_goals first | omega | skip
    refine q0a (α:=Nat) (fun j=>{ tmps:=q0i 52 [(0,.tsl 1 (l.map .str)),(1,.str s),(5,.sref 1 0 0 (G j).length),(6,.int .i64 j)],heap:=[.row 1 ((G j).map .str) false true 0],base:=0 }) (fun j=>j≤l.length∧0≤j) (fun j=>l.length-j) 0 (by
     have hGk:(G 0).length=0+1:=by
      have:=congrArg List.length hG0
      simp at this
      omega
     simp only[hG0,hGk]
     try rfl) ⟨hk,Kr _⟩ ?_
    rintro j ⟨hj,hkj⟩
    have hgl:=hGl j
    by_cases hlt:j<l.length
    ·obtain ⟨y,hy⟩:=q08 hlt
     have hy2:=q0d (g:=AV.str) hy
     have hgs:=hGs j y hkj hy
     have hgl2:(G (j+1)).length=(G j).length+(if y=s then 0 else 1):=by
      have:=congrArg List.length hgs
      split at this<;>simp at this<;>split<;>simp_all
     by_cases hys:y=s
     ·have hyb:(y == s)=true:=by simp [hys]
      rw[if_pos hys] at hgs hgl2
      (repeat' first|simp (disch:=omega) only[go_sem,hy2,hyb,Ka]|(apply spl<;>intro h<;>try simp (disch:=omega) only[go_sem,h]))
      all_goals first | omega | skip
      all_goals (refine ⟨j+1,?_,(by first | exact ⟨hlt,by omega⟩ | exact hlt),by omega⟩; simp only[hgs,hgl2,Kj,Vs]; try rfl)
     ·have hyb:(y == s)=false:=by simp [hys]
      rw[if_neg hys] at hgs hgl2
      (repeat' first|simp (disch:=omega) only[go_sem,hy2,hyb,Ka]|(apply spl<;>intro h<;>try simp (disch:=omega) only[go_sem,h]))
      all_goals first | omega | skip
      all_goals (refine ⟨j+1,?_,(by first | exact ⟨hlt,by omega⟩ | exact hlt),by omega⟩; simp only[hgs,hgl2]; try rfl)
    ·rw[←hGe j (by omega)]
     have hgl3:=Kz (l:=(G j).map AV.str) (i:=(G j).length) (by simp)
     (repeat' first|simp (disch:=omega) only[go_sem,Ka,hgl3]|(apply spl<;>intro h<;>try simp (disch:=omega) only[go_sem,h]))
     all_goals first | omega | skip
   ·(repeat' first|simp (disch:=omega) only[go_sem,q0B,q0z,Ka]|(apply spl<;>intro h<;>try simp (disch:=omega) only[go_sem,h]))
    all_goals first | omega | skip
    refine q0a (α:=Nat) (fun j=>{ tmps:=q0i 52 [(0,.tsl 1 (l.map .str)),(1,.str s),(5,.sref 1 0 0 (G j).length),(6,.int .i64 j)],heap:=[.row 1 ((G j).map .str) false true 0],base:=0 }) (fun j=>j≤l.length∧0≤j) (fun j=>l.length-j) 0 (by
     have hGk:(G 0).length=0+1:=by
      have:=congrArg List.length hG0
      simp at this
      omega
     simp only[hG0,hGk]
     try rfl) ⟨hk,Kr _⟩ ?_
    rintro j ⟨hj,hkj⟩
    have hgl:=hGl j
    by_cases hlt:j<l.length
    ·obtain ⟨y,hy⟩:=q08 hlt
     have hy2:=q0d (g:=AV.str) hy
     have hgs:=hGs j y hkj hy
     have hgl2:(G (j+1)).length=(G j).length+(if y=s then 0 else 1):=by
      have:=congrArg List.length hgs
      split at this<;>simp at this<;>split<;>simp_all
     by_cases hys:y=s
     ·have hyb:(y == s)=true:=by simp [hys]
      rw[if_pos hys] at hgs hgl2
      (repeat' first|simp (disch:=omega) only[go_sem,hy2,hyb,Ka]|(apply spl<;>intro h<;>try simp (disch:=omega) only[go_sem,h]))
      all_goals first | omega | skip
      all_goals (refine ⟨j+1,?_,(by first | exact ⟨hlt,by omega⟩ | exact hlt),by omega⟩; simp only[hgs,hgl2,Kj,Vs]; try rfl)
     ·have hyb:(y == s)=false:=by simp [hys]
      rw[if_neg hys] at hgs hgl2
      (repeat' first|simp (disch:=omega) only[go_sem,hy2,hyb,Ka]|(apply spl<;>intro h<;>try simp (disch:=omega) only[go_sem,h]))
      all_goals first | omega | skip
      all_goals (refine ⟨j+1,?_,(by first | exact ⟨hlt,by omega⟩ | exact hlt),by omega⟩; simp only[hgs,hgl2]; try rfl)
    ·rw[←hGe j (by omega)]
     have hgl3:=Kz (l:=(G j).map AV.str) (i:=(G j).length) (by simp)
     (repeat' first|simp (disch:=omega) only[go_sem,Ka,hgl3]|(apply spl<;>intro h<;>try simp (disch:=omega) only[go_sem,h]))
     all_goals first | omega | skip
  | cons z out=>
   simp only[List.length_cons] at hol
   subst hol
   by_cases hlt:out.length+1<l.length
   ·obtain ⟨y,hy⟩:=q08 hlt
    have hy2:=q0d (g:=AV.str) hy
    have hb:=hno y hy
    (repeat' first|simp (disch:=omega) only[go_sem,hy2,hb,q0B,q0z,Ka]|(apply spl<;>intro h<;>try simp (disch:=omega) only[go_sem,h]))
    all_goals first | omega | skip
    refine q0a (α:=Nat) (fun j=>{ tmps:=q0i 52 [(0,.tsl 1 (l.map .str)),(1,.str s),(5,.sref 1 0 0 (G j).length),(6,.int .i64 j)],heap:=[.row 1 ((G j).map .str) false true 0],base:=0 }) (fun j=>j≤l.length∧(out.length+1)≤j) (fun j=>l.length-j) (out.length+1) (by
     have hGk:(G (out.length+1)).length=(out.length+1)+1:=by
      have:=congrArg List.length hG0
      simp at this
      omega
     simp only[hG0,hGk]
     try rfl) ⟨hk,Kr _⟩ ?_
    rintro j ⟨hj,hkj⟩
    have hgl:=hGl j
    by_cases hlt:j<l.length
    ·obtain ⟨y,hy⟩:=q08 hlt
     have hy2:=q0d (g:=AV.str) hy
     have hgs:=hGs j y hkj hy
     have hgl2:(G (j+1)).length=(G j).length+(if y=s then 0 else 1):=by
      have:=congrArg List.length hgs
      split at this<;>simp at this<;>split<;>simp_all
     by_cases hys:y=s
     ·have hyb:(y == s)=true:=by simp [hys]
      rw[if_pos hys] at hgs hgl2
      (repeat' first|simp (disch:=omega) only[go_sem,hy2,hyb,Ka]|(apply spl<;>intro h<;>try simp (disch:=omega) only[go_sem,h]))
      all_goals first | omega | skip
      all_goals (refine ⟨j+1,?_,(by first | exact ⟨hlt,by omega⟩ | exact hlt),by omega⟩; simp only[hgs,hgl2,Kj,Vs]; try rfl)
     ·have hyb:(y == s)=false:=by simp [hys]
      rw[if_neg hys] at hgs hgl2
      (repeat' first|simp (disch:=omega) only[go_sem,hy2,hyb,Ka]|(apply spl<;>intro h<;>try simp (disch:=omega) only[go_sem,h]))
      all_goals first | omega | skip
      all_goals (refine ⟨j+1,?_,(by first | exact ⟨hlt,by omega⟩ | exact hlt),by omega⟩; simp only[hgs,hgl2]; try rfl)
    ·rw[←hGe j (by omega)]
     have hgl3:=Kz (l:=(G j).map AV.str) (i:=(G j).length) (by simp)
     (repeat' first|simp (disch:=omega) only[go_sem,Ka,hgl3]|(apply spl<;>intro h<;>try simp (disch:=omega) only[go_sem,h]))
     all_goals first | omega | skip
   ·(repeat' first|simp (disch:=omega) only[go_sem,q0B,q0z,Ka]|(apply spl<;>intro h<;>try simp (disch:=omega) only[go_sem,h]))
    all_goals first | omega | skip
    refine q0a (α:=Nat) (fun j=>{ tmps:=q0i 52 [(0,.tsl 1 (l.map .str)),(1,.str s),(5,.sref 1 0 0 (G j).length),(6,.int .i64 j)],heap:=[.row 1 ((G j).map .str) false true 0],base:=0 }) (fun j=>j≤l.length∧(out.length+1)≤j) (fun j=>l.length-j) (out.length+1) (by
     have hGk:(G (out.length+1)).length=(out.length+1)+1:=by
      have:=congrArg List.length hG0
      simp at this
      omega
     simp only[hG0,hGk]
     try rfl) ⟨hk,Kr _⟩ ?_
    rintro j ⟨hj,hkj⟩
    have hgl:=hGl j
    by_cases hlt:j<l.length
    ·obtain ⟨y,hy⟩:=q08 hlt
     have hy2:=q0d (g:=AV.str) hy
     have hgs:=hGs j y hkj hy
     have hgl2:(G (j+1)).length=(G j).length+(if y=s then 0 else 1):=by
      have:=congrArg List.length hgs
      split at this<;>simp at this<;>split<;>simp_all
     by_cases hys:y=s
     ·have hyb:(y == s)=true:=by simp [hys]
      rw[if_pos hys] at hgs hgl2
      (repeat' first|simp (disch:=omega) only[go_sem,hy2,hyb,Ka]|(apply spl<;>intro h<;>try simp (disch:=omega) only[go_sem,h]))
      all_goals first | omega | skip
      all_goals (refine ⟨j+1,?_,(by first | exact ⟨hlt,by omega⟩ | exact hlt),by omega⟩; simp only[hgs,hgl2,Kj,Vs]; try rfl)
     ·have hyb:(y == s)=false:=by simp [hys]
      rw[if_neg hys] at hgs hgl2
      (repeat' first|simp (disch:=omega) only[go_sem,hy2,hyb,Ka]|(apply spl<;>intro h<;>try simp (disch:=omega) only[go_sem,h]))
      all_goals first | omega | skip
      all_goals (refine ⟨j+1,?_,(by first | exact ⟨hlt,by omega⟩ | exact hlt),by omega⟩; simp only[hgs,hgl2]; try rfl)
    ·rw[←hGe j (by omega)]
     have hgl3:=Kz (l:=(G j).map AV.str) (i:=(G j).length) (by simp)
     (repeat' first|simp (disch:=omega) only[go_sem,Ka,hgl3]|(apply spl<;>intro h<;>try simp (disch:=omega) only[go_sem,h]))
     all_goals first | omega | skip
end Ago
set_option maxRecDepth 100000
set_option maxHeartbeats 4000000
namespace Ago
open Go (IntKind)
open Go.Op (bytesLess)
theorem qaN (l:List (List UInt8)) (s:List UInt8):(q0G l s).length≤l.length+1:=by
 unfold q0G
 have h1:(l.takeWhile (fun x=>bytesLess x s)).length+(l.dropWhile (fun x=>bytesLess x s)).length=l.length:=by
  rw[←Kb,List.takeWhile_append_dropWhile]
 have h2:=List.length_filter_le (fun x=>!(x == s)) (l.dropWhile fun x=>bytesLess x s)
 simp only[Kb,List.length_cons]
 omega
theorem q7u (l:List (List UInt8)) (s:List UInt8):q0G l s≠[]:=by
 unfold q0G
 simp
theorem q61 : ∀ (m out:List (List UInt8)),(m.foldl q0G out).length≤out.length+m.length
 | [],out=>by simp
 | s::m,out=>by
  have:=q61 m (q0G out s)
  have:=qaN out s
  simp only[Vz,List.length_cons]
  omega
def q1E (o:Bool):Nat→Sch→List (List UInt8)
 | 0,_=>[]
 | d+1,x=>if o=true∧(x.s.op=9∨x.s.op=10) then (if x.s.op=14 then q0G [] x.s.name else []) else x.kids.foldl (fun out y=>(q1E o d y).foldl q0G out) (if x.s.op=14 then q0G [] x.s.name else [])
theorem q6S (o:Bool) (x:Sch):q1E o 0 x=[]:=(rfl)
theorem q6L (o:Bool) (d:Nat) (x:Sch):q1E o (d+1) x=if o=true∧(x.s.op=9∨x.s.op=10) then (if x.s.op=14 then q0G [] x.s.name else []) else x.kids.foldl (fun out y=>(q1E o d y).foldl q0G out) (if x.s.op=14 then q0G [] x.s.name else []):=(rfl)
theorem qah (o:Bool) (d:Nat) (h : ∀ y,(q1E o d y).length≤q3u d y) : ∀ (l:List Sch) (out:List (List UInt8)),(l.foldl (fun out y=>(q1E o d y).foldl q0G out) out).length≤out.length+(l.map (q3u d)).sum
 | [],out=>by simp
 | y::l,out=>by
  have h1:=qah o d h l ((q1E o d y).foldl q0G out)
  have h2:=q61 (q1E o d y) out
  have h3:=h y
  simp only[Vz,Kd,List.sum_cons]
  omega
theorem q3r (o:Bool) : ∀ (d:Nat) (x:Sch),(q1E o d x).length≤q3u d x
 | 0,x=>by simp [q6S]
 | d+1,x=>by
  rw[q6L,q2q]
  have h1:(if x.s.op=14 then q0G [] x.s.name else []).length≤1:=by
   split
   ·exact qaN _ _
   ·simp
  have h2:=qah o d (q3r o d) x.kids (if x.s.op=14 then q0G [] x.s.name else [])
  split
  ·omega
  ·omega
def q4e (l:List (List UInt8)):AV:=if l=[] then .snil 1 else .tsl 1 (l.map .str)
theorem qeS (o:Bool) : ∀ (d:Nat) (D:Int),D=d→d<2^30→∀ x:Sch,x.bulk≤2^24→q0m CS 512 [q06 x,.int .i64 D,.bool o] (.tsl 1 ((q1E o d x).map .str)):=by
 intro d
 induction d with
 | zero=>
  intro D hD hd x hx
  refine q05 q8X rfl ?_
  rw[q02,q6S]
  (repeat' first|simp (disch:=omega) only[go_sem,q8X,enter,Ka]|(apply spl<;>intro h<;>try simp (disch:=omega) only[go_sem,h]))
  all_goals omega
 | succ d ih=>
  intro D hD hd x hx
  have L:=Sch.lens hx
  have hp:=q36 x hx
  have hkl:=q47 x
  have hw0:=q5Y [] x.s.name (by simp)
  rw[q6L]
  obtain ⟨F,hF⟩ : ∃ F:Nat→List (List UInt8),∀ k,F k=(x.kids.take k).foldl (fun out y=>(q1E o d y).foldl q0G out) (if x.s.op=14 then q0G [] x.s.name else []):=⟨_,fun _=>rfl⟩
  have hF0:F 0=if x.s.op=14 then q0G [] x.s.name else []:=by rw[hF]; rfl
  have hFs : ∀ k y,x.kids[k]?=some y→F (k+1)=(q1E o d y).foldl q0G (F k):=fun k y hy=>by
   rw[hF,hF,KD,hy]
   simp
  have hFe : ∀ k,x.kids.length≤k→F k=x.kids.foldl (fun out y=>(q1E o d y).foldl q0G out) (if x.s.op=14 then q0G [] x.s.name else []):=fun k hk=>by rw[hF,Kz hk]
  have hFl : ∀ k,k≤x.kids.length→(F k).length≤2^25:=fun k hk=>by
   rw[hF]
   have h1:(if x.s.op=14 then q0G [] x.s.name else []).length≤1:=by
    split
    ·exact qaN _ _
    ·simp
   have h2:=qah o d (q3r o d) (x.kids.take k) (if x.s.op=14 then q0G [] x.s.name else [])
   have h3:=q2i (q3u d) x.kids k
   have h4:=q2o (d+1) x
   rw[q2q] at h4
   omega
  by_cases h14:x.s.op=14
  ·rw[if_neg (by omega : ¬ (o=true∧(x.s.op=9∨x.s.op=10)))]
   rw[if_pos h14] at hF0
   have hne:=q7u [] x.s.name
   have hn0:q4e (F 0) = .tsl 1 ((q0G [] x.s.name).map .str):=by
    rw[hF0]
    unfold q4e
    rw[if_neg hne]
   rw[q02] at hp ⊢
   refine q05 q8X rfl ?_
   cases o with
   | true=>
    (repeat' first|simp (disch:=omega) only[go_sem,q8X,enter,Ka]|refine q00 _ (hp) ?_|refine q00 _ (hw0) ?_|(apply spl<;>intro h<;>try simp (disch:=omega) only[go_sem,h]))
    all_goals first | omega | skip
    refine q0a (α:=Nat) (fun k=>{ tmps:=q0i 63 [(1,.int .i64 D),(2,.bool true),(7,q4e (F k)),(8,.tsl 15 (x.kids.map q06)),(9,.int .i64 k)],heap:=[],base:=0 }) (fun k=>k≤x.kids.length) (fun k=>x.kids.length-k) 0 (by simp only[hn0]; rfl) (Kn _) ?_
    rintro k hk
    obtain ⟨out,hout⟩ : ∃ out,F k=out:=⟨_,rfl⟩
    have hol:=hFl k hk
    rw[hout] at hol
    by_cases hlt:k<x.kids.length
    ·obtain ⟨y,hy⟩:=q08 hlt
     have hym:=Kc hy
     have hy2:=q0d (g:=q06) hy
     have hyb:y.bulk≤2^24:=by have:=Sch.kids_bulk hym; omega
     have hr:=ih (D-1) (by omega) (by omega) y hyb
     have hFs:=hFs k y hy
     have hml:=q3r true d y
     have hcy:=q2o d y
     obtain ⟨m,hm⟩ : ∃ m,q1E true d y=m:=⟨_,rfl⟩
     rw[hm] at hr hml
     rw[hm,hout] at hFs
     rw[q02] at hy2 hr
     simp only[hout]
     (repeat' first|simp (disch:=omega) only[go_sem,hy2,Ka]|refine q00 _ (hr) ?_|(apply spl<;>intro h<;>try simp (disch:=omega) only[go_sem,h]))
     all_goals first | omega | skip
     refine q0a (α:=Nat) (fun j=>{ tmps:=q0i 63 [(1,.int .i64 D),(2,.bool true),(7,q4e ((m.take j).foldl q0G out)),(8,.tsl 15 (x.kids.map q06)),(9,.int .i64 k),(10,.tsl 1 (m.map .str)),(11,.int .i64 j)],heap:=[],base:=0 }) (fun j=>j≤m.length) (fun j=>m.length-j) 0 (by
      have e:(m.take 0).foldl q0G out=out:=by simp
      simp only[e,q4e]
      split<;>rfl) (Kn _) ?_
     intro j hj
     have hfl:=q61 (m.take j) out
     have htl:(m.take j).length≤m.length:=by simp only[KI]; omega
     by_cases hlt2:j<m.length
     ·obtain ⟨s,hs⟩:=q08 hlt2
      have hs2:=q0d (g:=AV.str) hs
      have hfs:(m.take (j+1)).foldl q0G out=q0G ((m.take j).foldl q0G out) s:=by
       rw[KD,hs]
       simp
      obtain ⟨cur,hcur⟩ : ∃ cur,(m.take j).foldl q0G out=cur:=⟨_,rfl⟩
      rw[hcur] at hfs hfl
      have hw:=q5Y cur s (by omega)
      have hne:=q7u cur s
      have hnT:q4e ((m.take (j+1)).foldl q0G out) = .tsl 1 ((q0G cur s).map .str):=by
       rw[hfs]
       unfold q4e
       rw[if_neg hne]
      simp only[hcur]
      cases cur with
      | nil=>
       have e1:q4e [] = .snil 1:=rfl
       (repeat' first|simp (disch:=omega) only[go_sem,hs2,Ka,e1]|refine q00 _ (hw) ?_|(apply spl<;>intro h<;>try simp (disch:=omega) only[go_sem,h]))
       all_goals first | omega | skip
       refine ⟨j+1,?_,hlt2,by omega⟩
       simp only[hnT]
       rfl
      | cons z zs=>
       have e1:q4e (z::zs) = .tsl 1 ((z::zs).map .str):=rfl
       rw[←e1] at hw
       have e2:q4e (z::zs) = .tsl 1 (AV.str z::zs.map .str):=rfl
       rw[e2] at hw
       (repeat' first|simp (disch:=omega) only[go_sem,hs2,Ka,e2]|refine q00 _ (hw) ?_|(apply spl<;>intro h<;>try simp (disch:=omega) only[go_sem,h]))
       all_goals first | omega | skip
       refine ⟨j+1,?_,hlt2,by omega⟩
       simp only[hnT]
       rfl
     ·have hjl:m.take j=m:=Kz (by omega)
      simp only[hjl]
      (repeat' first|simp (disch:=omega) only[go_sem,Ka]|(apply spl<;>intro h<;>try simp (disch:=omega) only[go_sem,h]))
      all_goals first | omega | skip
      refine ⟨k+1,?_,hlt,by omega⟩
      simp only[hFs]
      unfold q4e
      split<;>rfl
    ·have hfe:=hFe k (by omega)
     rw[hout] at hfe
     rw[←hfe]
     simp only[hout]
     cases out with
     | nil=>
      have e1:q4e [] = .snil 1:=rfl
      (repeat' first|simp (disch:=omega) only[go_sem,Ka,e1]|(apply spl<;>intro h<;>try simp (disch:=omega) only[go_sem,h]))
      all_goals first | omega | skip
     | cons z zs=>
      have e2:q4e (z::zs) = .tsl 1 (AV.str z::zs.map .str):=rfl
      (repeat' first|simp (disch:=omega) only[go_sem,Ka,e2]|(apply spl<;>intro h<;>try simp (disch:=omega) only[go_sem,h]))
      all_goals first | omega | skip
   | false=>
    (repeat' first|simp (disch:=omega) only[go_sem,q8X,enter,Ka]|refine q00 _ (hp) ?_|refine q00 _ (hw0) ?_|(apply spl<;>intro h<;>try simp (disch:=omega) only[go_sem,h]))
    all_goals first | omega | skip
    refine q0a (α:=Nat) (fun k=>{ tmps:=q0i 63 [(1,.int .i64 D),(2,.bool false),(7,q4e (F k)),(8,.tsl 15 (x.kids.map q06)),(9,.int .i64 k)],heap:=[],base:=0 }) (fun k=>k≤x.kids.length) (fun k=>x.kids.length-k) 0 (by simp only[hn0]; rfl) (Kn _) ?_
    rintro k hk
    obtain ⟨out,hout⟩ : ∃ out,F k=out:=⟨_,rfl⟩
    have hol:=hFl k hk
    rw[hout] at hol
    by_cases hlt:k<x.kids.length
    ·obtain ⟨y,hy⟩:=q08 hlt
     have hym:=Kc hy
     have hy2:=q0d (g:=q06) hy
     have hyb:y.bulk≤2^24:=by have:=Sch.kids_bulk hym; omega
     have hr:=ih (D-1) (by omega) (by omega) y hyb
     have hFs:=hFs k y hy
     have hml:=q3r false d y
     have hcy:=q2o d y
     obtain ⟨m,hm⟩ : ∃ m,q1E false d y=m:=⟨_,rfl⟩
     rw[hm] at hr hml
     rw[hm,hout] at hFs
     rw[q02] at hy2 hr
     simp only[hout]
     (repeat' first|simp (disch:=omega) only[go_sem,hy2,Ka]|refine q00 _ (hr) ?_|(apply spl<;>intro h<;>try simp (disch:=omega) only[go_sem,h]))
     all_goals first | omega | skip
     refine q0a (α:=Nat) (fun j=>{ tmps:=q0i 63 [(1,.int .i64 D),(2,.bool false),(7,q4e ((m.take j).foldl q0G out)),(8,.tsl 15 (x.kids.map q06)),(9,.int .i64 k),(10,.tsl 1 (m.map .str)),(11,.int .i64 j)],heap:=[],base:=0 }) (fun j=>j≤m.length) (fun j=>m.length-j) 0 (by
      have e:(m.take 0).foldl q0G out=out:=by simp
      simp only[e,q4e]
      split<;>rfl) (Kn _) ?_
     intro j hj
     have hfl:=q61 (m.take j) out
     have htl:(m.take j).length≤m.length:=by simp only[KI]; omega
     by_cases hlt2:j<m.length
     ·obtain ⟨s,hs⟩:=q08 hlt2
      have hs2:=q0d (g:=AV.str) hs
      have hfs:(m.take (j+1)).foldl q0G out=q0G ((m.take j).foldl q0G out) s:=by
       rw[KD,hs]
       simp
      obtain ⟨cur,hcur⟩ : ∃ cur,(m.take j).foldl q0G out=cur:=⟨_,rfl⟩
      rw[hcur] at hfs hfl
      have hw:=q5Y cur s (by omega)
      have hne:=q7u cur s
      have hnT:q4e ((m.take (j+1)).foldl q0G out) = .tsl 1 ((q0G cur s).map .str):=by
       rw[hfs]
       unfold q4e
       rw[if_neg hne]
      simp only[hcur]
      cases cur with
      | nil=>
       have e1:q4e [] = .snil 1:=rfl
       (repeat' first|simp (disch:=omega) only[go_sem,hs2,Ka,e1]|refine q00 _ (hw) ?_|(apply spl<;>intro h<;>try simp (disch:=omega) only[go_sem,h]))
       all_goals first | omega | skip
       refine ⟨j+1,?_,hlt2,by omega⟩
       simp only[hnT]
       rfl
      | cons z zs=>
       have e1:q4e (z::zs) = .tsl 1 ((z::zs).map .str):=rfl
       rw[←e1] at hw
       have e2:q4e (z::zs) = .tsl 1 (AV.str z::zs.map .str):=rfl
       rw[e2] at hw
       (repeat' first|simp (disch:=omega) only[go_sem,hs2,Ka,e2]|refine q00 _ (hw) ?_|(apply spl<;>intro h<;>try simp (disch:=omega) only[go_sem,h]))
       all_goals first | omega | skip
       refine ⟨j+1,?_,hlt2,by omega⟩
       simp only[hnT]
       rfl
     ·have hjl:m.take j=m:=Kz (by omega)
      simp only[hjl]
      (repeat' first|simp (disch:=omega) only[go_sem,Ka]|(apply spl<;>intro h<;>try simp (disch:=omega) only[go_sem,h]))
      all_goals first | omega | skip
      refine ⟨k+1,?_,hlt,by omega⟩
      simp only[hFs]
      unfold q4e
      split<;>rfl
    ·have hfe:=hFe k (by omega)
     rw[hout] at hfe
     rw[←hfe]
     simp only[hout]
     cases out with
     | nil=>
      have e1:q4e [] = .snil 1:=rfl
      (repeat' first|simp (disch:=omega) only[go_sem,Ka,e1]|(apply spl<;>intro h<;>try simp (disch:=omega) only[go_sem,h]))
      all_goals first | omega | skip
     | cons z zs=>
      have e2:q4e (z::zs) = .tsl 1 (AV.str z::zs.map .str):=rfl
      (repeat' first|simp (disch:=omega) only[go_sem,Ka,e2]|(apply spl<;>intro h<;>try simp (disch:=omega) only[go_sem,h]))
      all_goals first | omega | skip
  ·rw[if_neg h14] at hF0
   have hn0:q4e (F 0) = .snil 1:=by
    rw[hF0]
    rfl
   by_cases ho:o=true∧(x.s.op=9∨x.s.op=10)
   ·rw[if_pos ho,if_neg h14]
    obtain ⟨rfl,ho⟩:=ho
    rw[q02]
    refine q05 q8X rfl ?_
    (repeat' first|simp (disch:=omega) only[go_sem,q8X,enter,Ka]|(apply spl<;>intro h<;>try simp (disch:=omega) only[go_sem,h]))
    all_goals first | omega | skip
   rw[if_neg ho]
   have hno:o=true→¬ x.s.op=9∧¬ x.s.op=10:=fun h=>⟨fun h2=>ho ⟨h,by omega⟩,fun h2=>ho ⟨h,by omega⟩⟩
   rw[q02] at hp ⊢
   refine q05 q8X rfl ?_
   cases o with
   | true=>
    obtain ⟨h9,h10⟩:=hno rfl
    (repeat' first|simp (disch:=omega) only[go_sem,q8X,enter,Ka]|refine q00 _ (hp) ?_|(apply spl<;>intro h<;>try simp (disch:=omega) only[go_sem,h]))
    all_goals first | omega | skip
    refine q0a (α:=Nat) (fun k=>{ tmps:=q0i 63 [(1,.int .i64 D),(2,.bool true),(7,q4e (F k)),(8,.tsl 15 (x.kids.map q06)),(9,.int .i64 k)],heap:=[],base:=0 }) (fun k=>k≤x.kids.length) (fun k=>x.kids.length-k) 0 (by simp only[hn0]; rfl) (Kn _) ?_
    rintro k hk
    obtain ⟨out,hout⟩ : ∃ out,F k=out:=⟨_,rfl⟩
    have hol:=hFl k hk
    rw[hout] at hol
    by_cases hlt:k<x.kids.length
    ·obtain ⟨y,hy⟩:=q08 hlt
     have hym:=Kc hy
     have hy2:=q0d (g:=q06) hy
     have hyb:y.bulk≤2^24:=by have:=Sch.kids_bulk hym; omega
     have hr:=ih (D-1) (by omega) (by omega) y hyb
     have hFs:=hFs k y hy
     have hml:=q3r true d y
     have hcy:=q2o d y
     obtain ⟨m,hm⟩ : ∃ m,q1E true d y=m:=⟨_,rfl⟩
     rw[hm] at hr hml
     rw[hm,hout] at hFs
     rw[q02] at hy2 hr
     simp only[hout]
     (repeat' first|simp (disch:=omega) only[go_sem,hy2,Ka]|refine q00 _ (hr) ?_|(apply spl<;>intro h<;>try simp (disch:=omega) only[go_sem,h]))
     all_goals first | omega | skip
     refine q0a (α:=Nat) (fun j=>{ tmps:=q0i 63 [(1,.int .i64 D),(2,.bool true),(7,q4e ((m.take j).foldl q0G out)),(8,.tsl 15 (x.kids.map q06)),(9,.int .i64 k),(10,.tsl 1 (m.map .str)),(11,.int .i64 j)],heap:=[],base:=0 }) (fun j=>j≤m.length) (fun j=>m.length-j) 0 (by
      have e:(m.take 0).foldl q0G out=out:=by simp
      simp only[e,q4e]
      split<;>rfl) (Kn _) ?_
     intro j hj
     have hfl:=q61 (m.take j) out
     have htl:(m.take j).length≤m.length:=by simp only[KI]; omega
     by_cases hlt2:j<m.length
     ·obtain ⟨s,hs⟩:=q08 hlt2
      have hs2:=q0d (g:=AV.str) hs
      have hfs:(m.take (j+1)).foldl q0G out=q0G ((m.take j).foldl q0G out) s:=by
       rw[KD,hs]
       simp
      obtain ⟨cur,hcur⟩ : ∃ cur,(m.take j).foldl q0G out=cur:=⟨_,rfl⟩
      rw[hcur] at hfs hfl
      have hw:=q5Y cur s (by omega)
      have hne:=q7u cur s
      have hnT:q4e ((m.take (j+1)).foldl q0G out) = .tsl 1 ((q0G cur s).map .str):=by
       rw[hfs]
       unfold q4e
       rw[if_neg hne]
      simp only[hcur]
      cases cur with
      | nil=>
       have e1:q4e [] = .snil 1:=rfl
       (repeat' first|simp (disch:=omega) only[go_sem,hs2,Ka,e1]|refine q00 _ (hw) ?_|(apply spl<;>intro h<;>try simp (disch:=omega) only[go_sem,h]))
       all_goals first | omega | skip
       refine ⟨j+1,?_,hlt2,by omega⟩
       simp only[hnT]
       rfl
      | cons z zs=>
       have e1:q4e (z::zs) = .tsl 1 ((z::zs).map .str):=rfl
       rw[←e1] at hw
       have e2:q4e (z::zs) = .tsl 1 (AV.str z::zs.map .str):=rfl
       rw[e2] at hw
       (repeat' first|simp (disch:=omega) only[go_sem,hs2,Ka,e2]|refine q00 _ (hw) ?_|(apply spl<;>intro h<;>try simp (disch:=omega) only[go_sem,h]))
       all_goals first | omega | skip
       refine ⟨j+1,?_,hlt2,by omega⟩
       simp only[hnT]
       rfl
     ·have hjl:m.take j=m:=Kz (by omega)
      simp only[hjl]
      (repeat' first|simp (disch:=omega) only[go_sem,Ka]|(apply spl<;>intro h<;>try simp (disch:=omega) only[go_sem,h]))
      all_goals first | omega | skip
      refine ⟨k+1,?_,hlt,by omega⟩
      simp only[hFs]
      unfold q4e
      split<;>rfl
    ·have hfe:=hFe k (by omega)
     rw[hout] at hfe
     rw[←hfe]
     simp only[hout]
     cases out with
     | nil=>
      have e1:q4e [] = .snil 1:=rfl
      (repeat' first|simp (disch:=omega) only[go_sem,Ka,e1]|(apply spl<;>intro h<;>try simp (disch:=omega) only[go_sem,h]))
      all_goals first | omega | skip
     | cons z zs=>
      have e2:q4e (z::zs) = .tsl 1 (AV.str z::zs.map .str):=rfl
      (repeat' first|simp (disch:=omega) only[go_sem,Ka,e2]|(apply spl<;>intro h<;>try simp (disch:=omega) only[go_sem,h]))
      all_goals first | omega | skip
   | false=>
    (repeat' first|simp (disch:=omega) only[go_sem,q8X,enter,Ka]|refine q00 _ (hp) ?_|(apply spl<;>intro h<;>try simp (disch:=omega) only[go_sem,h]))
    all_goals first | omega | skip
    refine q0a (α:=Nat) (fun k=>{ tmps:=q0i 63 [(1,.int .i64 D),(2,.bool false),(7,q4e (F k)),(8,.tsl 15 (x.kids.map q06)),(9,.int .i64 k)],heap:=[],base:=0 }) (fun k=>k≤x.kids.length) (fun k=>x.kids.length-k) 0 (by simp only[hn0]; rfl) (Kn _) ?_
    rintro k hk
    obtain ⟨out,hout⟩ : ∃ out,F k=out:=⟨_,rfl⟩
    have hol:=hFl k hk
    rw[hout] at hol
    by_cases hlt:k<x.kids.length
    ·obtain ⟨y,hy⟩:=q08 hlt
     have hym:=Kc hy
     have hy2:=q0d (g:=q06) hy
     have hyb:y.bulk≤2^24:=by have:=Sch.kids_bulk hym; omega
     have hr:=ih (D-1) (by omega) (by omega) y hyb
     have hFs:=hFs k y hy
     have hml:=q3r false d y
     have hcy:=q2o d y
     obtain ⟨m,hm⟩ : ∃ m,q1E false d y=m:=⟨_,rfl⟩
     rw[hm] at hr hml
     rw[hm,hout] at hFs
     rw[q02] at hy2 hr
     simp only[hout]
     (repeat' first|simp (disch:=omega) only[go_sem,hy2,Ka]|refine q00 _ (hr) ?_|(apply spl<;>intro h<;>try simp (disch:=omega) only[go_sem,h]))
     all_goals first | omega | skip
     refine q0a (α:=Nat) (fun j=>{ tmps:=q0i 63 [(1,.int .i64 D),(2,.bool false),(7,q4e ((m.take j).foldl q0G out)),(8,.tsl 15 (x.kids.map q06)),(9,.int .i64 k),(10,.tsl 1 (m.map .str)),(11,.int .i64 j)],heap:=[],base:=0 }) (fun j=>j≤m.length) (fun j=>m.length-j) 0 (by
      have e:(m.take 0).foldl q0G out=out:=by simp
      simp only[e,q4e]
      split<;>rfl) (Kn _) ?_
     intro j hj
     have hfl:=q61 (m.take j) out
     have htl:(m.take j).length≤m.length:=by simp only[KI]; omega
     by_cases hlt2:j<m.length
     ·obtain ⟨s,hs⟩:=q08 hlt2
      have hs2:=q0d (g:=AV.str) hs
      have hfs:(m.take (j+1)).foldl q0G out=q0G ((m.take j).foldl q0G out) s:=by
       rw[KD,hs]
       simp
      obtain ⟨cur,hcur⟩ : ∃ cur,(m.take j).foldl q0G out=cur:=⟨_,rfl⟩
      rw[hcur] at hfs hfl
      have hw:=q5Y cur s (by omega)
      have hne:=q7u cur s
      have hnT:q4e ((m.take (j+1)).foldl q0G out) = .tsl 1 ((q0G cur s).map .str):=by
       rw[hfs]
       unfold q4e
       rw[if_neg hne]
      simp only[hcur]
      cases cur with
      | nil=>
       have e1:q4e [] = .snil 1:=rfl
       (repeat' first|simp (disch:=omega) only[go_sem,hs2,Ka,e1]|refine q00 _ (hw) ?_|(apply spl<;>intro h<;>try simp (disch:=omega) only[go_sem,h]))
       all_goals first | omega | skip
       refine ⟨j+1,?_,hlt2,by omega⟩
       simp only[hnT]
       rfl
      | cons z zs=>
       have e1:q4e (z::zs) = .tsl 1 ((z::zs).map .str):=rfl
       rw[←e1] at hw
       have e2:q4e (z::zs) = .tsl 1 (AV.str z::zs.map .str):=rfl
       rw[e2] at hw
       (repeat' first|simp (disch:=omega) only[go_sem,hs2,Ka,e2]|refine q00 _ (hw) ?_|(apply spl<;>intro h<;>try simp (disch:=omega) only[go_sem,h]))
       all_goals first | omega | skip
       refine ⟨j+1,?_,hlt2,by omega⟩
       simp only[hnT]
       rfl
     ·have hjl:m.take j=m:=Kz (by omega)
      simp only[hjl]
      (repeat' first|simp (disch:=omega) only[go_sem,Ka]|(apply spl<;>intro h<;>try simp (disch:=omega) only[go_sem,h]))
      all_goals first | omega | skip
      refine ⟨k+1,?_,hlt,by omega⟩
      simp only[hFs]
      unfold q4e
      split<;>rfl
    ·have hfe:=hFe k (by omega)
     rw[hout] at hfe
     rw[←hfe]
     simp only[hout]
     cases out with
     | nil=>
      have e1:q4e [] = .snil 1:=rfl
      (repeat' first|simp (disch:=omega) only[go_sem,Ka,e1]|(apply spl<;>intro h<;>try simp (disch:=omega) only[go_sem,h]))
      all_goals first | omega | skip
     | cons z zs=>
      have e2:q4e (z::zs) = .tsl 1 (AV.str z::zs.map .str):=rfl
      (repeat' first|simp (disch:=omega) only[go_sem,Ka,e2]|(apply spl<;>intro h<;>try simp (disch:=omega) only[go_sem,h]))
      all_goals first | omega | skip
end Ago
set_option maxRecDepth 100000
set_option maxHeartbeats 4000000
namespace Ago
open Go (IntKind)
def R1 (ss:List (List UInt8)):Blk:=.row 1 (ss.map .str) false true 1
end Ago
set_option maxRecDepth 100000
set_option maxHeartbeats 4000000
namespace Ago
open Go (IntKind)
open Go.Op (bytesLess)
theorem qjm : ∀ a b:List UInt8,bytesLess a b=true↔a<b
 | [],[]=>by simp [bytesLess]
 | [],_::_=>by simp [bytesLess]
 | _::_,[]=>by simp [bytesLess]
 | a::x,b::y=>by
  have:=qjm x y
  simp only[bytesLess,K6,decide_eq_true_eq,Kk,beq_iff_eq,List.cons_lt_cons_iff,this]
theorem qew {a b c:List UInt8} (h1:a<b) (h2:b<c):a<c:=List.lt_trans h1 h2
theorem qsn (a:List UInt8) : ¬ a<a:=List.lt_irrefl a
theorem tri {a b:List UInt8} (h1 : ¬ a<b) (h2 : ¬ b<a):a=b:=List.le_antisymm (List.not_lt.1 h2) (List.not_lt.1 h1)
def Asc (l:List (List UInt8)):Prop:=l.Pairwise (· < ·)
theorem qe5 (l:List (List UInt8)) (s x:List UInt8):x∈q0G l s↔x=s∨x∈l:=by
 have hl:x∈l↔x∈l.takeWhile (fun y=>bytesLess y s)∨x∈l.dropWhile (fun y=>bytesLess y s):=by
  rw[←Kv,List.takeWhile_append_dropWhile]
 unfold q0G
 rw[hl]
 simp only[Kv,KA,V4,Bool.not_eq_true',beq_eq_false_iff_ne]
 constructor
 ·rintro (h | h | ⟨h,_⟩)
  ·exact .inr (.inl h)
  ·exact .inl h
  ·exact .inr (.inr h)
 ·rintro (h | h | h)
  ·exact .inr (.inl h)
  ·exact .inl h
  ·by_cases e:x=s
   ·exact .inr (.inl e)
   ·exact .inr (.inr ⟨h,e⟩)
theorem q7z {α:Type} {p:α→Bool} : ∀ {l:List α} {x:α},x∈l.takeWhile p→p x=true
 | y::l,x,h=>by
  by_cases hy:p y=true
  ·rw[List.takeWhile_cons_of_pos hy] at h
   rcases KA.1 h with rfl | h
   ·exact hy
   ·exact q7z h
  ·rw[List.takeWhile_cons_of_neg hy] at h
   cases h
theorem qd8 {s:List UInt8} : ∀ {l:List (List UInt8)},Asc l→∀ x,x∈l.dropWhile (fun y=>bytesLess y s)→¬ x<s
 | y::l,ha,x,h=>by
  have ha':=List.pairwise_cons.1 ha
  by_cases hy:bytesLess y s=true
  ·rw[List.dropWhile_cons_of_pos (p:=fun y=>bytesLess y s) hy] at h
   exact qd8 ha'.2 x h
  ·rw[List.dropWhile_cons_of_neg (p:=fun y=>bytesLess y s) hy] at h
   have hy2 : ¬ y<s:=fun e=>hy ((qjm _ _).2 e)
   rcases KA.1 h with rfl | h
   ·exact hy2
   ·exact fun e=>hy2 (qew (ha'.1 x h) e)
theorem qep {l:List (List UInt8)} {s:List UInt8} (h:Asc l):Asc (q0G l s):=by
 unfold q0G Asc
 rw[List.pairwise_append]
 refine ⟨List.Pairwise.sublist (List.takeWhile_sublist _) h,?_,fun a ha b hb=>?_⟩
 ·rw[List.pairwise_cons]
  refine ⟨fun b hb=>?_,?_⟩
  ·obtain ⟨h1,h2⟩:=V4.1 hb
   have h3 : ¬ b=s:=by simpa using h2
   have h4:=qd8 h b h1
   rcases Classical.em (s<b) with h5 | h5
   ·exact h5
   ·exact (h3 (tri h4 h5)).elim
  ·exact List.Pairwise.sublist (List.Sublist.trans List.filter_sublist (List.dropWhile_sublist _)) h
 ·have h1:a<s:=(qjm _ _).1 (q7z (p:=fun x=>bytesLess x s) ha)
  rcases KA.1 hb with rfl | hb
  ·exact h1
  ·obtain ⟨h2,h3⟩:=V4.1 hb
   have h3 : ¬ b=s:=by simpa using h3
   have h4:=qd8 h b h2
   rcases Classical.em (s<b) with h5 | h5
   ·exact qew h1 h5
   ·exact (h3 (tri h4 h5)).elim
theorem q7M : ∀ (m out:List (List UInt8)),Asc out→Asc (m.foldl q0G out)∧∀ x,x∈m.foldl q0G out↔x∈out∨x∈m
 | [],out,h=>⟨h,fun x=>by simp⟩
 | s::m,out,h=>by
  obtain ⟨h1,h2⟩:=q7M m (q0G out s) (qep h)
  refine ⟨h1,fun x=>?_⟩
  rw[Vz,h2,qe5,KA]
  constructor
  ·rintro ((h | h) | h)
   ·exact .inr (.inl h)
   ·exact .inl h
   ·exact .inr (.inr h)
  ·rintro (h | h | h)
   ·exact .inl (.inr h)
   ·exact .inl (.inl h)
   ·exact .inr h
theorem qeE {f g:Sch→List (List UInt8)} (h : ∀ y,Asc (f y)∧∀ x,x∈f y↔x∈g y) : ∀ (l:List Sch) (out:List (List UInt8)),Asc out→Asc (l.foldl (fun out y=>(f y).foldl q0G out) out)∧∀ x,x∈l.foldl (fun out y=>(f y).foldl q0G out) out↔x∈out∨x∈l.flatMap g
 | [],out,ho=>⟨ho,fun x=>by simp⟩
 | y::l,out,ho=>by
  obtain ⟨k1,k2⟩:=q7M (f y) out ho
  obtain ⟨h1,h2⟩:=qeE h l ((f y).foldl q0G out) k1
  refine ⟨h1,fun x=>?_⟩
  rw[Vz,h2,k2,VH,Kv,(h y).2]
  constructor
  ·rintro ((h | h) | h)
   ·exact .inl h
   ·exact .inr (.inl h)
   ·exact .inr (.inr h)
  ·rintro (h | h | h)
   ·exact .inl (.inl h)
   ·exact .inl (.inr h)
   ·exact .inr h
theorem q4b (o:Bool) : ∀ (d:Nat) (x:Sch),Asc (q1E o d x)∧∀ s,s∈q1E o d x↔s∈q2H o d x
 | 0,x=>by
  rw[q6S,q8s]
  exact ⟨List.Pairwise.nil,fun s=>Iff.rfl⟩
 | d+1,x=>by
  have hb:Asc (if x.s.op=14 then q0G [] x.s.name else [])∧∀ s,s∈(if x.s.op=14 then q0G [] x.s.name else [])↔s∈(if x.s.op=14 then [x.s.name] else []):=by
   split
   ·exact ⟨qep .nil,fun s=>by rw[qe5]; simp⟩
   ·exact ⟨.nil,fun s=>Iff.rfl⟩
  rw[q6L,q8l]
  split
  ·refine ⟨hb.1,fun s=>?_⟩
   rw[hb.2,Kj]
  ·obtain ⟨h1,h2⟩:=qeE (f:=q1E o d) (g:=q2H o d) (q4b o d) x.kids _ hb.1
   refine ⟨h1,fun s=>?_⟩
   rw[h2,hb.2,Kv]
end Ago
