/- R09.Replace and More. -/
import Derived.Test.YtjeahlpkonkjiaaGreatDoorORunY
import Derived.Test.YtjeahlpkonkjiaaGreatDoorORunF
set_option linter.unusedSimpArgs false
set_option linter.unusedVariables false
set_option maxRecDepth 100000
set_option maxHeartbeats 4000000
namespace Ago
open Go (IntKind)
end Ago
set_option maxRecDepth 100000
set_option maxHeartbeats 4000000
namespace Ago
open Go (IntKind)
inductive Gd:Nat→V→Prop where
 | mk {n:Nat} {v:V} (h:qeQ v=0) (hk : ∀ x,x∈v.kids→Gd n x):Gd (n+1) v
theorem q85 {v:V} (h:qeQ v=0):ownM v=true∧q0a v.s.num=true∧(v.s.kind=3→qgB v.s.time=true)∧utf v.s.text=true∧v.s.text.length≤65536∧v.s.bytes.length≤65536∧q5N (v.f.map (·.1))=0:=by
 unfold qeQ at h
 split at h
 ·cases h
 ·rename_i h1
  split at h
  ·cases h
  ·rename_i h2
   split at h
   ·cases h
   ·rename_i h3
    split at h
    ·cases h
    ·rename_i h4
     rw[not_or] at h2 h4
     refine ⟨by simpa using h1,by simpa using h2.1,fun hk=>?_,by simpa using h3,by omega,by omega,h⟩
     cases ht:qgB v.s.time with
     | true=>rfl
     | false=>exact (h2.2 ⟨hk,ht⟩).elim
theorem Gd.mono {n:Nat} {v:V} (h:Gd n v) : ∀ {m:Nat},n≤m→Gd m v:=by
 induction h with
 | mk h _ ih=>
  intro m hm
  obtain ⟨m,rfl⟩ : ∃ k,m=k+1:=⟨m-1,by omega⟩
  exact .mk h fun x hx=>ih x hx (by omega)
theorem qcw {F:V→Int→Int × Int} : ∀ (l:List V) (s:Int),(q7P F l s).2=0→∀ x,x∈l→∃ s',(F x s').2=0
 | [],_,_,x,hx=>by cases hx
 | y::l,s,h,x,hx=>by
  rw[q2m] at h
  split at h
  ·rename_i h1
   rcases Ks.1 hx with rfl | hx
   ·exact ⟨s,h1⟩
   ·exact qcw l _ h x hx
  ·rename_i h1
   exact (h1 h).elim
theorem qjh : ∀ (k:Nat) (v:V) (d s:Int),0≤d→(q2n k v d s).2=0→Gd (49-d).toNat v
 | 0,v,d,s,_,h=>by simp [q2n] at h
 | k+1,v,d,s,hd,h=>by
  unfold q2n at h
  split at h
  ·cases h
  ·split at h
   ·cases h
   ·split at h
    ·rename_i h3
     exact (h3 h).elim
    ·rename_i h1 _ h3
     have hk:=qcw _ _ h
     rw[show (49-d).toNat=(49-(d+1)).toNat+1 by omega]
     refine .mk (Classical.not_not.1 h3) fun x hx=>?_
     obtain ⟨s',hs'⟩:=hk x hx
     exact qjh k x (d+1) s' (by omega) hs'
theorem qmE {v:V} (h:q49 v=0):Gd 48 v:=qjh 49 v 1 0 (by omega) h


theorem Gd.own {n:Nat} {v:V} (h:Gd n v):ownM v=true:=by
 cases h with
 | mk h _=>exact (q85 h).1
theorem Gd.kids {n:Nat} {v:V} (h:Gd (n+1) v) : ∀ x,x∈v.kids→Gd n x:=by
 cases h with
 | mk _ hk=>exact hk
end Ago
