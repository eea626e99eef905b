/- The abstract machine as a program: a call whose arguments are known is carried out,and what comes out is what the machine does. -/
import Derived.Test.YtjeahlpkonkjiaaGreatDoorOMachE
set_option linter.unusedSimpArgs false
set_option linter.unusedVariables false
namespace Ago

def q5P {α:Type} (f:α→α→Bool):List α→List α→Bool
 | [],[]=>true
 | x::xs,y::ys=>if f x y then q5P f xs ys else false
 | _,_=>false
theorem q4F {α:Type} {f:α→α→Bool} (hf : ∀ x y,f x y=true→x=y) : ∀ (xs ys:List α),q5P f xs ys=true→xs=ys
 | [],[],_=>rfl
 | [],_::_,h=>by simp [q5P] at h
 | _::_,[],h=>by simp [q5P] at h
 | x::xs,y::ys,h=>by
  rw[q5P] at h
  split at h
  ·rename_i h1
   rw[hf x y h1,q4F hf xs ys h]
  ·cases h
def AV.same:Nat→AV→AV→Bool
 | 0,_,_=>false
 | n+1,x,y=>
  match x with
  | .dead=>(match y with | .dead=>true | _=>false)
  | .int k a=>(match y with | .int k' b=>decide (k=k') && decide (a=b) | _=>false)
  | .bool a=>(match y with | .bool b=>decide (a=b) | _=>false)
  | .str a=>(match y with | .str b=>decide (a=b) | _=>false)
  | .nilp=>(match y with | .nilp=>true | _=>false)
  | .nilf=>(match y with | .nilf=>true | _=>false)
  | .nili=>(match y with | .nili=>true | _=>false)
  | .nilm=>(match y with | .nilm=>true | _=>false)
  | .snil a=>(match y with | .snil b=>decide (a=b) | _=>false)
  | .tsl a l=>(match y with | .tsl b m=>decide (a=b) && q5P (AV.same n) l m | _=>false)
  | .sref a b c d=>(match y with | .sref a' b' c' d'=>decide (a=a'∧b=b'∧c=c'∧d=d') | _=>false)
  | .ptr a b c d=>(match y with | .ptr a' b' c' d'=>decide (a=a'∧b=b'∧c=c'∧d=d') | _=>false)
  | .tptr l a=>(match y with | .tptr m b=>decide (a=b) && q5P (AV.same n) l m | _=>false)
  | .mref a=>(match y with | .mref b=>decide (a=b) | _=>false)
  | .iref a=>(match y with | .iref b=>decide (a=b) | _=>false)
  | .agg l=>(match y with | .agg m=>q5P (AV.same n) l m | _=>false)
  | .tup l=>(match y with | .tup m=>q5P (AV.same n) l m | _=>false)
  | .fn a l=>(match y with | .fn b m=>decide (a=b) && q5P (AV.same n) l m | _=>false)
  | .ifc a u=>(match y with | .ifc b v=>decide (a=b) && AV.same n u v | _=>false)
theorem AV.same_eq : ∀ (n:Nat) (x y:AV),AV.same n x y=true→x=y
 | 0,_,_,h=>by cases h
 | n+1,x,y,h=>by
  have ih:=AV.same_eq n
  have ihl:=fun l m=>q4F ih l m
  cases x<;>simp only[AV.same] at h<;>split at h<;>try simp only[Kd,decide_eq_true_eq,Ke] at h
  all_goals first
   | rfl
   | exact h.elim
   | (obtain ⟨h1,h2⟩:=h; rw[h1,ihl _ _ h2])
   | (obtain ⟨h1,h2⟩:=h; rw[h1,ih _ _ h2])
   | (obtain ⟨h1,h2,h3,h4⟩:=h; rw[h1,h2,h3,h4])
   | (obtain ⟨h1,h2⟩:=h; rw[h1,h2])
   | (rw[ihl _ _ h])
   | (rw[h])
def Blk.same:Blk→Blk→Bool
 | .gone,.gone=>true
 | .resv,.resv=>true
 | .row n l a b f,.row n' l' a' b' f'=>decide (n=n'∧a=a'∧b=b'∧f=f') && q5P (AV.same 100) l l'
 | .map l,.map l'=>q5P (fun x y=>AV.same 100 x.1 y.1 && AV.same 100 x.2 y.2) l l'
 | _,_=>false
theorem Blk.same_eq (x y:Blk) (h:Blk.same x y=true):x=y:=by
 unfold Blk.same at h
 split at h
 ·rfl
 ·rfl
 ·simp only[Kd,decide_eq_true_eq] at h
  obtain ⟨⟨rfl,rfl,rfl,rfl⟩,h2⟩:=h
  rw[q4F (AV.same_eq 100) _ _ h2]
 ·rw[q4F (fun x y h=>?_) _ _ h]
  simp only[Kd] at h
  exact Prod.ext (AV.same_eq _ _ _ h.1) (AV.same_eq _ _ _ h.2)
 ·cases h
def St.same (s t:St):Bool:=q5P (AV.same 100) s.tmps t.tmps && q5P Blk.same s.heap t.heap && decide (s.base=t.base) && decide (s.rb=t.rb)
theorem St.same_eq {s t:St} (h:St.same s t=true):s=t:=by
 unfold St.same at h
 simp only[Kd,decide_eq_true_eq] at h
 obtain ⟨⟨⟨h1,h2⟩,h3⟩,h4⟩:=h
 obtain ⟨a,b,c,d⟩:=s
 obtain ⟨a',b',c',d'⟩:=t
 simp only at h1 h2 h3 h4
 rw[q4F (AV.same_eq 100) _ _ h1,q4F Blk.same_eq _ _ h2,h3,h4]

section
variable (R:Nat→List AV→Heap→Option (AV × Heap)) (PR:Nat→List AV→Option AV)
end
section
variable (code:Nat→Option AFn) (clR clP:Nat→Option (Nat × Nat))
end

section
variable {C:Ctx} {R:Nat→List AV→Heap→Option (AV × Heap)} {PR:Nat→List AV→Option AV}
end
end Ago
