/- The abstract machine as a program: a call whose arguments are known is carried out,and what comes out is what the machine does. -/
import Derived.Test.YtahoajoopdphhaaGreatDoorMachE
set_option linter.unusedSimpArgs false
set_option linter.unusedVariables false
namespace Ago

def q6q {α:Type} (f:α→α→Bool):List α→List α→Bool
 | [],[]=>true
 | x::xs,y::ys=>if f x y then q6q f xs ys else false
 | _,_=>false
theorem q4H {α:Type} {f:α→α→Bool} (hf : ∀ x y,f x y=true→x=y) : ∀ (xs ys:List α),q6q f xs ys=true→xs=ys
 | [],[],_=>rfl
 | [],_::_,h=>by simp [q6q] at h
 | _::_,[],h=>by simp [q6q] at h
 | x::xs,y::ys,h=>by
  rw[q6q] at h
  split at h
  ·rename_i h1
   rw[hf x y h1,q4H hf xs ys h]
  ·cases h
def AV.same:Nat→AV→AV→Bool
 | 0,_,_=>false
 | n+1,x,y=>
  match x with
  | .dead=>(match y with | .dead=>true | _=>false)
  | .int k a=>(match y with | .int k' b=>decide (k=k') && decide (a=b) | _=>false)
  | .bool a=>(match y with | .bool b=>decide (a=b) | _=>false)
  | .str a=>(match y with | .str b=>decide (a=b) | _=>false)
  | .nilp=>(match y with | .nilp=>true | _=>false)
  | .nilf=>(match y with | .nilf=>true | _=>false)
  | .nili=>(match y with | .nili=>true | _=>false)
  | .nilm=>(match y with | .nilm=>true | _=>false)
  | .snil a=>(match y with | .snil b=>decide (a=b) | _=>false)
  | .tsl a l=>(match y with | .tsl b m=>decide (a=b) && q6q (AV.same n) l m | _=>false)
  | .sref a b c d=>(match y with | .sref a' b' c' d'=>decide (a=a'∧b=b'∧c=c'∧d=d') | _=>false)
  | .ptr a b c d=>(match y with | .ptr a' b' c' d'=>decide (a=a'∧b=b'∧c=c'∧d=d') | _=>false)
  | .tptr l a=>(match y with | .tptr m b=>decide (a=b) && q6q (AV.same n) l m | _=>false)
  | .mref a=>(match y with | .mref b=>decide (a=b) | _=>false)
  | .iref a=>(match y with | .iref b=>decide (a=b) | _=>false)
  | .agg l=>(match y with | .agg m=>q6q (AV.same n) l m | _=>false)
  | .tup l=>(match y with | .tup m=>q6q (AV.same n) l m | _=>false)
  | .fn a l=>(match y with | .fn b m=>decide (a=b) && q6q (AV.same n) l m | _=>false)
  | .ifc a u=>(match y with | .ifc b v=>decide (a=b) && AV.same n u v | _=>false)
theorem AV.same_eq : ∀ (n:Nat) (x y:AV),AV.same n x y=true→x=y
 | 0,_,_,h=>by cases h
 | n+1,x,y,h=>by
  have ih:=AV.same_eq n
  have ihl:=fun l m=>q4H ih l m
  cases x<;>simp only[AV.same] at h<;>split at h<;>try simp only[Kk,decide_eq_true_eq,Km] at h
  all_goals first
   | rfl
   | exact h.elim
   | (obtain ⟨h1,h2⟩:=h; rw[h1,ihl _ _ h2])
   | (obtain ⟨h1,h2⟩:=h; rw[h1,ih _ _ h2])
   | (obtain ⟨h1,h2,h3,h4⟩:=h; rw[h1,h2,h3,h4])
   | (obtain ⟨h1,h2⟩:=h; rw[h1,h2])
   | (rw[ihl _ _ h])
   | (rw[h])
def Blk.same:Blk→Blk→Bool
 | .gone,.gone=>true
 | .resv,.resv=>true
 | .row n l a b f,.row n' l' a' b' f'=>decide (n=n'∧a=a'∧b=b'∧f=f') && q6q (AV.same 100) l l'
 | .map l,.map l'=>q6q (fun x y=>AV.same 100 x.1 y.1 && AV.same 100 x.2 y.2) l l'
 | _,_=>false
theorem Blk.same_eq (x y:Blk) (h:Blk.same x y=true):x=y:=by
 unfold Blk.same at h
 split at h
 ·rfl
 ·rfl
 ·simp only[Kk,decide_eq_true_eq] at h
  obtain ⟨⟨rfl,rfl,rfl,rfl⟩,h2⟩:=h
  rw[q4H (AV.same_eq 100) _ _ h2]
 ·rw[q4H (fun x y h=>?_) _ _ h]
  simp only[Kk] at h
  exact Prod.ext (AV.same_eq _ _ _ h.1) (AV.same_eq _ _ _ h.2)
 ·cases h
def St.same (s t:St):Bool:=q6q (AV.same 100) s.tmps t.tmps && q6q Blk.same s.heap t.heap && decide (s.base=t.base) && decide (s.rb=t.rb)
theorem St.same_eq {s t:St} (h:St.same s t=true):s=t:=by
 unfold St.same at h
 simp only[Kk,decide_eq_true_eq] at h
 obtain ⟨⟨⟨h1,h2⟩,h3⟩,h4⟩:=h
 obtain ⟨a,b,c,d⟩:=s
 obtain ⟨a',b',c',d'⟩:=t
 simp only at h1 h2 h3 h4
 rw[q4H (AV.same_eq 100) _ _ h1,q4H Blk.same_eq _ _ h2,h3,h4]

section
variable (R:Nat→List AV→Heap→Option (AV × Heap)) (PR:Nat→List AV→Option AV)
def q6F:List AOper→St→Option St
 | [],s=>some s
 | ⟨dst,op,args,g⟩::l,s=>
  match s.wanted g with
  | none=>none
  | some false=>q6F l (s.put dst undef s.heap)
  | some true=>
   match op with
   | .pure p=>(match p.exec (args.map s.eval) with | some v=>q6F l (s.put dst v s.heap) | none=>none)
   | .read p=>(match p.exec (args.map s.eval) s.heap with | some v=>q6F l (s.put dst v s.heap) | none=>none)
   | .new p=>(match p.exec (args.map s.eval) s.heap.length with | some (v,b)=>q6F l (s.put dst v (s.heap++[b])) | none=>none)
   | .newAt j p=>(match p.exec (args.map s.eval) (s.rb+j),s.heap[s.rb+j]? with | some (v,b),some .resv=>q6F l (s.put dst v (s.heap.set (s.rb+j) b)) | _,_=>none)
   | .eff p=>(match p.exec (args.map s.eval) s.heap with | some (v,H)=>q6F l (s.put dst v H) | none=>none)
   | .call f=>(match R f (args.map s.eval) s.heap with | some (v,H)=>q6F l (s.put dst v H) | none=>none)
   | .pcall f=>(match q1L (frz s.heap 6) (args.map s.eval) with
    | some ts=>(match PR f ts with | some v=>q6F l (s.put dst v (q0L s.heap (args.map s.eval) v)) | none=>none)
    | none=>none)
   | .callv=>(match args.map s.eval with
    | .fn f cap::as=>(match R f (as++cap) s.heap with | some (v,H)=>q6F l (s.put dst v H) | none=>none)
    | _=>none)
   | .bad=>none
end
section
variable (code:Nat→Option AFn) (clR clP:Nat→Option (Nat × Nat))
def qw7:Ex→Bool
 | .exit _=>false
 | _=>true
end

section
variable {C:Ctx} {R:Nat→List AV→Heap→Option (AV × Heap)} {PR:Nat→List AV→Option AV}
theorem qaf (hR : ∀ f a H v H',R f a H=some (v,H')→BS C (.run f a H v H')) (hP : ∀ f ts v,PR f ts=some v→BS C (.prun f ts v)) : ∀ (l:List AOper) (s s':St),q6F R PR l s=some s'→BS C (.ops l s s')
 | [],s,s',h=>by
  simp only[q6F,Kq] at h
  subst h
  exact .nil s
 | ⟨dst,op,args,g⟩::l,s,s',h=>by
  have ih:=qaf hR hP l
  unfold q6F at h
  split at h
  ·cases h
  ·rename_i hw
   exact .pass hw (ih _ _ h)
  ·rename_i hw
   split at h
   ·split at h
    ·rename_i hv
     exact .pure hw rfl hv (ih _ _ h)
    ·cases h
   ·split at h
    ·rename_i hv
     exact .read hw rfl hv (ih _ _ h)
    ·cases h
   ·split at h
    ·rename_i hv
     exact .new hw rfl hv (ih _ _ h)
    ·cases h
   ·split at h
    ·rename_i hv hf
     exact .newAt hw rfl hv hf (ih _ _ h)
    ·cases h
   ·split at h
    ·rename_i hv
     exact .eff hw rfl hv (ih _ _ h)
    ·cases h
   ·split at h
    ·rename_i hv
     exact .call hw rfl (hR _ _ _ _ _ hv) (ih _ _ h)
    ·cases h
   ·split at h
    ·rename_i hts
     split at h
     ·rename_i hv
      exact .pcall hw rfl hts (hP _ _ _ hv) (ih _ _ h)
     ·cases h
    ·cases h
   ·split at h
    ·rename_i ha
     split at h
     ·rename_i hv
      exact .callv hw rfl ha (hR _ _ _ _ _ hv) (ih _ _ h)
     ·cases h
    ·cases h
   ·cases h
end
theorem qjY {e:Ex} (h:qw7 e=true):e = .normal∨e = .ret:=by
 cases e with
 | normal=>exact .inl rfl
 | ret=>exact .inr rfl
 | exit id=>cases h
end Ago
