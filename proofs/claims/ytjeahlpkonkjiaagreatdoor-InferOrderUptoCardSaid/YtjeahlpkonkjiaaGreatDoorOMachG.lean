/- The abstract machine as a program for the kernel: q0q as a list of what was written last,so that what was just written is qh4 at once. -/
import Derived.Test.YtjeahlpkonkjiaaGreatDoorOMachF
import Derived.KernelRfl
set_option linter.unusedSimpArgs false
set_option linter.unusedVariables false
namespace Ago

theorem qxI {a b:Nat}:Nat.blt a b=true↔a<b:=by rw[Nat.blt_eq]
structure ES where
 df:AV
 nt:Nat
 l:List (Nat × AV)
 heap:Heap
 base:Nat
 rb:Nat

def qbk (df:AV) (nt:Nat):List (Nat × AV)→Nat→AV
 | [],i=>match Nat.blt i nt with
  | true=>df
  | false=>undef
 | x::l,i=>match Nat.beq i x.1 with
  | true=>x.2
  | false=>qbk df nt l i
def ES.eval (e:ES):Opd→AV
 | .t i=>qbk e.df e.nt e.l i
 | .c v=>v
def ES.wanted (e:ES):Option (Nat × Bool)→Option Bool
 | none=>some true
 | some (t,b)=>match Nat.blt t e.nt with
  | true=>match qbk e.df e.nt e.l t with
   | .bool c=>some (c == b)
   | .tup []=>some false
   | _=>none
  | false=>none
structure Is (e:ES) (s:St):Prop where
 heap:s.heap=e.heap
 base:s.base=e.base
 rb:s.rb=e.rb
 len:s.tmps.length=e.nt
 at_ : ∀ i,s.tmps.getD i undef=qbk e.df e.nt e.l i
theorem Is.eval {e:ES} {s:St} (h:Is e s) (o:Opd):s.eval o=e.eval o:=by
 cases o with
 | t i=>exact h.at_ i
 | c v=>rfl
theorem Is.get {e:ES} {s:St} (h:Is e s) {t:Nat} (ht:t<e.nt):s.tmps[t]?=some (qbk e.df e.nt e.l t):=by
 have h1:=h.at_ t
 have h2:=h.len
 rw[KE] at h1
 rw[Kh (by omega)] at h1 ⊢
 rw[←h1]
 rfl
theorem Is.wanted {e:ES} {s:St} (h:Is e s) {g:Option (Nat × Bool)} {b:Bool} (hw:e.wanted g=some b):s.wanted g=some b:=by
 cases g with
 | none=>exact hw
 | some tb=>
  obtain ⟨t,c⟩:=tb
  unfold ES.wanted at hw
  simp only at hw
  split at hw
  ·rename_i hlt
   have hg:=h.get (qxI.1 hlt)
   unfold St.wanted
   simp only[hg]
   split at hw
   ·rename_i d hd
    simp only[hd]
    exact hw
   ·rename_i hd
    simp only[hd]
    exact hw
   ·cases hw
  ·cases hw
def ES.put (e:ES) (dst:Option Nat) (v:AV) (H:Heap):Option ES:=
 match dst with
 | none=>some ⟨e.df,e.nt,e.l,H,e.base,e.rb⟩
 | some d=>match Nat.blt d e.nt with
  | true=>some ⟨e.df,e.nt,(d,v)::e.l,H,e.base,e.rb⟩
  | false=>none
theorem Is.put {e:ES} {s:St} (h:Is e s) {dst:Option Nat} {v:AV} {H:Heap} {e':ES} (hp:e.put dst v H=some e'):Is e' (s.put dst v H):=by
 unfold ES.put at hp
 split at hp
 ·cases hp
  exact ⟨rfl,h.base,h.rb,h.len,h.at_⟩
 ·rename_i d
  split at hp
  ·rename_i hlt
   cases hp
   have hd:d<e.nt:=qxI.1 hlt
   refine ⟨rfl,h.base,h.rb,by simp [St.put,h.len],fun i=>?_⟩
   show (s.tmps.set d v).getD i undef=_
   rw[KE]
   unfold qbk
   by_cases hi:i=d
   ·subst hi
    rw[Vd (by rw[h.len]; exact hd),show Nat.beq i i=true from Nat.beq_refl i]
    rfl
   ·rw[Vf (fun e=>hi e.symm),←KE,h.at_ i,show Nat.beq i d=false from by
     cases hb:Nat.beq i d with
     | false=>rfl
     | true=>exact (hi (Nat.eq_of_beq_eq_true hb)).elim]
  ·cases hp

section
variable (R:Nat→List AV→Heap→Option (AV × Heap)) (PR:Nat→List AV→Option AV)
variable {R PR}
end
def tmE (e:ES):List AV:=(List.range e.nt).map fun i=>qbk e.df e.nt e.l i
theorem Is.tm {e:ES} {s:St} (h:Is e s):s=⟨tmE e,e.heap,e.base,e.rb⟩:=by
 obtain ⟨tm,H,b,rb⟩:=s
 obtain ⟨h1,h2,h3,h4,h5⟩:=h
 simp only at h1 h2 h3 h4
 subst h1
 subst h2
 subst h3
 congr 1
 apply List.ext_getElem?
 intro i
 unfold tmE
 have h5:=h5 i
 simp only at h5
 rw[KE] at h5
 by_cases hi:i<tm.length
 ·rw[KB,Vm (by omega),Kh hi]
  rw[Kh hi] at h5
  simpa using h5
 ·rw[Vh (by omega),Vh (by simp; omega)]
def qcC (a b:ES):Nat→Bool
 | 0=>true
 | n+1=>match AV.same 100 (qbk a.df a.nt a.l n) (qbk b.df b.nt b.l n) with
  | true=>qcC a b n
  | false=>false
def ES.same (a b:ES):Bool:=decide (a.nt=b.nt) && qcC a b a.nt && q5P Blk.same a.heap b.heap && decide (a.base=b.base) && decide (a.rb=b.rb)
section
variable (R:Nat→List AV→Heap→Option (AV × Heap)) (PR:Nat→List AV→Option AV)
def hK (e:ES) (k:ES→Option (Ex × ES)):Option (Ex × ES):=qxc 2 e.heap fun H=>qf0 e.rb fun rb=>k ⟨e.df,e.nt,e.l,H,e.base,rb⟩
end
section
variable {C:Ctx} {R:Nat→List AV→Heap→Option (AV × Heap)} {PR:Nat→List AV→Option AV}
end
section
variable (code:Nat→Option AFn) (clR clP:Nat→Option (Nat × Nat)) (orP:Nat→List AV→Option AV)
end
structure Fits (C:Ctx) (code:Nat→Option AFn) (clR clP:Nat→Option (Nat × Nat)):Prop where
 code : ∀ f fn,code f=some fn→C.code f=some fn
 prim : ∀ f p x H v H',clR f=some p→q3a p.1 p.2 (H++[.gone]) [.snil p.1,x]=some (v,H')→C.prim f [x] H v H'
 pprim : ∀ f p l,clP f=some p→l.length≤lim→l.length * p.2≤2^40→C.pprim f [.tsl p.1 l] (.tsl p.1 l)
end Ago
namespace Ago
def orT:List (Nat × List AV × AV)→Nat→List AV→Option AV
 | [],_,_=>none
 | x::l,f,ts=>match Nat.beq f x.1 with
  | true=>match q5P (AV.same 100) ts x.2.1 with
   | true=>some x.2.2
   | false=>orT l f ts
  | false=>orT l f ts
inductive OrOk (C:Ctx):List (Nat × List AV × AV)→Prop
 | nil:OrOk C []
 | cons {f:Nat} {ts:List AV} {v:AV} {l:List (Nat × List AV × AV)}:q0k C f ts v→OrOk C l→OrOk C ((f,ts,v)::l)
theorem OrOk.get {C:Ctx} {l:List (Nat × List AV × AV)} (h:OrOk C l) : ∀ f ts v,orT l f ts=some v→q0k C f ts v:=by
 induction h with
 | nil=>
  intro f ts v h
  cases h
 | cons hp _ ih=>
  intro f ts v h
  unfold orT at h
  split at h
  ·rename_i h1
   split at h
   ·rename_i h2
    cases h
    rw[Nat.eq_of_beq_eq_true h1,q4F (AV.same_eq 100) _ _ h2]
    exact hp
   ·exact ih _ _ _ h
  ·exact ih _ _ _ h
end Ago
