/- Negations are pushed inwards: the plain law. -/
import Derived.Test.YtglenpfcanlbgaaGreatDoorRunH
import Derived.Test.YtglenpfcanlbgaaGreatDoorRunI
set_option linter.unusedSimpArgs false
set_option linter.unusedVariables false
set_option maxRecDepth 100000
set_option maxHeartbeats 4000000
namespace Ago
open Go (IntKind)
def withS (op:Int) (l:List Sch):Sch:=.mk ⟨op,0,0,0,[],[],.mk ⟨0,0,0,0,0⟩ [],[]⟩ [] l
mutual
def push:Bool→Sch→Sch
 | neg,.mk s p a=>
  if s.op=13 then pushH (!neg) a
  else if s.op=11∨s.op=12 then withS (if neg=true then 23-s.op else s.op) (pushL neg a)
  else if s.op=1∨s.op=2 then (if neg=true then withS (3-s.op) [] else .mk s p a)
  else if neg=true then withS 13 [.mk s (pushP p) (pushL false a)] else .mk s (pushP p) (pushL false a)
def pushH:Bool→List Sch→Sch
 | _,[]=>zeroX
 | neg,y::_=>push neg y
def pushL:Bool→List Sch→List Sch
 | _,[]=>[]
 | neg,y::l=>push neg y::pushL neg l
def pushP:List (PK × Sch)→List (PK × Sch)
 | []=>[]
 | (k,y)::l=>(k,push false y)::pushP l
end
inductive ShpS:Sch→Prop where
 | not (y:Sch):ShpS (withS 13 [y])
 | all (op:Int) (h:op=11∨op=12) (l:List Sch):ShpS (withS op l)
 | any (op:Int) (h:op=1∨op=2):ShpS (withS op [])
 | lit (x:Sch) (h1:x.s.op≠1) (h2:x.s.op≠2) (h3:x.s.op≠11) (h4:x.s.op≠12) (h5:x.s.op≠13):ShpS x
def CleanP:Nat→Sch→Prop
 | 0,_=>False
 | d+1,x=>((∀ v,v∈x.s.vals→cutV 65536 v=v)∧patD 48 x.s.pat)∧ShpS x∧∀ y,y∈x.kids→CleanP d y
theorem CleanP.clean : ∀ {d:Nat} {x:Sch},CleanP d x→CleanS d x
 | 0,_,h=>h.elim
 | d+1,x,h=>⟨h.1.1,h.1.2,fun y hy=>(h.2.2 y hy).clean⟩
theorem CleanP.mono : ∀ {d:Nat} {x:Sch},CleanP d x→CleanP (d+1) x
 | 0,_,h=>h.elim
 | d+1,x,h=>⟨h.1,h.2.1,fun y hy=>(h.2.2 y hy).mono⟩
end Ago
set_option maxRecDepth 100000
set_option maxHeartbeats 16000000
namespace Ago
open Go (IntKind)
theorem each_id (x:Sch):eachM id x=x:=by
 obtain ⟨s,p,a⟩:=x
 unfold eachM
 simp [Sch.s,Sch.p,Sch.a]
theorem cloneU_run : ∀ (n:Nat) (x:Sch),x.bulk≤n→n≤2^24→PRun (CP n) 934 [encSch x] (encSch x):=by
 intro n
 induction n with
 | zero=>
  intro x h1 h2
  have:1≤x.bulk:=bulk_one _
  omega
 | succ n ih=>
  intro x h1 h2
  have he:=each_run n 934 rfl id x (by omega) fun y hy=>ih y (by have:=Sch.kids_bulk hy; omega) (by omega)
  rw[each_id] at he
  refine lv_pure rfl (fn:=ac934) rfl (body_of ?_)
  rw[encSch_eq] at he ⊢
  (repeat' first|simp (disch:=omega) only[go_sem,ac934,enter]|refine pure_of _ (he) ?_|(apply spl<;>intro h<;>try simp (disch:=omega) only[go_sem,h]))
theorem cloneN_run (x:Sch) (hx:x.bulk≤2^24):PRun (CP (2^24)) 934 [encSch x] (encSch x):=cloneU_run _ x hx (Nat.le_refl _)
theorem rootU_run (m:Nat) (s:Schs) (x:Sch) (e:Int) (h:PRun (CP m) 454 [encSchs ⟨s.defs,x⟩] (.int .i64 e)):PRun (CP m) 929 [encSchs s,encSch x] (.int .i64 e):=by
 refine prun_of ac929 rfl ?_
 rw[encSchs_eq] at h ⊢
 rw[encSch_eq]
 (repeat' first|simp (disch:=omega) only[go_sem,ac929,enter]|refine pure_of _ (h) ?_|(apply spl<;>intro h<;>try simp (disch:=omega) only[go_sem,h]))
theorem zero_clean:CleanS 48 zeroX:=⟨fun v hv=>(by cases hv),fun a ha=>(by cases ha),fun y hy=>(by cases hy)⟩
theorem same461 (x:Sch) (hb:x.bulk≤2^22) (hc:CleanS 48 x):PRun CS 461 [encSch x,encSch x] (.bool true):=by
 have h1:=schSame_refl 48 48 rfl (by decide) x hb hc
 refine prun_of ac461 rfl ?_
 rw[encSch_eq] at h1 ⊢
 (repeat' first|simp (disch:=omega) only[go_sem,ac461,enter]|refine pure_of _ (h1) ?_|(apply spl<;>intro h<;>try simp (disch:=omega) only[go_sem,h]))
def unfR (t:Schs):Sch:=unfM t (t.defs.length+1) t.root
theorem Unfold0_run (m:Nat) (s:Schs) (x:Sch) (e:Int) (he:e≠0) (h:PRun (CP m) 929 [encSchs s,encSch x] (.int .i64 e)):PRun (CP m) 920 [encSchs s,encSch x] (.tup [encSch zeroX,.int .i64 e]):=by
 refine prun_of ac920 rfl ?_
 rw[zeroX_eq]
 rw[encSchs_eq,encSch_eq] at h ⊢
 (repeat' first|simp (disch:=omega) only[go_sem,ac920,enter,he]|refine pure_of _ (h) ?_|(apply spl<;>intro h<;>try simp (disch:=omega) only[go_sem,h]))
theorem refUnfold0_run (m:Nat) (s:Schs) (x:Sch) (e:Int) (he:e≠0) (h:PRun (CP m) 455 [encSchs ⟨s.defs,x⟩] (.int .i64 e)):PRun (CP m) 921 [encSchs s,encSch x] (.tup [encSch zeroX,.int .i64 e]):=by
 refine prun_of ac921 rfl ?_
 rw[zeroX_eq]
 rw[encSchs_eq] at h ⊢
 rw[encSch_eq]
 (repeat' first|simp (disch:=omega) only[go_sem,ac921,enter,he]|refine pure_of _ (h) ?_|(apply spl<;>intro h<;>try simp (disch:=omega) only[go_sem,h]))
def unfInv (t:Schs) (a:Sch × List (List UInt8)):Prop:=ChainP t a.1 a.2∧a.2.length≤t.defs.length∧unfM t (t.defs.length+1-a.2.length) a.1=unfR t
theorem unfInv.init {t:Schs} (hz:schkM t (guardM t).2=0):unfInv t (t.root,[]):=⟨ChainP.init hz,Nat.zero_le _,rfl⟩
theorem unfInv.done {t:Schs} {a:Sch × List (List UInt8)} (h:unfInv t a) (h14:a.1.s.op≠14):unfR t=a.1:=by
 rw[←h.2.2,unf_end h14]
theorem unfInv.step {t:Schs} (hz:schkM t (guardM t).2=0) {a:Sch × List (List UInt8)} (h:unfInv t a) (h14:a.1.s.op=14):(lkM t a.1.s.name).2=true∧unfInv t ((lkM t a.1.s.name).1,a.1.s.name::a.2)∧a.2.length<t.defs.length:=by
 obtain ⟨h1,h2,h3⟩:=h
 obtain ⟨k1,k2,k3⟩:=h1.step hz h14
 refine ⟨k1,⟨k2,by simp only[List.length_cons]; omega,?_⟩,k3⟩
 rw[←h3]
 have:t.defs.length+1-a.2.length=(t.defs.length-a.2.length)+1:=by omega
 rw[this,unf_step h14]
 simp only[List.length_cons]
 congr 1
 omega
theorem Unfold_run (s:Schs) (x:Sch) (hs:s.bulk≤2^24) (ht:(Schs.mk s.defs x).bulk≤2^24) (hz:schkM ⟨s.defs,x⟩ (guardM ⟨s.defs,x⟩).2=0) (h:PRun (CP (2^24)) 929 [encSchs s,encSch x] (.int .i64 0)):PRun (CP (2^24)) 920 [encSchs s,encSch x] (.tup [encSch (unfR ⟨s.defs,x⟩),.int .i64 0]):=by
 have hse:=encSchs_eq s
 refine prun_of ac920 rfl ?_
 rw[encSchs_eq,encSch_eq x] at h
 rw[encSchs_eq,encSch_eq x]
 (repeat' first|simp (disch:=omega) only[go_sem,ac920,enter]|refine pure_of _ (h) ?_|(apply spl<;>intro h<;>try simp (disch:=omega) only[go_sem,h]))
 refine loop_of (α:=Sch × List (List UInt8)) (fun a=>{ tmps:=slots 26 [(2,.ptr 16 0 0 0),(3,.ptr 15 1 0 0),(4,.ptr 15 2 0 0)],heap:=[.row 16 [encSchs s] false true 0,.row 15 [encSch a.1] false true 1,.row 15 [zeroQ] false true 2],base:=0 }) (unfInv ⟨s.defs,x⟩) (fun a=>s.defs.length-a.2.length) (x,[]) (by rw[hse,encSch_eq x]; rfl) (unfInv.init hz) ?_
 rintro ⟨y,seen⟩ hI
 dsimp only
 rw[hse]
 have hyb:y.bulk≤2^24:=by
  have:=hI.1.bulk
  dsimp only at this
  omega
 by_cases h14:y.s.op=14
 ·obtain ⟨k1,k2,k3⟩:=hI.step hz h14
  dsimp only at k1 k2 k3
  have e1:PRun (CP (2^24)) 457 _ _:=upP (Lookup_run s y.s.name hs)
  have k1':(lkM s y.s.name).2=true:=k1
  have k4:CleanS 48 (lkM s y.s.name).1:=k2.1.cl
  rw[k1',if_pos rfl,clone_clean 48 _ k4] at e1
  obtain ⟨z,hz2⟩ : ∃ z,(lkM s y.s.name).1=z:=⟨_,rfl⟩
  have hz3:(lkM ⟨s.defs,x⟩ y.s.name).1=z:=hz2
  rw[hz3] at k2
  rw[hz2,hse,encSch_eq z] at e1
  rw[encSch_eq y]
  (repeat' first|simp (disch:=omega) only[go_sem,h14,zeroQ]|refine pure_of _ (e1) ?_|(apply spl<;>intro h<;>try simp (disch:=omega) only[go_sem,h]))
  refine ⟨(z,y.s.name::seen),?_,k2,by simp only[List.length_cons]; omega⟩
  dsimp only
  rw[encSch_eq z]
  rfl
 ·have e1:=cloneN_run y hyb
  rw[hI.done h14]
  dsimp only
  rw[encSch_eq] at e1 ⊢
  (repeat' first|simp (disch:=omega) only[go_sem,h14,zeroQ]|refine pure_of _ (e1) ?_|(apply spl<;>intro h<;>try simp (disch:=omega) only[go_sem,h]))
theorem refUnfold_run (m:Nat) (s:Schs) (x:Sch) (hs:s.bulk≤2^24) (hz:schkM ⟨s.defs,x⟩ (guardM ⟨s.defs,x⟩).2=0) (h:PRun (CP m) 455 [encSchs ⟨s.defs,x⟩] (.int .i64 0)):PRun (CP m) 921 [encSchs s,encSch x] (.tup [encSch (unfR ⟨s.defs,x⟩),.int .i64 0]):=by
 have hse:=encSchs_eq s
 refine prun_of ac921 rfl ?_
 rw[encSchs_eq] at h
 rw[encSchs_eq,encSch_eq x]
 (repeat' first|simp (disch:=omega) only[go_sem,ac921,enter]|refine pure_of _ (h) ?_|(apply spl<;>intro h<;>try simp (disch:=omega) only[go_sem,h]))
 refine loop_of (α:=Sch × List (List UInt8)) (fun a=>{ tmps:=slots 27 [(2,.ptr 16 0 0 0),(3,.ptr 15 1 0 0),(4,.ptr 15 2 0 0)],heap:=[.row 16 [encSchs s] false true 0,.row 15 [encSch a.1] false true 1,.row 15 [zeroQ] false true 2],base:=0 }) (unfInv ⟨s.defs,x⟩) (fun a=>s.defs.length-a.2.length) (x,[]) (by rw[hse,encSch_eq x]; rfl) (unfInv.init hz) ?_
 rintro ⟨y,seen⟩ hI
 dsimp only
 rw[hse]
 by_cases h14:y.s.op=14
 ·obtain ⟨k1,k2,k3⟩:=hI.step hz h14
  dsimp only at k1 k2 k3
  have e1:PRun (CP m) 458 _ _:=upP (refLookup_run s y.s.name hs)
  obtain ⟨z,hz2⟩ : ∃ z,(lkM s y.s.name).1=z:=⟨_,rfl⟩
  have hz3:(lkM ⟨s.defs,x⟩ y.s.name).1=z:=hz2
  rw[hz3] at k2
  rw[hz2,hse,encSch_eq z] at e1
  rw[encSch_eq y]
  (repeat' first|simp (disch:=omega) only[go_sem,h14,zeroQ]|refine pure_of _ (e1) ?_|(apply spl<;>intro h<;>try simp (disch:=omega) only[go_sem,h]))
  refine ⟨(z,y.s.name::seen),?_,k2,by simp only[List.length_cons]; omega⟩
  dsimp only
  rw[encSch_eq z]
  rfl
 ·rw[hI.done h14]
  dsimp only
  rw[encSch_eq]
  (repeat' first|simp (disch:=omega) only[go_sem,h14,zeroQ]|(apply spl<;>intro h<;>try simp (disch:=omega) only[go_sem,h]))
theorem unfR_good {t:Schs} (hz:schkM t (guardM t).2=0):CleanS 48 (unfR t)∧(unfR t).bulk≤t.bulk:=by
 have : ∀ (n:Nat) (a:Sch × List (List UInt8)),unfInv t a→t.defs.length-a.2.length<n→CleanS 48 (unfR t)∧(unfR t).bulk≤t.bulk:=by
  intro n
  induction n with
  | zero=>intro a h hn; omega
  | succ n ih=>
   intro a h hn
   by_cases h14:a.1.s.op=14
   ·obtain ⟨k1,k2,k3⟩:=h.step hz h14
    exact ih _ k2 (by simp only[List.length_cons]; omega)
   ·rw[h.done h14]
    exact ⟨h.1.cl,h.1.bulk⟩
 exact this _ _ (unfInv.init hz) (Nat.lt_succ_self _)
theorem normUnfolds_run {C:Ctx} (hup : ∀ (f:Nat) (ts:List AV) (v:AV),PRun (CP (2^24)) f ts v→PRun C f ts v) (hcode:C.code 906=some ac906) (haw:PRun C 910 [] (.bool true)) (s:Schs) (x:Sch) (hs:s.bulk≤2^21) (hx:x.bulk≤2^20):PRun C 906 [encSchs s,encSch x] (.bool true):=by
 have ht:(Schs.mk s.defs x).bulk≤2^22:=by
  have h1:=s.bulk_eq
  have h2:=(Schs.mk s.defs x).bulk_eq
  dsimp only at h2
  omega
 obtain ⟨b,hb,h70⟩:=Light_ex s (by omega)
 obtain ⟨c,hc,h71⟩:=Light_ex ⟨s.defs,x⟩ (by omega)
 have hb:=hup _ _ _ (upP hb)
 have hc:=hup _ _ _ (upP hc)
 have hg:c=true→PRun (CP (2^24)) 454 [encSchs ⟨s.defs,x⟩] (.int .i64 (schkM ⟨s.defs,x⟩ (guardM ⟨s.defs,x⟩).2))∧PRun (CP (2^24)) 455 [encSchs ⟨s.defs,x⟩] (.int .i64 (schkM ⟨s.defs,x⟩ (guardM ⟨s.defs,x⟩).2)):=fun h=>by
  have h71:=h71 h
  exact ⟨upP (Check_run _ (by omega) _ _ (Guarded_run _ (by omega) (by omega))),upP (refCheck_run _ (by omega) _ _ (refGuarded_run _ (by omega)))⟩
 by_cases hcc:c=true
 ·obtain ⟨h1,h2⟩:=hg hcc
  refine prun_of ac906 hcode ?_
  cases b with
  | false=>
   rw[encSchs_eq,encSch_eq]
   rw[encSchs_eq] at hb hc
   (repeat' first|simp (disch:=omega) only[go_sem,ac906,enter]|refine pure_of _ (hb) ?_|refine pure_of _ (hc) ?_|refine pure_of _ (haw) ?_|(apply spl<;>intro h<;>try simp (disch:=omega) only[go_sem,h]))
  | true=>
   cases c with
   | false=>
    rw[encSchs_eq,encSch_eq]
    rw[encSchs_eq] at hb hc
    (repeat' first|simp (disch:=omega) only[go_sem,ac906,enter]|refine pure_of _ (hb) ?_|refine pure_of _ (hc) ?_|refine pure_of _ (haw) ?_|(apply spl<;>intro h<;>try simp (disch:=omega) only[go_sem,h]))
   | true=>
    by_cases hz:schkM ⟨s.defs,x⟩ (guardM ⟨s.defs,x⟩).2=0
    ·have e1:=hup _ _ _ (Unfold_run s x (by omega) (by omega) hz (rootU_run _ s x 0 (hz▸h1)))
     have e2:=hup _ _ _ (refUnfold_run (2^24) s x (by omega) hz (hz▸h2))
     obtain ⟨hg1,hg2⟩:=unfR_good hz
     have e3:=hup _ _ _ (upP (same461 _ (by omega) hg1))
     obtain ⟨z,hz2⟩ : ∃ z,unfR ⟨s.defs,x⟩=z:=⟨_,rfl⟩
     rw[hz2] at e1 e2 e3
     rw[encSchs_eq,encSch_eq]
     rw[encSchs_eq] at hb hc
     rw[encSchs_eq,encSch_eq x,encSch_eq z] at e1 e2
     rw[encSch_eq] at e3
     (repeat' first|simp (disch:=omega) only[go_sem,ac906,enter]|refine pure_of _ (hb) ?_|refine pure_of _ (hc) ?_|refine pure_of _ (e1) ?_|refine pure_of _ (e2) ?_|refine pure_of _ (e3) ?_|refine pure_of _ (haw) ?_|(apply spl<;>intro h<;>try simp (disch:=omega) only[go_sem,h]))
    ·have e1:=hup _ _ _ (Unfold0_run (2^24) s x _ hz (rootU_run _ s x _ h1))
     have e2:=hup _ _ _ (refUnfold0_run (2^24) s x _ hz h2)
     have e3:=hup _ _ _ (upP (same461 zeroX (by decide) zero_clean))
     rw[zeroX_eq] at e1 e2 e3
     rw[encSchs_eq,encSch_eq] at e1 e2 ⊢
     rw[encSchs_eq] at hb hc
     (repeat' first|simp (disch:=omega) only[go_sem,ac906,enter]|refine pure_of _ (hb) ?_|refine pure_of _ (hc) ?_|refine pure_of _ (e1) ?_|refine pure_of _ (e2) ?_|refine pure_of _ (e3) ?_|refine pure_of _ (haw) ?_|(apply spl<;>intro h<;>try simp (disch:=omega) only[go_sem,h]))
 ·have hcc:c=false:=by simpa using hcc
  subst hcc
  refine prun_of ac906 hcode ?_
  rw[encSchs_eq,encSch_eq]
  rw[encSchs_eq] at hb hc
  cases b with
  | false=>(repeat' first|simp (disch:=omega) only[go_sem,ac906,enter]|refine pure_of _ (hb) ?_|refine pure_of _ (hc) ?_|refine pure_of _ (haw) ?_|(apply spl<;>intro h<;>try simp (disch:=omega) only[go_sem,h]))
  | true=>(repeat' first|simp (disch:=omega) only[go_sem,ac906,enter]|refine pure_of _ (hb) ?_|refine pure_of _ (hc) ?_|refine pure_of _ (haw) ?_|(apply spl<;>intro h<;>try simp (disch:=omega) only[go_sem,h]))
end Ago
