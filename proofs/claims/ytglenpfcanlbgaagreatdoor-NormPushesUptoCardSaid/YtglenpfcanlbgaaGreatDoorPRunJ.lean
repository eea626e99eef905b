/- Negations are pushed inwards: the plain law. -/
import Derived.Test.YtglenpfcanlbgaaGreatDoorPRunH
import Derived.Test.YtglenpfcanlbgaaGreatDoorPRunI
set_option linter.unusedSimpArgs false
set_option linter.unusedVariables false
set_option maxRecDepth 100000
set_option maxHeartbeats 4000000
namespace Ago
open Go (IntKind)
def withS (op:Int) (l:List Sch):Sch:=.mk ⟨op,0,0,0,[],[],.mk ⟨0,0,0,0,0⟩ [],[]⟩ [] l
theorem withS_kids (op:Int) (l:List Sch):(withS op l).kids=l:=(rfl)
theorem withS_enc (op:Int) (l:List Sch):encSch (withS op l) = .agg [.int .i64 op,.int .i64 0,.int .i64 0,.int .i64 0,.str [],.tsl 11 [],.int .i64 0,.int .i64 0,.int .i64 0,.int .i64 0,.int .i64 0,.tsl 6 [],.tsl 13 [],.tsl 17 [],.tsl 15 (l.map encSch)]:=by
 rw[encSch_eq]
 rfl
theorem withS_bulk (op:Int) (l:List Sch):(withS op l).bulk=AV.bulks (l.map encSch)+16:=by
 rw[Sch.bulk_eq]
 simp [withS,Sch.s,Sch.p,Sch.a,Pat.a,AV.bulks]
mutual
def push:Bool→Sch→Sch
 | neg,.mk s p a=>
  if s.op=13 then pushH (!neg) a
  else if s.op=11∨s.op=12 then withS (if neg=true then 23-s.op else s.op) (pushL neg a)
  else if s.op=1∨s.op=2 then (if neg=true then withS (3-s.op) [] else .mk s p a)
  else if neg=true then withS 13 [.mk s (pushP p) (pushL false a)] else .mk s (pushP p) (pushL false a)
def pushH:Bool→List Sch→Sch
 | _,[]=>zeroX
 | neg,y::_=>push neg y
def pushL:Bool→List Sch→List Sch
 | _,[]=>[]
 | neg,y::l=>push neg y::pushL neg l
def pushP:List (PK × Sch)→List (PK × Sch)
 | []=>[]
 | (k,y)::l=>(k,push false y)::pushP l
end
theorem pushL_map (neg:Bool) : ∀ l,pushL neg l=l.map (push neg)
 | []=>by simp [pushL]
 | v::l=>by simp [pushL,pushL_map neg l]
theorem pushP_map : ∀ l,pushP l=l.map fun k=>(k.1,push false k.2)
 | []=>by simp [pushP]
 | (k,v)::l=>by simp [pushP,pushP_map l]
def litS (x:Sch):Sch:=.mk x.s (x.p.map fun k=>(k.1,push false k.2)) (x.a.map (push false))
theorem push_lit {x:Sch} (h1:x.s.op≠1) (h2:x.s.op≠2) (h3:x.s.op≠11) (h4:x.s.op≠12) (h5:x.s.op≠13) (neg:Bool):push neg x=if neg=true then withS 13 [litS x] else litS x:=by
 obtain ⟨s,p,a⟩:=x
 have h1:s.op≠1:=h1
 have h2:s.op≠2:=h2
 have h3:s.op≠11:=h3
 have h4:s.op≠12:=h4
 have h5:s.op≠13:=h5
 unfold push
 rw[if_neg h5,if_neg (by omega),if_neg (by omega),pushL_map,pushP_map]
 rfl
theorem push_not (neg:Bool) (y:Sch):push neg (withS 13 [y])=push (!neg) y:=by
 unfold withS
 rw[push,if_pos rfl,pushH]
theorem push_all {op:Int} (h:op=11∨op=12) (neg:Bool) (l:List Sch):push neg (withS op l)=withS (if neg=true then 23-op else op) (l.map (push neg)):=by
 unfold withS push
 rw[if_neg (show ¬ op=13 by omega),if_pos h,pushL_map]
 rfl
theorem push_any {op:Int} (h:op=1∨op=2) (neg:Bool):push neg (withS op [])=if neg=true then withS (3-op) [] else withS op []:=by
 unfold withS push
 rw[if_neg (show ¬ op=13 by omega),if_neg (show ¬ (op=11∨op=12) by omega),if_pos h]
 rfl
inductive ShpS:Sch→Prop where
 | not (y:Sch):ShpS (withS 13 [y])
 | all (op:Int) (h:op=11∨op=12) (l:List Sch):ShpS (withS op l)
 | any (op:Int) (h:op=1∨op=2):ShpS (withS op [])
 | lit (x:Sch) (h1:x.s.op≠1) (h2:x.s.op≠2) (h3:x.s.op≠11) (h4:x.s.op≠12) (h5:x.s.op≠13):ShpS x
def CleanP:Nat→Sch→Prop
 | 0,_=>False
 | d+1,x=>((∀ v,v∈x.s.vals→cutV 65536 v=v)∧patD 48 x.s.pat)∧ShpS x∧∀ y,y∈x.kids→CleanP d y
theorem CleanP.clean : ∀ {d:Nat} {x:Sch},CleanP d x→CleanS d x
 | 0,_,h=>h.elim
 | d+1,x,h=>⟨h.1.1,h.1.2,fun y hy=>(h.2.2 y hy).clean⟩
theorem CleanP.mono : ∀ {d:Nat} {x:Sch},CleanP d x→CleanP (d+1) x
 | 0,_,h=>h.elim
 | d+1,x,h=>⟨h.1,h.2.1,fun y hy=>(h.2.2 y hy).mono⟩
theorem blank_with {x:Sch} (h:blankM x=true) (ho:x.s.op=1∨x.s.op=2∨x.s.op=11∨x.s.op=12∨x.s.op=13):x=withS x.s.op x.a:=by
 obtain ⟨⟨op,mask,min,max,name,parts,pat,vals⟩,p,a⟩:=x
 have ho:op=1∨op=2∨op=11∨op=12∨op=13:=ho
 unfold blankM at h
 rw[Bool.and_eq_true,Bool.and_eq_true,Bool.or_eq_true,Bool.or_eq_true] at h
 obtain ⟨⟨hb,hn⟩,hp⟩:=h
 have hb:=of_decide_eq_true hb
 simp only[Sch.s,Sch.p,Sch.a] at hb hn hp
 obtain ⟨b1,b2,b3,b4,b5,b6⟩:=hb
 have hname:name=[]:=by
  rcases hn with hn | hn
  ·have:=of_decide_eq_true hn
   omega
  ·simpa using hn
 clear hn
 have hpn:patNil pat=true:=by
  rcases hp with hp | hp
  ·have:=of_decide_eq_true hp
   omega
  ·exact hp
 clear hp
 unfold patNil at hpn
 have hp:=of_decide_eq_true hpn
 clear hpn
 obtain ⟨⟨o,lo,hi,mi,ma⟩,pa⟩:=pat
 simp only[Pat.s,Pat.a] at hp
 obtain ⟨p1,p2,p3,p4,p5,p6⟩:=hp
 have p6:=List.length_eq_zero_iff.1 p6
 have c1:mask=0:=by omega
 have b2a:min=0:=by omega
 have b2b:max=0:=by omega
 have c3:=List.length_eq_zero_iff.1 (show parts.length=0 by omega)
 have c4:=List.length_eq_zero_iff.1 (show vals.length=0 by omega)
 have c5:=List.length_eq_zero_iff.1 (show p.length=0 by omega)
 clear b1 b2 b3 b4 b5
 subst p1 p2 p3 p4 p5 p6 c1 b2a b2b c3 c4 c5 hname
 rfl
theorem blank_args {x:Sch} (h:blankM x=true):(x.s.op=13→x.a.length=1)∧(x.s.op=1∨x.s.op=2→x.a.length=0):=by
 unfold blankM at h
 rw[Bool.and_eq_true,Bool.and_eq_true] at h
 have hb:=of_decide_eq_true h.1.1
 obtain ⟨b1,b2,b3,b4,b5,b6⟩:=hb
 omega
theorem shp_of {x:Sch} (h:blankM x=true):ShpS x:=by
 have hw:=fun ho=>blank_with h ho
 have ha:=blank_args h
 by_cases h13:x.s.op=13
 ·have:=hw (by omega)
  rw[h13] at this
  rw[this]
  match ha1:x.a,ha.1 h13 with
  | [y],_=>exact .not y
 ·by_cases h11:x.s.op=11∨x.s.op=12
  ·have:=hw (by omega)
   rw[this]
   exact .all _ h11 _
  ·by_cases h1:x.s.op=1∨x.s.op=2
   ·have:=hw (by omega)
    rw[List.length_eq_zero_iff.1 (ha.2 h1)] at this
    rw[this]
    exact .any _ h1
   ·exact .lit x (by omega) (by omega) (by omega) (by omega) h13
theorem node_shp {s:Schs} {x:Sch} (h:nodeM s x=0):ShpS x:=by
 have hf:formM x=true:=by
  cases hb:formM x with
  | true=>rfl
  | false=>
   unfold nodeM at h
   rw[if_pos hb] at h
   cases h
 unfold formM at hf
 rw[Bool.and_eq_true,Bool.and_eq_true] at hf
 exact shp_of hf.1.2
theorem cleanP_of (s:Schs) : ∀ (d:Nat) (x:Sch),nodesM s d x=0→deepM d x=false→CleanP d x
 | 0,x,_,h2=>by rw[deepM_zero] at h2; cases h2
 | d+1,x,h1,h2=>by
  rw[nodesM_succ] at h1
  rw[deepM_succ] at h2
  have hn:nodeM s x=0:=by
   by_cases hn:nodeM s x=0
   ·exact hn
   ·rw[if_neg hn] at h1
    exact h1
  rw[if_pos hn] at h1
  refine ⟨node_clean hn,node_shp hn,fun y hy=>cleanP_of s d y (firstE_all h1 y hy) ?_⟩
  have:=List.any_eq_false.1 h2 y hy
  simpa using this
theorem patD_zero:patD 48 (.mk ⟨0,0,0,0,0⟩ []):=fun a ha=>by cases ha
theorem withS_clean {op:Int} {l:List Sch} {d:Nat} (hs:ShpS (withS op l)) (h : ∀ y,y∈l→CleanP d y):CleanP (d+1) (withS op l):=
 ⟨⟨fun v hv=>(by cases hv),patD_zero⟩,hs,fun y hy=>h y hy⟩
theorem lit_kids (x:Sch):(litS x).kids=x.kids.map (push false):=by
 unfold litS Sch.kids
 simp only[Sch.p,Sch.a,List.map_append,List.map_map]
 rfl
theorem push_clean : ∀ (d:Nat) (x:Sch),CleanP d x→CleanP d (push false x)∧CleanP (d+1) (push true x)
 | 0,x,h=>h.elim
 | d+1,x,⟨h1,h2,h3⟩=>by
  have ih:=fun y hy=>push_clean d y (h3 y hy)
  cases h2 with
  | not y=>
   rw[push_not,push_not]
   have:=ih y (by rw[withS_kids]; simp)
   exact ⟨this.2,this.1.mono.mono⟩
  | all op h l=>
   rw[push_all h,push_all h]
   rw[withS_kids] at ih
   refine ⟨withS_clean (.all _ h _) fun y hy=>?_,withS_clean (.all _ (by rw[if_pos rfl]; omega) _) fun y hy=>?_⟩
   ·obtain ⟨z,hz,rfl⟩:=List.mem_map.1 hy
    exact (ih z hz).1
   ·obtain ⟨z,hz,rfl⟩:=List.mem_map.1 hy
    exact (ih z hz).2
  | any op h=>
   rw[push_any h,push_any h]
   exact ⟨withS_clean (.any _ h) fun y hy=>(by cases hy),withS_clean (.any _ (by omega)) fun y hy=>(by cases hy)⟩
  | lit x k1 k2 k3 k4 k5=>
   rw[push_lit k1 k2 k3 k4 k5,push_lit k1 k2 k3 k4 k5]
   have hl:CleanP (d+1) (litS x):=⟨h1,.lit _ k1 k2 k3 k4 k5,fun y hy=>by
    rw[lit_kids] at hy
    obtain ⟨z,hz,rfl⟩:=List.mem_map.1 hy
    exact (ih z hz).1⟩
   exact ⟨hl,withS_clean (.not _) fun y hy=>by
    rw[List.mem_singleton.1 hy]
    exact hl⟩
theorem push_idem : ∀ (d:Nat) (x:Sch),CleanP d x→∀ neg,push false (push neg x)=push neg x
 | 0,x,h,_=>h.elim
 | d+1,x,⟨h1,h2,h3⟩,neg=>by
  have ih:=fun y hy=>push_idem d y (h3 y hy)
  cases h2 with
  | not y=>
   rw[push_not]
   exact ih y (by rw[withS_kids]; simp) _
  | all op h l=>
   rw[withS_kids] at ih
   rw[push_all h,push_all (by cases neg<;>simp<;>omega),if_neg (by simp),List.map_map]
   congr 1
   exact List.map_congr_left fun y hy=>ih y hy neg
  | any op h=>
   rw[push_any h]
   cases neg with
   | false=>rw[if_neg (by simp),push_any h]; rfl
   | true=>rw[if_pos rfl,push_any (by omega)]; rfl
  | lit x k1 k2 k3 k4 k5=>
   rw[push_lit k1 k2 k3 k4 k5]
   have hl:litS (litS x)=litS x:=by
    obtain ⟨s,p,a⟩:=x
    unfold litS
    simp only[Sch.s,Sch.p,Sch.a,List.map_map]
    congr 1
    ·refine List.map_congr_left fun k hk=>?_
     show (k.1,push false (push false k.2))=_
     rw[ih k.2 (List.mem_append.2 (.inl (List.mem_map.2 ⟨k,hk,rfl⟩)))]
    ·exact List.map_congr_left fun y hy=>ih y (List.mem_append.2 (.inr hy)) false
   cases neg with
   | false=>
    rw[if_neg (by simp),push_lit (x:=litS x) k1 k2 k3 k4 k5,if_neg (by simp),hl]
   | true=>
    rw[if_pos rfl,push_not,Bool.not_false,push_lit (x:=litS x) k1 k2 k3 k4 k5,if_pos rfl,hl]
theorem bulks_push (neg:Bool) : ∀ l:List Sch,(∀ y,y∈l→(push neg y).bulk≤2 * y.bulk)→AV.bulks ((l.map (push neg)).map encSch)≤2 * AV.bulks (l.map encSch)
 | [],_=>by simp [AV.bulks]
 | y::l,h=>by
  have h1:=h y (by simp)
  have h2:=bulks_push neg l fun z hz=>h z (by simp [hz])
  simp only[List.map_cons,AV.bulks]
  have e1:(encSch (push neg y)).bulk=(push neg y).bulk:=rfl
  have e2:(encSch y).bulk=y.bulk:=rfl
  omega
theorem encPr_bulk (x:PK × Sch):(encPr x).bulk=x.2.bulk+x.1.key.length+2:=by
 unfold Sch.bulk encPr
 rw[encSch_eq]
 simp [AV.bulk,AV.bulks,AV.cells]
 omega
theorem bulks_pushP : ∀ l:List (PK × Sch),(∀ y,y∈l→(push false y.2).bulk≤2 * y.2.bulk)→AV.bulks ((l.map fun k=>(k.1,push false k.2)).map encPr)≤2 * AV.bulks (l.map encPr)
 | [],_=>by simp [AV.bulks]
 | y::l,h=>by
  have h1:=h y (by simp)
  have h2:=bulks_pushP l fun z hz=>h z (by simp [hz])
  simp only[List.map_cons,AV.bulks]
  have e1:=encPr_bulk y
  have e2:=encPr_bulk (y.1,push false y.2)
  dsimp only at e2
  omega
theorem push_bulk : ∀ (d:Nat) (x:Sch),CleanP d x→∀ neg,(push neg x).bulk≤2 * x.bulk
 | 0,x,h,_=>h.elim
 | d+1,x,⟨h1,h2,h3⟩,neg=>by
  have ih:=fun y hy=>push_bulk d y (h3 y hy)
  cases h2 with
  | not y=>
   rw[push_not]
   have:=ih y (by rw[withS_kids]; simp) (!neg)
   have e:=withS_bulk 13 [y]
   have e2:(encSch y).bulk=y.bulk:=rfl
   simp only[List.map_cons,List.map_nil,AV.bulks] at e
   omega
  | all op h l=>
   rw[withS_kids] at ih
   rw[push_all h,withS_bulk,withS_bulk]
   have:=bulks_push neg l fun y hy=>ih y hy neg
   omega
  | any op h=>
   rw[push_any h]
   cases neg with
   | false=>rw[if_neg (by simp)]; omega
   | true=>rw[if_pos rfl,withS_bulk,withS_bulk]; omega
  | lit x k1 k2 k3 k4 k5=>
   rw[push_lit k1 k2 k3 k4 k5]
   have hb:=(litS x).bulk_eq
   have hx:=x.bulk_eq
   have q1:=bulks_pushP x.p fun k hk=>ih k.2 (List.mem_append.2 (.inl (List.mem_map.2 ⟨k,hk,rfl⟩))) false
   have q2:=bulks_push false x.a fun y hy=>ih y (List.mem_append.2 (.inr hy)) false
   have e1:(litS x).s=x.s:=rfl
   have e2:(litS x).p=x.p.map fun k=>(k.1,push false k.2):=rfl
   have e3:(litS x).a=x.a.map (push false):=rfl
   rw[e1,e2,e3] at hb
   cases neg with
   | false=>
    rw[if_neg (by simp)]
    omega
   | true=>
    rw[if_pos rfl,withS_bulk]
    have e4:(encSch (litS x)).bulk=(litS x).bulk:=rfl
    simp only[List.map_cons,List.map_nil,AV.bulks]
    omega
end Ago
set_option maxRecDepth 100000
set_option maxHeartbeats 16000000
namespace Ago
open Go (IntKind)
theorem same461 (x:Sch) (hb:x.bulk≤2^22) (hc:CleanS 48 x):PRun CS 461 [encSch x,encSch x] (.bool true):=by
 have h1:=schSame_refl 48 48 rfl (by decide) x hb hc
 refine prun_of ac461 rfl ?_
 rw[encSch_eq] at h1 ⊢
 (repeat' first|simp (disch:=omega) only[go_sem,ac461,enter]|refine pure_of _ (h1) ?_|(apply spl<;>intro h<;>try simp (disch:=omega) only[go_sem,h]))
def unfR (t:Schs):Sch:=unfM t (t.defs.length+1) t.root
def unfInv (t:Schs) (a:Sch × List (List UInt8)):Prop:=ChainP t a.1 a.2∧a.2.length≤t.defs.length∧unfM t (t.defs.length+1-a.2.length) a.1=unfR t
theorem unfInv.done {t:Schs} {a:Sch × List (List UInt8)} (h:unfInv t a) (h14:a.1.s.op≠14):unfR t=a.1:=by
 rw[←h.2.2,unf_end h14]
theorem unfInv.step {t:Schs} (hz:schkM t (guardM t).2=0) {a:Sch × List (List UInt8)} (h:unfInv t a) (h14:a.1.s.op=14):(lkM t a.1.s.name).2=true∧unfInv t ((lkM t a.1.s.name).1,a.1.s.name::a.2)∧a.2.length<t.defs.length:=by
 obtain ⟨h1,h2,h3⟩:=h
 obtain ⟨k1,k2,k3⟩:=h1.step hz h14
 refine ⟨k1,⟨k2,by simp only[List.length_cons]; omega,?_⟩,k3⟩
 rw[←h3]
 have:t.defs.length+1-a.2.length=(t.defs.length-a.2.length)+1:=by omega
 rw[this,unf_step h14]
 simp only[List.length_cons]
 congr 1
 omega
end Ago
set_option maxRecDepth 100000
set_option maxHeartbeats 16000000
namespace Ago
open Go (IntKind)
def wCells (op:Int) (a:AV):AV:=.agg [.int .i64 op,.int .i64 0,.int .i64 0,.int .i64 0,.str [],.snil 11,.int .i64 0,.int .i64 0,.int .i64 0,.int .i64 0,.int .i64 0,.snil 6,.snil 13,.snil 17,a]
theorem with_a (m:Nat) (op:Int) (X Y:AV):RunOf (CP m) 927 [.int .i64 op,.snil 15] [.row 15 [X] false true 0,.row 15 [zeroQ] false true 1,.row 15 [Y] false true 2] (wCells op (.snil 15)) [.row 15 [X] false true 0,.row 15 [zeroQ] false true 1,.row 15 [Y] false true 2]:=by
 unfold zeroQ
 refine runR_of ac927 rfl ?_
 unfold wCells
 (repeat' first|simp (disch:=omega) only[go_sem,ac927,enter]|(apply spl<;>intro h<;>try simp (disch:=omega) only[go_sem,h]))
 exact postR_of (.inr rfl) _ rfl rfl rfl
theorem with_d (m:Nat) (X Y P:AV):RunOf (CP m) 927 [.int .i64 13,.sref 15 3 0 1] [.row 15 [X] false true 0,.row 15 [zeroQ] false true 1,.row 15 [Y] false true 2,.row 15 [P] false true 3] (wCells 13 (.sref 15 3 0 1)) [.row 15 [X] false true 0,.row 15 [zeroQ] false true 1,.row 15 [Y] false true 2,.row 15 [P] false true 3]:=by
 unfold zeroQ
 refine runR_of ac927 rfl ?_
 unfold wCells
 (repeat' first|simp (disch:=omega) only[go_sem,ac927,enter]|(apply spl<;>intro h<;>try simp (disch:=omega) only[go_sem,h]))
 exact postR_of (.inr rfl) _ rfl rfl rfl
theorem with_n (m:Nat) (o:Int) (A B:AV):RunOf (CP m) 927 [.int .i64 13,.sref 15 3 0 1] [.row 15 [zeroQ] false true 0,.row 15 [wCells o (.snil 15)] false true 1,.row 15 [A] false true 2,.row 15 [B] false true 3,.resv] (wCells 13 (.sref 15 3 0 1)) [.row 15 [zeroQ] false true 0,.row 15 [wCells o (.snil 15)] false true 1,.row 15 [A] false true 2,.row 15 [B] false true 3,.resv]:=by
 unfold zeroQ
 refine runR_of ac927 rfl ?_
 unfold wCells
 (repeat' first|simp (disch:=omega) only[go_sem,ac927,enter]|(apply spl<;>intro h<;>try simp (disch:=omega) only[go_sem,h]))
 exact postR_of (.inr rfl) _ rfl rfl rfl
theorem with_c (m:Nat) (o:Int) (k:Nat) (els:List AV) (A B:AV):RunOf (CP m) 927 [.int .i64 13,.sref 15 4 0 1] [.row 15 [zeroQ] false true 0,.row 15 [wCells o (.sref 15 2 0 k)] false false 1,.row 15 els false true 2,.row 15 [A] false true 3,.row 15 [B] false true 4,.resv] (wCells 13 (.sref 15 4 0 1)) [.row 15 [zeroQ] false true 0,.row 15 [wCells o (.sref 15 2 0 k)] false false 1,.row 15 els false true 2,.row 15 [A] false true 3,.row 15 [B] false true 4,.resv]:=by
 unfold zeroQ
 refine runR_of ac927 rfl ?_
 unfold wCells
 (repeat' first|simp (disch:=omega) only[go_sem,ac927,enter]|(apply spl<;>intro h<;>try simp (disch:=omega) only[go_sem,h]))
 exact postR_of (.inr rfl) _ rfl rfl rfl
theorem push_each {x:Sch} (hs:ShpS x) (h13:x.s.op≠13):push false x=eachM (push false) x:=by
 cases hs with
 | not y=>exact (h13 rfl).elim
 | all op h l=>
  rw[push_all h,if_neg (by simp)]
  rfl
 | any op h=>
  rw[push_any h,if_neg (by simp)]
  rfl
 | lit x h1 h2 h3 h4 h5=>
  rw[push_lit h1 h2 h3 h4 h5,if_neg (by simp)]
  rfl
theorem not_bulk (y:Sch):(withS 13 [y]).bulk=y.bulk+16:=by
 rw[withS_bulk]
 have:(encSch y).bulk=y.bulk:=rfl
 simp only[List.map_cons,List.map_nil,AV.bulks]
 omega
def pnX (y:Sch):AV:=encSch (push true y)
theorem Push_run : ∀ (n d:Nat) (x:Sch),x.bulk≤n→n≤2^24→CleanP d x→PRun (CP n) 911 [encSch x] (encSch (push false x)):=by
 intro n
 induction n with
 | zero=>
  intro d x h1 h2
  have:1≤x.bulk:=bulk_one _
  omega
 | succ n ih=>
  intro d x h1 h2 hc
  cases d with
  | zero=>exact hc.elim
  | succ d=>
  obtain ⟨q1,q2,q3⟩:=hc
  refine lv_pure rfl (fn:=ac911) rfl (body_of ?_)
  by_cases h13:x.s.op=13
  ·cases q2 with
   | all op h l=>exfalso; have:op=13:=h13; omega
   | any op h=>exfalso; have:op=13:=h13; omega
   | lit x k1 k2 k3 k4 k5=>exact (k5 h13).elim
   | not y=>
    have hyc:CleanP d y:=q3 y (by rw[withS_kids]; simp)
    rw[not_bulk] at h1
    rw[push_not,withS_enc,Bool.not_false,List.map_cons,List.map_nil]
    cases d with
    | zero=>exact hyc.elim
    | succ d=>
    obtain ⟨r1,r2,r3⟩:=hyc
    cases r2 with
    | not z=>
     have hr:=ih d z (by rw[not_bulk] at h1; omega) (by omega) (r3 z (by rw[withS_kids]; simp))
     rw[push_not,Bool.not_true,withS_enc,List.map_cons,List.map_nil]
     obtain ⟨w,hw⟩ : ∃ w,push false z=w:=⟨_,rfl⟩
     rw[hw] at hr ⊢
     rw[encSch_eq z,encSch_eq w] at hr
     rw[encSch_eq z,encSch_eq w]
     (repeat' first|simp (disch:=omega) only[go_sem,ac911,enter]|refine pure_of _ (hr) ?_|(apply spl<;>intro h<;>try simp (disch:=omega) only[go_sem,h]))
    | any op h=>
     rw[push_any h,if_pos rfl,withS_enc,withS_enc,List.map_nil]
     have hw1:=with_a n 1
     have hw2:=with_a n 2
     unfold zeroQ at hw1 hw2
     rcases h with h | h
     ·subst h
      (repeat' first|simp (disch:=omega) only[go_sem,ac911,enter,wCells]|(refine call_of _ _ (hw2 _ _) ?_)|(apply spl<;>intro h<;>try simp (disch:=omega) only[go_sem,h]))
     ·subst h
      (repeat' first|simp (disch:=omega) only[go_sem,ac911,enter,wCells]|(refine call_of _ _ (hw1 _ _) ?_)|(apply spl<;>intro h<;>try simp (disch:=omega) only[go_sem,h]))
    | all op h l=>
     have hll:l.length<2^24:=by
      rw[withS_bulk] at h1
      have:=bulks_len (l.map encSch)
      rw[List.length_map] at this
      omega
     rw[push_all h,if_pos rfl,withS_enc,withS_enc,List.map_map]
     have hw0:=with_a n (23-op)
     unfold zeroQ at hw0
     have hne : ¬ op=13∧¬ op=1∧¬ op=2:=by omega
     obtain ⟨n1,n2,n3⟩:=hne
     have hpx:l.map (encSch ∘ push true)=l.map pnX:=rfl
     rw[hpx]
     obtain ⟨o2,ho2⟩ : ∃ o2,23-op=o2:=⟨_,rfl⟩
     rw[ho2] at hw0 ⊢
     rcases h with h | h
     all_goals
      subst h
      (repeat' first|simp (disch:=omega) only[go_sem,ac911,enter,wCells,List.length_map,ho2]|(refine call_of _ _ (hw0 _ _) ?_)|(apply spl<;>intro h<;>try simp (disch:=omega) only[go_sem,h]))
      refine loop_of (α:=Nat) (fun k=>{ tmps:=slots 70 [(2,.ptr 15 0 0 0),(4,.ptr 15 1 0 0),(49,.tsl 15 (l.map encSch)),(50,.int .i64 l.length),(51,.int .i64 k)],heap:=[.row 15 [zeroQ] false true 0,.row 15 [wCells o2 (outSl 15 2 ((l.take k).map pnX))] false ((l.take k).map pnX).isEmpty 1]++outHp 15 2 ((l.take k).map pnX),base:=0 }) (fun k=>k≤l.length) (fun k=>l.length-k) 0 rfl (Nat.zero_le _) ?_
      intro k hk
      obtain ⟨els,hels⟩ : ∃ els,(l.take k).map pnX=els:=⟨_,rfl⟩
      have hlen:els.length=k:=by rw[←hels]; simp; omega
      rw[hels]
      by_cases hlt:k<l.length
      ·obtain ⟨y,hy⟩:=get_some hlt
       have hym:=List.mem_of_getElem? hy
       have hy2:=map_get (g:=encSch) hy
       have hyb:y.bulk+16≤n:=by
        rw[withS_bulk] at h1
        have:=bulks_mem (List.mem_map_of_mem (f:=encSch) hym)
        have e:(encSch y).bulk=y.bulk:=rfl
        omega
       have hr:=ih (d+1) (withS 13 [y]) (by rw[not_bulk]; omega) (by omega) (withS_clean (.not y) fun u hu=>by rw[List.mem_singleton.1 hu]; exact r3 y (by rw[withS_kids]; exact hym))
       rw[push_not,Bool.not_false,withS_enc,List.map_cons,List.map_nil] at hr
       have hnew:(l.take (k+1)).map pnX=els++[pnX y]:=by rw[←hels,List.take_add_one,hy]; simp
       obtain ⟨w,hw⟩ : ∃ w,push true y=w:=⟨_,rfl⟩
       have he:pnX y=encSch w:=by rw[←hw]; rfl
       rw[he,encSch_eq w] at hnew
       rw[hw,encSch_eq y,encSch_eq w] at hr
       rw[encSch_eq y] at hy2
       cases els with
       | nil=>
        simp only[List.length_nil] at hlen
        have hw1:=with_n n o2 (.agg [.int .i64 y.s.op,.int .i64 y.s.mask,.int .i64 y.s.min,.int .i64 y.s.max,.str y.s.name,.tsl 11 (y.s.parts.map encPrt),.int .i64 y.s.pat.s.op,.int .i64 y.s.pat.s.lo,.int .i64 y.s.pat.s.hi,.int .i64 y.s.pat.s.min,.int .i64 y.s.pat.s.max,.tsl 6 (y.s.pat.a.map encPat),.tsl 13 (y.s.vals.map encV),.tsl 17 (y.p.map encPr),.tsl 15 (y.a.map encSch)]) (.agg [.int .i64 y.s.op,.int .i64 y.s.mask,.int .i64 y.s.min,.int .i64 y.s.max,.str y.s.name,.tsl 11 (y.s.parts.map encPrt),.int .i64 y.s.pat.s.op,.int .i64 y.s.pat.s.lo,.int .i64 y.s.pat.s.hi,.int .i64 y.s.pat.s.min,.int .i64 y.s.pat.s.max,.tsl 6 (y.s.pat.a.map encPat),.tsl 13 (y.s.vals.map encV),.tsl 17 (y.p.map encPr),.tsl 15 (y.a.map encSch)])
        unfold zeroQ at hw1
        unfold wCells at hw1 ⊢
        (repeat' first|simp (disch:=omega) only[go_sem,keep_mk,hy2,List.length_map,outSl,outHp,zeroQ,List.isEmpty_nil,List.isEmpty_cons]|(apply spl<;>intro h<;>try simp (disch:=omega) only[go_sem,h]))
        refine drawE ?_
        apply Exists.intro
        refine And.intro ?_ (And.intro ?_ ?_)
        ·(repeat' first|simp (disch:=omega) only[go_sem,keep_mk,hy2,List.length_map,zeroQ,wCells,markFrom,Blk.mark,List.contains_cons,List.contains_nil,Bool.or_false]|refine pure_of _ (hr) ?_|(refine call_of _ _ hw1 ?_)|(apply spl<;>intro h<;>try simp (disch:=omega) only[go_sem,h]))
         all_goals first | omega | exact rfl
        ·(repeat' first|exact trivial|refine And.intro ?_ ?_)
         all_goals
          (repeat' first|simp (disch:=omega) only[go_sem,keep_mk,hy2,List.length_map,zeroQ,wCells,markFrom,Blk.mark,List.contains_cons,List.contains_nil,Bool.or_false]|refine pure_of _ (hr) ?_|(refine call_of _ _ hw1 ?_)|(apply spl<;>intro h<;>try simp (disch:=omega) only[go_sem,h]))
          all_goals first | omega | exact rfl
        ·(repeat' first|simp (disch:=omega) only[go_sem,List.length_map,zeroQ]|(apply spl<;>intro h<;>try simp (disch:=omega) only[go_sem,h]))
         all_goals first | omega | skip
         refine ⟨k+1,?_,hlt,by omega⟩
         simp only[hnew,List.cons_append,List.nil_append,outSl,outHp,List.length_append,List.length_cons,List.length_nil,List.isEmpty_nil,List.isEmpty_cons,wCells]
         rfl
       | cons z zs=>
        simp only[List.length_cons] at hlen
        have hw1:=with_c n o2 (zs.length+1) (z::zs) (.agg [.int .i64 y.s.op,.int .i64 y.s.mask,.int .i64 y.s.min,.int .i64 y.s.max,.str y.s.name,.tsl 11 (y.s.parts.map encPrt),.int .i64 y.s.pat.s.op,.int .i64 y.s.pat.s.lo,.int .i64 y.s.pat.s.hi,.int .i64 y.s.pat.s.min,.int .i64 y.s.pat.s.max,.tsl 6 (y.s.pat.a.map encPat),.tsl 13 (y.s.vals.map encV),.tsl 17 (y.p.map encPr),.tsl 15 (y.a.map encSch)]) (.agg [.int .i64 y.s.op,.int .i64 y.s.mask,.int .i64 y.s.min,.int .i64 y.s.max,.str y.s.name,.tsl 11 (y.s.parts.map encPrt),.int .i64 y.s.pat.s.op,.int .i64 y.s.pat.s.lo,.int .i64 y.s.pat.s.hi,.int .i64 y.s.pat.s.min,.int .i64 y.s.pat.s.max,.tsl 6 (y.s.pat.a.map encPat),.tsl 13 (y.s.vals.map encV),.tsl 17 (y.p.map encPr),.tsl 15 (y.a.map encSch)])
        unfold zeroQ at hw1
        unfold wCells at hw1 ⊢
        (repeat' first|simp (disch:=omega) only[go_sem,keep_mk,hy2,List.length_map,outSl,outHp,zeroQ,List.isEmpty_nil,List.isEmpty_cons]|(apply spl<;>intro h<;>try simp (disch:=omega) only[go_sem,h]))
        refine drawE ?_
        apply Exists.intro
        refine And.intro ?_ (And.intro ?_ ?_)
        ·(repeat' first|simp (disch:=omega) only[go_sem,keep_mk,hy2,List.length_map,zeroQ,wCells,markFrom,Blk.mark,List.contains_cons,List.contains_nil,Bool.or_false]|refine pure_of _ (hr) ?_|(refine call_of _ _ hw1 ?_)|(apply spl<;>intro h<;>try simp (disch:=omega) only[go_sem,h]))
         all_goals first | omega | exact rfl
        ·(repeat' first|exact trivial|refine And.intro ?_ ?_)
         all_goals
          (repeat' first|simp (disch:=omega) only[go_sem,keep_mk,hy2,List.length_map,zeroQ,wCells,markFrom,Blk.mark,List.contains_cons,List.contains_nil,Bool.or_false]|refine pure_of _ (hr) ?_|(refine call_of _ _ hw1 ?_)|(apply spl<;>intro h<;>try simp (disch:=omega) only[go_sem,h]))
          all_goals first | omega | exact rfl
        ·(repeat' first|simp (disch:=omega) only[go_sem,List.length_map,zeroQ]|(apply spl<;>intro h<;>try simp (disch:=omega) only[go_sem,h]))
         all_goals first | omega | skip
         refine ⟨k+1,?_,hlt,by omega⟩
         simp only[hnew,List.cons_append,List.nil_append,outSl,outHp,List.length_append,List.length_cons,List.length_nil,List.isEmpty_nil,List.isEmpty_cons,wCells]
         rfl
      ·have hk2:k=l.length:=by omega
       rw[hk2,List.take_length] at hels
       rw[hels]
       cases els with
       | nil=>
        (repeat' first|simp (disch:=omega) only[go_sem,List.length_map,outSl,outHp,zeroQ,wCells,List.isEmpty_nil]|(apply spl<;>intro h<;>try simp (disch:=omega) only[go_sem,h]))
        all_goals first | omega | skip
       | cons z zs=>
        simp only[List.length_cons] at hlen
        (repeat' first|simp (disch:=omega) only[go_sem,List.length_map,outSl,outHp,zeroQ,wCells,List.isEmpty_cons,List.take_length]|(apply spl<;>intro h<;>try simp (disch:=omega) only[go_sem,h]))
        all_goals first | omega | skip
    | lit y k1 k2 k3 k4 k5=>
     have hr:=ih (d+1) y (by omega) (by omega) ⟨r1,.lit y k1 k2 k3 k4 k5,r3⟩
     rw[push_lit k1 k2 k3 k4 k5,if_neg (by simp)] at hr
     rw[push_lit k1 k2 k3 k4 k5,if_pos rfl,withS_enc,List.map_cons,List.map_nil]
     obtain ⟨w,hw⟩ : ∃ w,litS y=w:=⟨_,rfl⟩
     rw[hw] at hr ⊢
     have hwd:=with_d n
     unfold zeroQ at hwd
     rw[encSch_eq y,encSch_eq w] at hr
     rw[encSch_eq y,encSch_eq w]
     (repeat' first|simp (disch:=omega) only[go_sem,ac911,enter,wCells,k1,k2,k3,k4,k5,markFrom,Blk.mark,List.contains_cons,List.contains_nil,Bool.or_false]|refine pure_of _ (hr) ?_|(refine call_of _ _ (hwd _ _ _) ?_)|(apply spl<;>intro h<;>try simp (disch:=omega) only[go_sem,h]))
  ·have he:=each_run n 911 rfl (push false) x (by omega) fun y hy=>ih d y (by have:=Sch.kids_bulk hy; omega) (by omega) (q3 y hy)
   rw[←push_each q2 h13] at he
   obtain ⟨w,hw⟩ : ∃ w,push false x=w:=⟨_,rfl⟩
   rw[hw,encSch_eq x,encSch_eq w] at he
   rw[hw,encSch_eq x,encSch_eq w]
   (repeat' first|simp (disch:=omega) only[go_sem,ac911,enter,h13]|refine pure_of _ (he) ?_|(apply spl<;>intro h<;>try simp (disch:=omega) only[go_sem,h]))
end Ago
set_option maxRecDepth 100000
set_option maxHeartbeats 16000000
namespace Ago
open Go (IntKind)
def puX (neg:Bool) (y:Sch):AV:=encSch (push neg y)
theorem all_run (m:Nat) (neg:Bool) (l:List Sch) (hl:l.length<2^24) (hr : ∀ y,y∈l→PRun (CP m) 928 [encSch y,.bool neg] (encSch (push neg y))):PRun (CP m) 939 [.tsl 15 (l.map encSch),.bool neg] (.tsl 15 (l.map (puX neg))):=by
 refine prun_of ac939 rfl ?_
 (repeat' first|simp (disch:=omega) only[go_sem,ac939,enter,List.length_map]|(apply spl<;>intro h<;>try simp (disch:=omega) only[go_sem,h]))
 refine loop_of (α:=Nat) (fun k=>{ tmps:=slots 23 [(0,.tsl 15 (l.map encSch)),(1,.bool neg),(5,outSl 15 0 ((l.take k).map (puX neg))),(6,.int .i64 k)],heap:=outHp 15 0 ((l.take k).map (puX neg)),base:=0 }) (fun k=>k≤l.length) (fun k=>l.length-k) 0 rfl (Nat.zero_le _) ?_
 intro k hk
 obtain ⟨els,hels⟩ : ∃ els,(l.take k).map (puX neg)=els:=⟨_,rfl⟩
 have hlen:els.length=k:=by rw[←hels]; simp; omega
 rw[hels]
 by_cases hlt:k<l.length
 ·obtain ⟨y,hy⟩:=get_some hlt
  have hym:=List.mem_of_getElem? hy
  have hy2:=map_get (g:=encSch) hy
  have hr:=hr y hym
  have hnew:(l.take (k+1)).map (puX neg)=els++[puX neg y]:=by rw[←hels,List.take_add_one,hy]; simp
  obtain ⟨w,hw⟩ : ∃ w,push neg y=w:=⟨_,rfl⟩
  have he:puX neg y=encSch w:=by rw[←hw]; rfl
  rw[he,encSch_eq w] at hnew
  rw[hw,encSch_eq y,encSch_eq w] at hr
  rw[encSch_eq y] at hy2
  cases els with
  | nil=>
   simp only[List.length_nil] at hlen
   (repeat' first|simp (disch:=omega) only[go_sem,hy2,List.length_map,outSl,outHp]|refine pure_of _ (hr) ?_|(apply spl<;>intro h<;>try simp (disch:=omega) only[go_sem,h]))
   all_goals first | omega | skip
   refine ⟨k+1,?_,hlt,by omega⟩
   simp only[hnew,List.cons_append,List.nil_append,outSl,outHp,List.length_append,List.length_cons,List.length_nil]
   rfl
  | cons z zs=>
   simp only[List.length_cons] at hlen
   (repeat' first|simp (disch:=omega) only[go_sem,hy2,List.length_map,outSl,outHp]|refine pure_of _ (hr) ?_|(apply spl<;>intro h<;>try simp (disch:=omega) only[go_sem,h]))
   all_goals first | omega | skip
   refine ⟨k+1,?_,hlt,by omega⟩
   simp only[hnew,List.cons_append,List.nil_append,outSl,outHp,List.length_append,List.length_cons,List.length_nil]
   rfl
 ·have hk2:k=l.length:=by omega
  rw[hk2,List.take_length] at hels
  rw[hels]
  cases els with
  | nil=>
   (repeat' first|simp (disch:=omega) only[go_sem,List.length_map,outSl,outHp]|(apply spl<;>intro h<;>try simp (disch:=omega) only[go_sem,h]))
   all_goals first | omega | skip
  | cons z zs=>
   simp only[List.length_cons] at hlen
   (repeat' first|simp (disch:=omega) only[go_sem,List.length_map,outSl,outHp,List.take_length]|(apply spl<;>intro h<;>try simp (disch:=omega) only[go_sem,h]))
   all_goals first | omega | skip
def puP (y:PK × Sch):AV:=encPr (y.1,push false y.2)
theorem lit_enc (x:Sch):encSch (litS x) = .agg (clCells x (.tsl 11 (x.s.parts.map encPrt)) (.tsl 13 (x.s.vals.map encV)) (.tsl 17 (x.p.map puP)) (.tsl 15 (x.a.map (puX false)))):=by
 rw[encSch_eq]
 simp only[litS,Sch.s,Sch.p,Sch.a,List.map_map]
 rfl
theorem rpush_run (m:Nat) : ∀ (d:Nat) (x:Sch),x.bulk≤2^24→CleanP d x→∀ neg,PRun (CP m) 928 [encSch x,.bool neg] (encSch (push neg x))
 | 0,x,_,hc,_=>hc.elim
 | d+1,x,hx,⟨q1,q2,q3⟩,neg=>by
  have ih:=fun y hy=>rpush_run m d y (by have:=Sch.kids_bulk (v:=x) (x:=y) hy; omega) (q3 y hy)
  refine prun_of ac928 rfl ?_
  cases q2 with
  | not y=>
   have hr:=ih y (by rw[withS_kids]; simp) (!neg)
   rw[push_not,withS_enc,List.map_cons,List.map_nil]
   obtain ⟨w,hw⟩ : ∃ w,push (!neg) y=w:=⟨_,rfl⟩
   rw[hw] at hr ⊢
   rw[encSch_eq y,encSch_eq w] at hr
   rw[encSch_eq y,encSch_eq w]
   (repeat' first|simp (disch:=omega) only[go_sem,ac928,enter]|refine pure_of _ (hr) ?_|(apply spl<;>intro h<;>try simp (disch:=omega) only[go_sem,h]))
  | any op h=>
   rw[push_any h]
   have hne : ¬ op=13∧¬ op=11∧¬ op=12:=by omega
   obtain ⟨n1,n2,n3⟩:=hne
   cases neg with
   | false=>
    rw[if_neg (by simp),withS_enc,List.map_nil]
    rcases h with h | h
    ·subst h
     (repeat' first|simp (disch:=omega) only[go_sem,ac928,enter]|(apply spl<;>intro h<;>try simp (disch:=omega) only[go_sem,h]))
    ·subst h
     (repeat' first|simp (disch:=omega) only[go_sem,ac928,enter]|(apply spl<;>intro h<;>try simp (disch:=omega) only[go_sem,h]))
   | true=>
    rw[if_pos rfl,withS_enc,withS_enc,List.map_nil]
    rcases h with h | h
    ·subst h
     (repeat' first|simp (disch:=omega) only[go_sem,ac928,enter]|(apply spl<;>intro h<;>try simp (disch:=omega) only[go_sem,h]))
    ·subst h
     (repeat' first|simp (disch:=omega) only[go_sem,ac928,enter]|(apply spl<;>intro h<;>try simp (disch:=omega) only[go_sem,h]))
  | all op h l=>
   have hl:=all_run m neg l (by
    have e:=withS_bulk op l
    have:=bulks_len (l.map encSch)
    rw[List.length_map] at this
    omega) fun y hy=>ih y (by rw[withS_kids]; exact hy) neg
   rw[push_all h,withS_enc,withS_enc,List.map_map]
   have hpx:l.map (encSch ∘ push neg)=l.map (puX neg):=rfl
   rw[hpx]
   cases neg with
   | false=>
    rw[if_neg (by simp)]
    rcases h with h | h
    ·subst h
     (repeat' first|simp (disch:=omega) only[go_sem,ac928,enter]|refine pure_of _ (hl) ?_|(apply spl<;>intro h<;>try simp (disch:=omega) only[go_sem,h]))
    ·subst h
     (repeat' first|simp (disch:=omega) only[go_sem,ac928,enter]|refine pure_of _ (hl) ?_|(apply spl<;>intro h<;>try simp (disch:=omega) only[go_sem,h]))
   | true=>
    rw[if_pos rfl]
    rcases h with h | h
    ·subst h
     (repeat' first|simp (disch:=omega) only[go_sem,ac928,enter]|refine pure_of _ (hl) ?_|(apply spl<;>intro h<;>try simp (disch:=omega) only[go_sem,h]))
    ·subst h
     (repeat' first|simp (disch:=omega) only[go_sem,ac928,enter]|refine pure_of _ (hl) ?_|(apply spl<;>intro h<;>try simp (disch:=omega) only[go_sem,h]))
  | lit x k1 k2 k3 k4 k5=>
   have L:=Sch.lens (v:=x) (N:=2^24) (by omega)
   have l3:=L.props
   have hl:=all_run m false x.a L.args fun y hy=>ih y (List.mem_append.2 (.inr hy)) false
   have hxe:=encSch_eq x
   have hpost:encSch (push neg x)=if neg=true then .agg [.int .i64 13,.int .i64 0,.int .i64 0,.int .i64 0,.str [],.tsl 11 [],.int .i64 0,.int .i64 0,.int .i64 0,.int .i64 0,.int .i64 0,.tsl 6 [],.tsl 13 [],.tsl 17 [],.tsl 15 [encSch (litS x)]] else encSch (litS x):=by
    rw[push_lit k1 k2 k3 k4 k5]
    cases neg with
    | false=>rfl
    | true=>exact withS_enc 13 [litS x]
   rw[hpost,lit_enc,encSch_eq x]
   unfold clCells
   (repeat' first|simp (disch:=omega) only[go_sem,ac928,enter,k1,k2,k3,k4,k5,List.length_map]|refine pure_of _ (hl) ?_|(apply spl<;>intro h<;>try simp (disch:=omega) only[go_sem,h]))
   all_goals first | omega | skip
   refine loop_of (α:=Nat) (fun k=>{ tmps:=slots 80 [(1,.bool neg),(2,.ptr 15 0 0 0),(4,.ptr 15 1 0 0),(6,.ptr 15 2 0 0),(7,.int .i64 k)],heap:=[.row 15 [encSch x] false true 0,.row 15 [zeroQ] false true 1,.row 15 [.agg [.int .i64 x.s.op,.int .i64 x.s.mask,.int .i64 x.s.min,.int .i64 x.s.max,.str x.s.name,.tsl 11 (x.s.parts.map encPrt),.int .i64 x.s.pat.s.op,.int .i64 x.s.pat.s.lo,.int .i64 x.s.pat.s.hi,.int .i64 x.s.pat.s.min,.int .i64 x.s.pat.s.max,.tsl 6 (x.s.pat.a.map encPat),.tsl 13 (x.s.vals.map encV),outSl 17 3 ((x.p.take k).map puP),.tsl 15 (x.a.map (puX false))]] false ((x.p.take k).map puP).isEmpty 2]++outHp 17 3 ((x.p.take k).map puP),base:=0 }) (fun k=>k≤x.p.length) (fun k=>x.p.length-k) 0 (by rw[hxe]; rfl) (Nat.zero_le _) ?_
   intro k hk
   obtain ⟨els,hels⟩ : ∃ els,(x.p.take k).map puP=els:=⟨_,rfl⟩
   have hlen:els.length=k:=by rw[←hels]; simp; omega
   rw[hels]
   by_cases hlt:k<x.p.length
   ·obtain ⟨y,hy⟩:=get_some hlt
    have hym:=List.mem_of_getElem? hy
    have hy2:=map_get (g:=encPr) hy
    have hr:=ih y.2 (List.mem_append.2 (.inl (List.mem_map.2 ⟨y,hym,rfl⟩))) false
    have hnew:(x.p.take (k+1)).map puP=els++[puP y]:=by rw[←hels,List.take_add_one,hy]; simp
    obtain ⟨w,hw⟩ : ∃ w,push false y.2=w:=⟨_,rfl⟩
    have he:puP y=encPr (y.1,w):=by rw[←hw]; rfl
    rw[he,encPr_eq] at hnew
    rw[hw,encSch_eq y.2,encSch_eq w] at hr
    rw[encPr_eq] at hy2
    rw[hxe]
    cases els with
    | nil=>
     simp only[List.length_nil] at hlen
     (repeat' first|simp (disch:=omega) only[go_sem,keep_mk,hy2,List.length_map,outSl,outHp,zeroQ,List.isEmpty_nil,List.isEmpty_cons]|refine pure_of _ (hr) ?_|(apply spl<;>intro h<;>try simp (disch:=omega) only[go_sem,h]))
     all_goals first | omega | skip
     refine ⟨k+1,?_,hlt,by omega⟩
     simp only[hnew,List.cons_append,List.nil_append,outSl,outHp,List.length_append,List.length_cons,List.length_nil,List.isEmpty_nil,List.isEmpty_cons]
     rfl
    | cons z zs=>
     simp only[List.length_cons] at hlen
     (repeat' first|simp (disch:=omega) only[go_sem,keep_mk,hy2,List.length_map,outSl,outHp,zeroQ,List.isEmpty_nil,List.isEmpty_cons]|refine pure_of _ (hr) ?_|(apply spl<;>intro h<;>try simp (disch:=omega) only[go_sem,h]))
     all_goals first | omega | skip
     refine ⟨k+1,?_,hlt,by omega⟩
     simp only[hnew,List.cons_append,List.nil_append,outSl,outHp,List.length_append,List.length_cons,List.length_nil,List.isEmpty_nil,List.isEmpty_cons]
     rfl
   ·have hk2:k=x.p.length:=by omega
    rw[hk2,List.take_length] at hels
    rw[hels,hxe]
    cases neg with
    | false=>
     cases els with
     | nil=>
      (repeat' first|simp (disch:=omega) only[go_sem,List.length_map,outSl,outHp,zeroQ,List.isEmpty_nil,Bool.false_eq_true,if_false]|(apply spl<;>intro h<;>try simp (disch:=omega) only[go_sem,h]))
      all_goals first | omega | skip
     | cons z zs=>
      simp only[List.length_cons] at hlen
      (repeat' first|simp (disch:=omega) only[go_sem,List.length_map,outSl,outHp,zeroQ,List.isEmpty_cons,List.take_length,Bool.false_eq_true,if_false]|(apply spl<;>intro h<;>try simp (disch:=omega) only[go_sem,h]))
      all_goals first | omega | skip
    | true=>
     cases els with
     | nil=>
      (repeat' first|simp (disch:=omega) only[go_sem,List.length_map,outSl,outHp,zeroQ,List.isEmpty_nil,if_true]|(apply spl<;>intro h<;>try simp (disch:=omega) only[go_sem,h]))
      all_goals first | omega | skip
     | cons z zs=>
      simp only[List.length_cons] at hlen
      (repeat' first|simp (disch:=omega) only[go_sem,List.length_map,outSl,outHp,zeroQ,List.isEmpty_cons,List.take_length,if_true]|(apply spl<;>intro h<;>try simp (disch:=omega) only[go_sem,h]))
      all_goals first | omega | skip
theorem refPush_run2 (m:Nat) (d:Nat) (x:Sch) (hx:x.bulk≤2^24) (hc:CleanP d x):PRun (CP m) 912 [encSch x] (encSch (push false x)):=by
 have hr:=rpush_run m d x hx hc false
 refine prun_of ac912 rfl ?_
 obtain ⟨w,hw⟩ : ∃ w,push false x=w:=⟨_,rfl⟩
 rw[hw,encSch_eq x,encSch_eq w] at hr
 rw[hw,encSch_eq x,encSch_eq w]
 (repeat' first|simp (disch:=omega) only[go_sem,ac912,enter]|refine pure_of _ (hr) ?_|(apply spl<;>intro h<;>try simp (disch:=omega) only[go_sem,h]))
theorem right_run (s:Schs) (x:Sch) (hs:s.bulk≤2^21) (hx:x.bulk≤2^21) : ∃ b,PRun (CP (2^24)) 909 [encSchs s,encSch x] (.bool b)∧(b=true→schkM ⟨s.defs,x⟩ (guardM ⟨s.defs,x⟩).2=0):=by
 have ht:(Schs.mk s.defs x).bulk≤2^22:=by
  have h1:=s.bulk_eq
  have h2:=(Schs.mk s.defs x).bulk_eq
  dsimp only at h2
  omega
 obtain ⟨b,hb,h70⟩:=Light_ex s (by omega)
 obtain ⟨c,hc,h71⟩:=Light_ex ⟨s.defs,x⟩ (by omega)
 have hb:PRun (CP (2^24)) 467 _ _:=upP hb
 have hc:PRun (CP (2^24)) 467 _ _:=upP hc
 have h2:PRun (CP (2^24)) 455 _ _:=upP (refCheck_run ⟨s.defs,x⟩ (by omega) _ _ (refGuarded_run _ (by omega)))
 rw[encSchs_eq] at hb hc h2
 rw[encSchs_eq,encSch_eq]
 cases b with
 | false=>
  refine ⟨false,prun_of ac909 rfl ?_,fun h=>Bool.noConfusion h⟩
  (repeat' first|simp (disch:=omega) only[go_sem,ac909,enter]|refine pure_of _ (hb) ?_|refine pure_of _ (hc) ?_|refine pure_of _ (h2) ?_|(apply spl<;>intro h<;>try simp (disch:=omega) only[go_sem,h]))
 | true=>
  cases c with
  | false=>
   refine ⟨false,prun_of ac909 rfl ?_,fun h=>Bool.noConfusion h⟩
   (repeat' first|simp (disch:=omega) only[go_sem,ac909,enter]|refine pure_of _ (hb) ?_|refine pure_of _ (hc) ?_|refine pure_of _ (h2) ?_|(apply spl<;>intro h<;>try simp (disch:=omega) only[go_sem,h]))
  | true=>
   by_cases hz:schkM ⟨s.defs,x⟩ (guardM ⟨s.defs,x⟩).2=0
   ·refine ⟨true,prun_of ac909 rfl ?_,fun _=>hz⟩
    rw[hz] at h2
    (repeat' first|simp (disch:=omega) only[go_sem,ac909,enter]|refine pure_of _ (hb) ?_|refine pure_of _ (hc) ?_|refine pure_of _ (h2) ?_|(apply spl<;>intro h<;>try simp (disch:=omega) only[go_sem,h]))
   ·refine ⟨false,prun_of ac909 rfl ?_,fun h=>Bool.noConfusion h⟩
    (repeat' first|simp (disch:=omega) only[go_sem,ac909,enter,hz]|refine pure_of _ (hb) ?_|refine pure_of _ (hc) ?_|refine pure_of _ (h2) ?_|(apply spl<;>intro h<;>try simp (disch:=omega) only[go_sem,h]))
theorem normPushes_run {C:Ctx} (hup : ∀ (f:Nat) (ts:List AV) (v:AV),PRun (CP (2^24)) f ts v→PRun C f ts v) (hcode:C.code 903=some ac903) (haw:PRun C 910 [] (.bool true)) (s:Schs) (x:Sch) (hs:s.bulk≤2^21) (hx:x.bulk≤2^20):PRun C 903 [encSchs s,encSch x] (.bool true):=by
 obtain ⟨b,hb,hz⟩:=right_run s x hs (by omega)
 have hb:=hup _ _ _ hb
 refine prun_of ac903 hcode ?_
 cases b with
 | false=>
  rw[encSchs_eq,encSch_eq] at hb ⊢
  (repeat' first|simp (disch:=omega) only[go_sem,ac903,enter]|refine pure_of _ (hb) ?_|refine pure_of _ (haw) ?_|(apply spl<;>intro h<;>try simp (disch:=omega) only[go_sem,h]))
 | true=>
  obtain ⟨h1,h2,h3,h4,h5⟩:=schk_parts (hz rfl)
  have hc:CleanP 48 x:=cleanP_of _ 48 x h2 h4
  have hc2:=(push_clean 48 x hc).1
  have hbk:=push_bulk 48 x hc false
  have e1:=hup _ _ _ (Push_run (2^24) 48 x (by omega) (by omega) hc)
  have e2:=hup _ _ _ (refPush_run2 (2^24) 48 x (by omega) hc)
  have e3:=hup _ _ _ (Push_run (2^24) 48 (push false x) (by omega) (by omega) hc2)
  rw[push_idem 48 x hc] at e3
  have e4:=hup _ _ _ (upP (same461 (push false x) (by omega) hc2.clean))
  obtain ⟨w,hw⟩ : ∃ w,push false x=w:=⟨_,rfl⟩
  rw[hw] at e1 e2 e3 e4
  rw[encSch_eq x,encSch_eq w] at e1 e2
  rw[encSch_eq w] at e3 e4
  rw[encSchs_eq,encSch_eq x] at hb ⊢
  (repeat' first|simp (disch:=omega) only[go_sem,ac903,enter]|refine pure_of _ (hb) ?_|refine pure_of _ (e1) ?_|refine pure_of _ (e2) ?_|refine pure_of _ (e3) ?_|refine pure_of _ (e4) ?_|refine pure_of _ (haw) ?_|(apply spl<;>intro h<;>try simp (disch:=omega) only[go_sem,h]))
end Ago
