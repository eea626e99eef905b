/- Same of a schema and itself; what is clean is cloned as it is. -/
import Derived.Test.YtglenpfcanlbgaaGreatDoorPRunE
import Derived.Test.YtglenpfcanlbgaaGreatDoorPRunF
set_option linter.unusedSimpArgs false
set_option linter.unusedVariables false
set_option maxRecDepth 100000
set_option maxHeartbeats 16000000
namespace Ago
open Go (IntKind)
def patD:Nat→Pat→Prop
 | 0,_=>False
 | d+1,p=>∀ a,a∈p.a→patD d a
theorem patD_nodes : ∀ (d:Nat) (p:Pat),patNodes d p=true→patD d p
 | 0,p,h=>by cases h
 | d+1,p,h=>fun a ha=>by
  rw[patNodes_succ,Bool.and_eq_true,List.all_eq_true] at h
  exact patD_nodes d a (h.2 a ha)
theorem patD_nil {p:Pat} (h:patNil p=true):patD 48 p:=fun a ha=>by
 unfold patNil at h
 have h:=of_decide_eq_true h
 have:p.a=[]:=List.length_eq_zero_iff.1 h.2.2.2.2.2
 rw[this] at ha
 cases ha
theorem patSame_refl : ∀ (d:Nat) (D:Int),D=d→d<2^30→∀ x:Pat,x.bulk≤2^24→patD d x→PRun CS 567 [encPat x,encPat x,.int .i64 D] (.bool true):=by
 intro d
 induction d with
 | zero=>intro D hD hd x hx h; exact h.elim
 | succ d ih=>
  intro D hD hd x hx h
  have L:=Pat.lens hx
  have hal:=L.args
  refine prun_of ac567 rfl ?_
  rw[encPat_eq]
  (repeat' first|simp (disch:=omega) only[go_sem,ac567,enter,List.length_map,bne_self_eq_false]|(apply spl<;>intro h<;>try simp (disch:=omega) only[go_sem,h]))
  all_goals first | omega | skip
  refine loop_of (α:=Nat) (fun k=>{ tmps:=slots 75 [(2,.int .i64 D),(3,.ptr 6 0 0 0),(4,.ptr 6 1 0 0),(7,.int .i64 k)],heap:=[.row 6 [encPat x] false true 0,.row 6 [encPat x] false true 1],base:=0 }) (fun k=>k≤x.a.length) (fun k=>x.a.length-k) 0 (by rw[encPat_eq x]; rfl) (Nat.zero_le _) ?_
  intro k hk
  rw[encPat_eq x]
  by_cases hlt:k<x.a.length
  ·obtain ⟨y,hy⟩:=get_some hlt
   have hym:=List.mem_of_getElem? hy
   have hy2:=map_get (g:=encPat) hy
   have hr:=ih (D-1) (by omega) (by omega) y (by have:=L.kids y hym; omega) (h y hym)
   rw[encPat_eq y] at hy2 hr
   (repeat' first|simp (disch:=omega) only[go_sem,hy2,List.length_map]|refine pure_of _ (hr) ?_|(apply spl<;>intro h<;>try simp (disch:=omega) only[go_sem,h]))
   all_goals first | omega | skip
   exact ⟨k+1,rfl,hlt,by omega⟩
  ·(repeat' first|simp (disch:=omega) only[go_sem,List.length_map]|(apply spl<;>intro h<;>try simp (disch:=omega) only[go_sem,h]))
   all_goals omega
theorem patSameRefl_run (x:Pat) (hx:x.bulk≤2^24) (h:patD 48 x):PRun CS 523 [encPat x,encPat x] (.bool true):=by
 have h:=patSame_refl 48 48 rfl (by decide) x hx h
 refine prun_of ac523 rfl ?_
 rw[encPat_eq] at h ⊢
 (repeat' first|simp (disch:=omega) only[go_sem,ac523,enter]|refine pure_of _ (h) ?_|(apply spl<;>intro h<;>try simp (disch:=omega) only[go_sem,h]))
theorem setSame_refl (l:List Prt) (hl:l.length<2^31):PRun CS 522 [.agg [.tsl 11 (l.map encPrt)],.agg [.tsl 11 (l.map encPrt)]] (.bool true):=by
 refine prun_of ac522 rfl ?_
 (repeat' first|simp (disch:=omega) only[go_sem,ac522,enter,List.length_map,bne_self_eq_false]|(apply spl<;>intro h<;>try simp (disch:=omega) only[go_sem,h]))
 refine loop_of (α:=Nat) (fun k=>{ tmps:=slots 31 [(2,.ptr 1 0 0 0),(3,.ptr 1 1 0 0),(5,.int .i64 k)],heap:=[.row 1 [.agg [.tsl 11 (l.map encPrt)]] false true 0,.row 1 [.agg [.tsl 11 (l.map encPrt)]] false true 1],base:=0 }) (fun k=>k≤l.length) (fun k=>l.length-k) 0 rfl (Nat.zero_le _) ?_
 rintro k hk
 by_cases hlt:k<l.length
 ·obtain ⟨p,hp⟩:=get_some hlt
  have hp2:=map_get (g:=encPrt) hp
  simp only[encPrt] at hp2
  (repeat' first|simp (disch:=omega) only[go_sem,hp2,List.length_map]|(apply spl<;>intro h<;>try simp (disch:=omega) only[go_sem,h]))
  all_goals try omega
  exact ⟨k+1,rfl,hlt,by omega⟩
 ·(repeat' first|simp (disch:=omega) only[go_sem,List.length_map]|(apply spl<;>intro h<;>try simp (disch:=omega) only[go_sem,h]))
  all_goals omega
theorem listV_run (l:List V):PRun CS 529 [.tsl 13 (l.map encV)] (encV (.mk ⟨6,false,⟨false,[],0⟩,⟨0,0,0,0⟩,[],[]⟩ l [])):=by
 refine prun_of ac529 rfl ?_
 rw[encV_eq]
 (repeat' first|simp (disch:=omega) only[go_sem,ac529,enter]|(apply spl<;>intro h<;>try simp (disch:=omega) only[go_sem,h]))
 all_goals rfl
theorem sameAll_refl (l:List V) (hl:AV.bulks (l.map encV)≤2^23):PRun CS 524 [.tsl 13 (l.map encV),.tsl 13 (l.map encV)] (.bool true):=by
 have h1:=listV_run l
 have h2:=upS (sameRefl_run (2^24) (.mk ⟨6,false,⟨false,[],0⟩,⟨0,0,0,0⟩,[],[]⟩ l []) (by
  rw[V.bulk_eq]
  simp [V.s,V.l,V.f,encB,AV.bulks]
  omega) (Nat.le_refl _))
 refine prun_of ac524 rfl ?_
 rw[encV_eq] at h1 h2
 (repeat' first|simp (disch:=omega) only[go_sem,ac524,enter]|refine pure_of _ (h1) ?_|refine pure_of _ (h2) ?_|(apply spl<;>intro h<;>try simp (disch:=omega) only[go_sem,h]))
end Ago
set_option maxRecDepth 100000
set_option maxHeartbeats 16000000
namespace Ago
open Go (IntKind)
def CleanS:Nat→Sch→Prop
 | 0,_=>False
 | d+1,x=>(∀ v,v∈x.s.vals→cutV 65536 v=v)∧patD 48 x.s.pat∧∀ y,y∈x.kids→CleanS d y
theorem scal_cut {v:V} (h:scalM v=true):cutV 65536 v=v:=by
 unfold scalM at h
 rw[Bool.and_eq_true] at h
 obtain ⟨h1,h2⟩:=h
 have h1:=of_decide_eq_true h1
 have h2:=of_decide_eq_true h2
 have ho:ownM v=true:=by
  cases hb:ownM v with
  | true=>rfl
  | false=>
   exfalso
   have h3:oneM v=6:=by unfold oneM; rw[if_pos hb]
   have h4:lookM 49 v 1 0=(0,6):=by
    show (if (48:Int)<1 then _ else if (65536:Int)≤0 then _ else if oneM v≠0 then ((0:Int),oneM v) else _)=_
    rw[if_neg (by decide),if_neg (by decide),if_pos (by rw[h3]; decide),h3]
   unfold checkM at h2
   rw[h4] at h2
   cases h2
 unfold ownM at ho
 simp only[Bool.and_eq_true,Bool.or_eq_true,beq_iff_eq,decide_eq_true_eq] at ho
 have hl:v.l=[]:=by
  rcases ho.1.2 with h | h
  ·omega
  ·exact List.length_eq_zero_iff.1 (by omega)
 have hf:v.f=[]:=by
  rcases ho.2 with h | h
  ·omega
  ·exact List.length_eq_zero_iff.1 (by omega)
 obtain ⟨s,l,f⟩:=v
 have hl:l=[]:=hl
 have hf:f=[]:=hf
 subst hl hf
 rfl
theorem node_clean {s:Schs} {x:Sch} (h:nodeM s x=0):(∀ v,v∈x.s.vals→cutV 65536 v=v)∧patD 48 x.s.pat:=by
 have hf:formM x=true:=by
  cases hb:formM x with
  | true=>rfl
  | false=>
   unfold nodeM at h
   rw[if_pos hb] at h
   cases h
 unfold formM at hf
 rw[Bool.and_eq_true,Bool.and_eq_true] at hf
 obtain ⟨⟨_,hb⟩,hr⟩:=hf
 unfold blankM at hb
 rw[Bool.and_eq_true,Bool.and_eq_true] at hb
 obtain ⟨⟨hb1,_⟩,hb2⟩:=hb
 rw[Bool.or_eq_true] at hb2
 have hb1:=of_decide_eq_true hb1
 refine ⟨fun v hv=>?_,?_⟩
 ·have h8:x.s.op=8:=by
   rcases hb1.2.2.2.1 with h8 | h8
   ·exact h8
   ·rw[List.length_eq_zero_iff.1 h8] at hv
    cases hv
  rw[if_neg (by omega),if_neg (by omega),if_neg (by omega),if_neg (by omega),if_pos h8,Bool.and_eq_true,List.all_eq_true] at hr
  exact scal_cut (hr.1 v hv)
 ·rcases hb2 with h6 | hn
  ·have h6:=of_decide_eq_true h6
   rw[if_neg (by omega),if_neg (by omega),if_neg (by omega),if_pos h6] at hr
   unfold patOk at hr
   rw[Bool.and_eq_true] at hr
   exact patD_nodes _ _ hr.1
  ·exact patD_nil hn
theorem firstE_all {α:Type} {f:α→Int} : ∀ {l:List α},firstE (l.map f)=0→∀ x,x∈l→f x=0
 | [],_,x,hx=>by cases hx
 | y::l,h,x,hx=>by
  simp only[List.map_cons,firstE] at h
  by_cases hy:f y=0
  ·rw[if_pos hy] at h
   rcases List.mem_cons.1 hx with rfl | hx
   ·exact hy
   ·exact firstE_all h x hx
  ·rw[if_neg hy] at h
   exact (hy h).elim
theorem clean_of (s:Schs) : ∀ (d:Nat) (x:Sch),nodesM s d x=0→deepM d x=false→CleanS d x
 | 0,x,_,h2=>by rw[deepM_zero] at h2; cases h2
 | d+1,x,h1,h2=>by
  rw[nodesM_succ] at h1
  rw[deepM_succ] at h2
  have hn:nodeM s x=0:=by
   by_cases hn:nodeM s x=0
   ·exact hn
   ·rw[if_neg hn] at h1
    exact h1
  rw[if_pos hn] at h1
  obtain ⟨k1,k2⟩:=node_clean hn
  refine ⟨k1,k2,fun y hy=>clean_of s d y (firstE_all h1 y hy) ?_⟩
  have:=List.any_eq_false.1 h2 y hy
  simpa using this
theorem schSame_refl : ∀ (d:Nat) (D:Int),D=d→d<2^30→∀ x:Sch,x.bulk≤2^22→CleanS d x→PRun CS 494 [encSch x,encSch x,.int .i64 D] (.bool true):=by
 intro d
 induction d with
 | zero=>intro D hD hd x hx h; exact h.elim
 | succ d ih=>
  intro D hD hd x hx h
  obtain ⟨_,hpd,hkd⟩:=h
  have L:=Sch.lens (N:=2^24) (v:=x) (by omega)
  have q1:=setSame_refl x.s.parts (by have:=L.parts; omega)
  have q2:=patSameRefl_run x.s.pat (by have:=L.pat; omega) hpd
  have q3:=sameAll_refl x.s.vals (by have:=x.bulk_eq; omega)
  have q4:=refParts_run x (by omega)
  have hkl:=kids_len x
  have hpp:=L.props
  rw[encPat_eq] at q2
  rw[encSch_eq] at q4
  refine prun_of ac494 rfl ?_
  rw[encSch_eq]
  (repeat' first|simp (disch:=omega) only[go_sem,ac494,enter,List.length_map,bne_self_eq_false]|refine pure_of _ (q1) ?_|refine pure_of _ (q2) ?_|refine pure_of _ (q3) ?_|refine pure_of _ (q4) ?_|(apply spl<;>intro h<;>try simp (disch:=omega) only[go_sem,h]))
  all_goals first | omega | skip
  refine loop_of (α:=Nat) (fun k=>{ tmps:=slots 145 [(2,.int .i64 D),(3,.ptr 15 0 0 0),(4,.ptr 15 1 0 0),(7,.int .i64 k)],heap:=[.row 15 [encSch x] false true 0,.row 15 [encSch x] false true 1],base:=0 }) (fun k=>k≤x.p.length) (fun k=>x.p.length-k) 0 (by rw[encSch_eq x]; rfl) (Nat.zero_le _) ?_
  intro k hk
  rw[encSch_eq x]
  by_cases hlt:k<x.p.length
  ·obtain ⟨y,hy⟩:=get_some hlt
   have hy2:=map_get (g:=encPr) hy
   rw[encPr_eq y] at hy2
   (repeat' first|simp (disch:=omega) only[go_sem,hy2,List.length_map,bne_self_eq_false]|(apply spl<;>intro h<;>try simp (disch:=omega) only[go_sem,h]))
   all_goals first | omega | skip
   exact ⟨k+1,rfl,hlt,by omega⟩
  ·have hk2:k=x.p.length:=by omega
   subst hk2
   (repeat' first|simp (disch:=omega) only[go_sem,List.length_map]|refine pure_of _ (q4) ?_|(apply spl<;>intro h<;>try simp (disch:=omega) only[go_sem,h]))
   all_goals first | omega | skip
   refine loop_of (α:=Nat) (fun k=>{ tmps:=slots 145 [(2,.int .i64 D),(8,.tsl 15 (x.kids.map encSch)),(9,.tsl 15 (x.kids.map encSch)),(10,.int .i64 k)],heap:=[],base:=0 }) (fun k=>k≤x.kids.length) (fun k=>x.kids.length-k) 0 (by rfl) (Nat.zero_le _) ?_
   intro k hk
   by_cases hlt:k<x.kids.length
   ·obtain ⟨y,hy⟩:=get_some hlt
    have hym:=List.mem_of_getElem? hy
    have hy2:=map_get (g:=encSch) hy
    have hyb:=Sch.kids_bulk hym
    have hr:=ih (D-1) (by omega) (by omega) y (by omega) (hkd y hym)
    rw[encSch_eq] at hy2 hr
    (repeat' first|simp (disch:=omega) only[go_sem,hy2,List.length_map]|refine pure_of _ (hr) ?_|(apply spl<;>intro h<;>try simp (disch:=omega) only[go_sem,h]))
    all_goals first | omega | skip
    exact ⟨k+1,rfl,hlt,by omega⟩
   ·(repeat' first|simp (disch:=omega) only[go_sem,List.length_map]|(apply spl<;>intro h<;>try simp (disch:=omega) only[go_sem,h]))
    all_goals first | omega | skip
end Ago
set_option maxRecDepth 100000
set_option maxHeartbeats 16000000
namespace Ago
open Go (IntKind)
theorem defsE_all (s:Schs) : ∀ (l pre:List (List UInt8 × Sch)),defsE s pre l=0→∀ d,d∈l→nodesM s 48 d.2=0
 | [],_,_,d,hd=>by cases hd
 | e::l,pre,h,d,hd=>by
  have h:(if nameOkM e.1=false then (1:Int) else if (pre.any fun x=>x.1 == e.1)=true then 8 else if nodesM s 48 e.2=0 then defsE s (pre++[e]) l else nodesM s 48 e.2)=0:=h
  by_cases h1:nameOkM e.1=false
  ·rw[if_pos h1] at h
   cases h
  ·rw[if_neg h1] at h
   by_cases h2:(pre.any fun x=>x.1 == e.1)=true
   ·rw[if_pos h2] at h
    cases h
   ·rw[if_neg h2] at h
    by_cases h3:nodesM s 48 e.2=0
    ·rw[if_pos h3] at h
     rcases List.mem_cons.1 hd with rfl | hd
     ·exact h3
     ·exact defsE_all s l _ h d hd
    ·rw[if_neg h3] at h
     exact (h3 h).elim
theorem found_clean {s:Schs} {g:Bool} (h:schkM s g=0) {name:List UInt8} (hf:(lkM s name).2=true):CleanS 48 (lkM s name).1∧∃ d,d∈s.defs∧(lkM s name).1=d.2:=by
 have h1:defsE s [] s.defs=0:=by
  by_cases h1:defsE s [] s.defs=0
  ·exact h1
  ·unfold schkM at h
   rw[if_neg h1] at h
   exact h
 unfold schkM at h
 rw[if_pos h1] at h
 have h2:nodesM s 48 s.root=0:=by
  by_cases h2:nodesM s 48 s.root=0
  ·exact h2
  ·rw[if_neg h2] at h
   exact h
 rw[if_pos h2] at h
 have h3:dDeep s.defs=false:=by
  cases hb:dDeep s.defs with
  | false=>rfl
  | true=>
   rw[if_pos (by rw[hb]; rfl)] at h
   cases h
 cases hq:s.defs.find? (fun d=>d.1 == name) with
 | none=>
  unfold lkM at hf
  rw[hq] at hf
  cases hf
 | some d=>
  have hm:=List.mem_of_find?_eq_some hq
  have hl:lkM s name=(d.2,true):=by unfold lkM; rw[hq]
  rw[hl]
  refine ⟨clean_of s 48 d.2 (defsE_all s _ _ h1 d hm) ?_,d,hm,rfl⟩
  unfold dDeep at h3
  have:=List.any_eq_false.1 h3 d hm
  simpa using this
end Ago
set_option maxRecDepth 100000
set_option maxHeartbeats 16000000
namespace Ago
open Go (IntKind)
theorem patterns_ex : ∀ (n:Nat) (p:Pat),p.bulk≤n→n≤2^24→∃ b,PRun CS 578 [encPat p] (.bool b):=by
 intro n
 induction n with
 | zero=>
  intro p h1 h2
  have:=pat_bulk_pos p
  omega
 | succ n ih=>
  intro p h1 h2
  have L:=Pat.lens (p:=p) (N:=2^24) (by omega)
  have hal:=L.args
  have h:=prunE_of (C:=CS) (f:=578) (ts:=[encPat p]) (k:=fun w=>∃ b,w = .bool b) ac578 rfl (by
   rw[encPat_eq]
   (repeat' first|simp (disch:=omega) only[go_sem,ac578,enter,List.length_map]|(apply spl<;>intro h<;>try simp (disch:=omega) only[go_sem,h]))
   all_goals first | exact ⟨_,rfl⟩ | omega | skip
   all_goals
    refine loop_of (α:=Nat) (fun k=>{ tmps:=slots 31 [(1,.ptr 6 0 0 0),(3,.int .i64 k)],heap:=[.row 6 [encPat p] false true 0],base:=0 }) (fun k=>k≤p.a.length) (fun k=>p.a.length-k) 0 (by first | (rw[encPat_eq p]; rfl) | (simp only[*,encPat_eq p]; rfl)) (Nat.zero_le _) ?_
    intro k hk
    rw[encPat_eq p]
    by_cases hlt:k<p.a.length
    ·obtain ⟨y,hy⟩:=get_some hlt
     have hym:=List.mem_of_getElem? hy
     have hy2:=map_get (g:=encPat) hy
     obtain ⟨c,hr⟩:=ih y (by have:=L.kids y hym; omega) (by omega)
     rw[encPat_eq y] at hy2 hr
     cases c with
     | true=>
      (repeat' first|simp (disch:=omega) only[go_sem,hy2,List.length_map]|refine pure_of _ (hr) ?_|(apply spl<;>intro h<;>try simp (disch:=omega) only[go_sem,h]))
      all_goals first | omega | skip
      exact ⟨k+1,rfl,hlt,by omega⟩
     | false=>
      (repeat' first|simp (disch:=omega) only[go_sem,hy2,List.length_map]|refine pure_of _ (hr) ?_|(apply spl<;>intro h<;>try simp (disch:=omega) only[go_sem,h]))
      all_goals first | exact ⟨_,rfl⟩ | omega
    ·(repeat' first|simp (disch:=omega) only[go_sem,List.length_map]|(apply spl<;>intro h<;>try simp (disch:=omega) only[go_sem,h]))
     all_goals first | exact ⟨_,rfl⟩ | omega)
  obtain ⟨w,k1,b,rfl⟩:=h
  exact ⟨b,k1⟩
theorem light_ex : ∀ (d:Nat) (D:Int),D≤d→-1≤D→d<2^30→∀ x:Sch,x.bulk≤2^24→∃ b,PRun CS 546 [encSch x,.int .i64 D] (.bool b):=by
 intro d
 induction d with
 | zero=>
  intro D hD hD2 hd x hx
  have L:=Sch.lens hx
  have hr:=refSizeP_run x.s.pat (by have:=L.pat; omega)
  obtain ⟨c,hc⟩:=patterns_ex (2^24) x.s.pat (by have:=L.pat; omega) (Nat.le_refl _)
  have hcn:=cntP_le 48 x.s.pat
  have hpb:=L.pat
  have h:=prunE_of (C:=CS) (f:=546) (ts:=[encSch x,.int .i64 D]) (k:=fun w=>∃ b,w = .bool b) ac546 rfl (by
   rw[encSch_eq]
   rw[encPat_eq] at hr hc
   (repeat' first|simp (disch:=omega) only[go_sem,ac546,enter,List.length_map]|refine pure_of _ (hr) ?_|refine pure_of _ (hc) ?_|(apply spl<;>intro h<;>try simp (disch:=omega) only[go_sem,h]))
   all_goals first | exact ⟨_,rfl⟩ | omega)
  obtain ⟨w,k1,b,rfl⟩:=h
  exact ⟨b,k1⟩
 | succ d ih=>
  intro D hD hD2 hd x hx
  by_cases hD1:D<1
  ·exact (by
    have L:=Sch.lens hx
    have hr:=refSizeP_run x.s.pat (by have:=L.pat; omega)
    obtain ⟨c,hc⟩:=patterns_ex (2^24) x.s.pat (by have:=L.pat; omega) (Nat.le_refl _)
    have hcn:=cntP_le 48 x.s.pat
    have hpb:=L.pat
    have h:=prunE_of (C:=CS) (f:=546) (ts:=[encSch x,.int .i64 D]) (k:=fun w=>∃ b,w = .bool b) ac546 rfl (by
     rw[encSch_eq]
     rw[encPat_eq] at hr hc
     (repeat' first|simp (disch:=omega) only[go_sem,ac546,enter,List.length_map]|refine pure_of _ (hr) ?_|refine pure_of _ (hc) ?_|(apply spl<;>intro h<;>try simp (disch:=omega) only[go_sem,h]))
     all_goals first | exact ⟨_,rfl⟩ | omega)
    obtain ⟨w,k1,b,rfl⟩:=h
    exact ⟨b,k1⟩)
  have L:=Sch.lens hx
  have hr:=refSizeP_run x.s.pat (by have:=L.pat; omega)
  obtain ⟨c,hc⟩:=patterns_ex (2^24) x.s.pat (by have:=L.pat; omega) (Nat.le_refl _)
  have hcn:=cntP_le 48 x.s.pat
  have hpb:=L.pat
  have hp:=refParts_run x hx
  have hkl:=kids_len x
  have h:=prunE_of (C:=CS) (f:=546) (ts:=[encSch x,.int .i64 D]) (k:=fun w=>∃ b,w = .bool b) ac546 rfl (by
   by_cases hbig:(cntP 48 x.s.pat:Int)≤30
   ·cases c with
    | false=>
     rw[encSch_eq]
     rw[encPat_eq] at hr hc
     (repeat' first|simp (disch:=omega) only[go_sem,ac546,enter,List.length_map]|refine pure_of _ (hr) ?_|refine pure_of _ (hc) ?_|(apply spl<;>intro h<;>try simp (disch:=omega) only[go_sem,h]))
     all_goals first | exact ⟨_,rfl⟩ | omega
    | true=>
     rw[encSch_eq] at hp ⊢
     rw[encPat_eq] at hr hc
     (repeat' first|simp (disch:=omega) only[go_sem,ac546,enter,List.length_map]|refine pure_of _ (hr) ?_|refine pure_of _ (hc) ?_|refine pure_of _ (hp) ?_|(apply spl<;>intro h<;>try simp (disch:=omega) only[go_sem,h]))
     all_goals first | exact ⟨_,rfl⟩ | omega | skip
     refine loop_of (α:=Nat) (fun a=>{ tmps:=slots 37 [(1,.int .i64 D),(5,.tsl 15 (x.kids.map encSch)),(6,.int .i64 a)],heap:=[],base:=0 }) (fun a=>a≤x.kids.length) (fun a=>x.kids.length-a) 0 rfl (Nat.zero_le _) ?_
     intro k hk
     by_cases hlt:k<x.kids.length
     ·obtain ⟨y,hy⟩:=get_some hlt
      have hym:=List.mem_of_getElem? hy
      have hy2:=map_get (g:=encSch) hy
      obtain ⟨e,he⟩:=ih (D-1) (by omega) (by omega) (by omega) y (by have:=Sch.kids_bulk hym; omega)
      rw[encSch_eq] at hy2 he
      cases e with
      | true=>
       (repeat' first|simp (disch:=omega) only[go_sem,hy2,List.length_map]|refine pure_of _ (he) ?_|(apply spl<;>intro h<;>try simp (disch:=omega) only[go_sem,h]))
       all_goals first | omega | skip
       exact ⟨k+1,rfl,hlt,by omega⟩
      | false=>
       (repeat' first|simp (disch:=omega) only[go_sem,hy2,List.length_map]|refine pure_of _ (he) ?_|(apply spl<;>intro h<;>try simp (disch:=omega) only[go_sem,h]))
       all_goals first | exact ⟨_,rfl⟩ | omega
     ·(repeat' first|simp (disch:=omega) only[go_sem,List.length_map]|(apply spl<;>intro h<;>try simp (disch:=omega) only[go_sem,h]))
      all_goals first | exact ⟨_,rfl⟩ | omega
   ·rw[encSch_eq]
    rw[encPat_eq] at hr hc
    (repeat' first|simp (disch:=omega) only[go_sem,ac546,enter,List.length_map]|refine pure_of _ (hr) ?_|refine pure_of _ (hc) ?_|(apply spl<;>intro h<;>try simp (disch:=omega) only[go_sem,h]))
    all_goals first | exact ⟨_,rfl⟩ | omega)
  obtain ⟨w,k1,b,rfl⟩:=h
  exact ⟨b,k1⟩
theorem lk_bulk {s:Schs} (hs:s.bulk≤2^24) (n:List UInt8):(lkM s n).1.bulk≤2^24:=by
 unfold lkM
 split
 ·rename_i d hd
  have:=((Schs.dlen hs).2 d (List.mem_of_find?_eq_some hd)).1
  show d.2.bulk≤_
  omega
 ·decide
theorem unrolled_ex (s:Schs) (hs:s.bulk≤2^24) : ∀ (n:Nat) (left:Int),0≤left→left<n→n≤2^30→∀ (x:Sch) (D:Int),x.bulk≤2^24→0≤D→D≤8→∃ r:Int,PRun CS 545 [encSchs s,encSch x,.int .i64 D,.int .i64 left] (.int .i64 r)∧-1≤r∧r<left:=by
 intro n
 induction n with
 | zero=>intro left h0 h1; omega
 | succ n ih=>
  intro left h0 h1 hn x D hx hD0 hD8
  have hp:=refParts_run x hx
  have hkl:=kids_len x
  have hse:=encSchs_eq s
  have h:=prunE_of (C:=CS) (f:=545) (ts:=[encSchs s,encSch x,.int .i64 D,.int .i64 left]) (k:=fun w=>∃ r:Int,w = .int .i64 r∧-1≤r∧r<left) ac545 rfl (by
   rw[encSch_eq] at hp
   by_cases hstop:left-1<0∨D<1
   ·rw[encSchs_eq,encSch_eq]
    by_cases hl0:left-1<0
    ·(repeat' first|simp (disch:=omega) only[go_sem,ac545,enter,List.length_map]|refine pure_of _ (hp) ?_|(apply spl<;>intro h<;>try simp (disch:=omega) only[go_sem,h]))
     all_goals first | exact ⟨_,rfl,by omega,by omega⟩ | omega
    ·(repeat' first|simp (disch:=omega) only[go_sem,ac545,enter,List.length_map]|refine pure_of _ (hp) ?_|(apply spl<;>intro h<;>try simp (disch:=omega) only[go_sem,h]))
     all_goals first | exact ⟨_,rfl,by omega,by omega⟩ | omega
   ·have hs1:0≤left-1:=by omega
    have hs2:1≤D:=by omega
    clear hstop
    by_cases h14:x.s.op=14
    ·have hlk:=refLookup_run s x.s.name hs
     cases hf:(lkM s x.s.name).2 with
     | false=>
      rw[hf] at hlk
      rw[encSchs_eq,encSch_eq] at hlk ⊢
      (repeat' first|simp (disch:=omega) only[go_sem,ac545,enter,h14]|refine pure_of _ (hlk) ?_|(apply spl<;>intro h<;>try simp (disch:=omega) only[go_sem,h]))
      all_goals first | exact ⟨_,rfl,by omega,by omega⟩ | omega
     | true=>
      rw[hf] at hlk
      obtain ⟨r,he,hr1,hr2⟩:=ih (left-1) (by omega) (by omega) (by omega) (lkM s x.s.name).1 D (lk_bulk hs _) (by omega) (by omega)
      rw[encSchs_eq,encSch_eq] at hlk he
      rw[encSchs_eq,encSch_eq]
      (repeat' first|simp (disch:=omega) only[go_sem,ac545,enter,h14]|refine pure_of _ (hlk) ?_|refine pure_of _ (he) ?_|(apply spl<;>intro h<;>try simp (disch:=omega) only[go_sem,h]))
      all_goals first | exact ⟨_,rfl,by omega,by omega⟩ | omega
    ·by_cases h9:x.s.op=9
     ·obtain ⟨E,hE⟩ : ∃ E,E=D-1:=⟨_,rfl⟩
      rw[encSchs_eq,encSch_eq]
      rw[h9] at hp
      (repeat' first|simp (disch:=omega) only[go_sem,ac545,enter,List.length_map,h9,←hE]|refine pure_of _ (hp) ?_|(apply spl<;>intro h<;>try simp (disch:=omega) only[go_sem,h]))
      all_goals first | omega | skip
      refine loop_of (α:=Nat × Int) (fun a=>{ tmps:=slots 70 [(2,.int .i64 E),(3,.int .i64 a.2),(4,.ptr 16 0 0 0),(11,.tsl 15 (x.kids.map encSch)),(12,.int .i64 a.1)],heap:=[.row 16 [encSchs s] false true 0],base:=0 }) (fun a=>a.1≤x.kids.length∧-1≤a.2∧a.2<left) (fun a=>x.kids.length-a.1) (0,left-1) (by rw[hse]; rfl) ⟨Nat.zero_le _,by omega⟩ ?_
      intro ⟨k,l⟩ ⟨hk,hl1,hl2⟩
      dsimp only at hk hl1 hl2 ⊢
      rw[hse]
      by_cases hlt:k<x.kids.length∧0≤l
      ·obtain ⟨hlt,hl0⟩:=hlt
       obtain ⟨y,hy⟩:=get_some hlt
       have hym:=List.mem_of_getElem? hy
       have hy2:=map_get (g:=encSch) hy
       obtain ⟨r,he,hr1,hr2⟩:=ih l hl0 (by omega) (by omega) y E (by have:=Sch.kids_bulk hym; omega) (by omega) (by omega)
       rw[encSchs_eq,encSch_eq] at he
       rw[encSch_eq] at hy2
       (repeat' first|simp (disch:=omega) only[go_sem,hy2,List.length_map]|refine pure_of _ (he) ?_|(apply spl<;>intro h<;>try simp (disch:=omega) only[go_sem,h]))
       all_goals first | omega | skip
       exact ⟨(k+1,r),rfl,⟨hlt,hr1,by omega⟩,by dsimp only; omega⟩
      ·by_cases hlt2:k<x.kids.length
       ·(repeat' first|simp (disch:=omega) only[go_sem,List.length_map]|(apply spl<;>intro h<;>try simp (disch:=omega) only[go_sem,h]))
        all_goals first | exact ⟨_,rfl,by omega,by omega⟩ | omega
       ·(repeat' first|simp (disch:=omega) only[go_sem,List.length_map]|(apply spl<;>intro h<;>try simp (disch:=omega) only[go_sem,h]))
        all_goals first | exact ⟨_,rfl,by omega,by omega⟩ | omega
     ·by_cases h10:x.s.op=10
      ·obtain ⟨E,hE⟩ : ∃ E,E=D-1:=⟨_,rfl⟩
       rw[encSchs_eq,encSch_eq]
       rw[h10] at hp
       (repeat' first|simp (disch:=omega) only[go_sem,ac545,enter,List.length_map,h10,←hE]|refine pure_of _ (hp) ?_|(apply spl<;>intro h<;>try simp (disch:=omega) only[go_sem,h]))
       all_goals first | omega | skip
       refine loop_of (α:=Nat × Int) (fun a=>{ tmps:=slots 70 [(2,.int .i64 E),(3,.int .i64 a.2),(4,.ptr 16 0 0 0),(11,.tsl 15 (x.kids.map encSch)),(12,.int .i64 a.1)],heap:=[.row 16 [encSchs s] false true 0],base:=0 }) (fun a=>a.1≤x.kids.length∧-1≤a.2∧a.2<left) (fun a=>x.kids.length-a.1) (0,left-1) (by rw[hse]; rfl) ⟨Nat.zero_le _,by omega⟩ ?_
       intro ⟨k,l⟩ ⟨hk,hl1,hl2⟩
       dsimp only at hk hl1 hl2 ⊢
       rw[hse]
       by_cases hlt:k<x.kids.length∧0≤l
       ·obtain ⟨hlt,hl0⟩:=hlt
        obtain ⟨y,hy⟩:=get_some hlt
        have hym:=List.mem_of_getElem? hy
        have hy2:=map_get (g:=encSch) hy
        obtain ⟨r,he,hr1,hr2⟩:=ih l hl0 (by omega) (by omega) y E (by have:=Sch.kids_bulk hym; omega) (by omega) (by omega)
        rw[encSchs_eq,encSch_eq] at he
        rw[encSch_eq] at hy2
        (repeat' first|simp (disch:=omega) only[go_sem,hy2,List.length_map]|refine pure_of _ (he) ?_|(apply spl<;>intro h<;>try simp (disch:=omega) only[go_sem,h]))
        all_goals first | omega | skip
        exact ⟨(k+1,r),rfl,⟨hlt,hr1,by omega⟩,by dsimp only; omega⟩
       ·by_cases hlt2:k<x.kids.length
        ·(repeat' first|simp (disch:=omega) only[go_sem,List.length_map]|(apply spl<;>intro h<;>try simp (disch:=omega) only[go_sem,h]))
         all_goals first | exact ⟨_,rfl,by omega,by omega⟩ | omega
        ·(repeat' first|simp (disch:=omega) only[go_sem,List.length_map]|(apply spl<;>intro h<;>try simp (disch:=omega) only[go_sem,h]))
         all_goals first | exact ⟨_,rfl,by omega,by omega⟩ | omega
      ·obtain ⟨E,hE⟩ : ∃ E,E=D:=⟨_,rfl⟩
       rw[encSchs_eq,encSch_eq]
       (repeat' first|simp (disch:=omega) only[go_sem,ac545,enter,List.length_map,h14,h9,h10]|refine pure_of _ (hp) ?_|(apply spl<;>intro h<;>try simp (disch:=omega) only[go_sem,h]))
       all_goals first | omega | skip
       refine loop_of (α:=Nat × Int) (fun a=>{ tmps:=slots 70 [(2,.int .i64 E),(3,.int .i64 a.2),(4,.ptr 16 0 0 0),(11,.tsl 15 (x.kids.map encSch)),(12,.int .i64 a.1)],heap:=[.row 16 [encSchs s] false true 0],base:=0 }) (fun a=>a.1≤x.kids.length∧-1≤a.2∧a.2<left) (fun a=>x.kids.length-a.1) (0,left-1) (by rw[hse,hE]; rfl) ⟨Nat.zero_le _,by omega⟩ ?_
       intro ⟨k,l⟩ ⟨hk,hl1,hl2⟩
       dsimp only at hk hl1 hl2 ⊢
       rw[hse]
       by_cases hlt:k<x.kids.length∧0≤l
       ·obtain ⟨hlt,hl0⟩:=hlt
        obtain ⟨y,hy⟩:=get_some hlt
        have hym:=List.mem_of_getElem? hy
        have hy2:=map_get (g:=encSch) hy
        obtain ⟨r,he,hr1,hr2⟩:=ih l hl0 (by omega) (by omega) y E (by have:=Sch.kids_bulk hym; omega) (by omega) (by omega)
        rw[encSchs_eq,encSch_eq] at he
        rw[encSch_eq] at hy2
        (repeat' first|simp (disch:=omega) only[go_sem,hy2,List.length_map]|refine pure_of _ (he) ?_|(apply spl<;>intro h<;>try simp (disch:=omega) only[go_sem,h]))
        all_goals first | omega | skip
        exact ⟨(k+1,r),rfl,⟨hlt,hr1,by omega⟩,by dsimp only; omega⟩
       ·by_cases hlt2:k<x.kids.length
        ·(repeat' first|simp (disch:=omega) only[go_sem,List.length_map]|(apply spl<;>intro h<;>try simp (disch:=omega) only[go_sem,h]))
         all_goals first | exact ⟨_,rfl,by omega,by omega⟩ | omega
        ·(repeat' first|simp (disch:=omega) only[go_sem,List.length_map]|(apply spl<;>intro h<;>try simp (disch:=omega) only[go_sem,h]))
         all_goals first | exact ⟨_,rfl,by omega,by omega⟩ | omega)
  obtain ⟨w,k1,r,rfl,k2,k3⟩:=h
  exact ⟨r,k1,k2,k3⟩
theorem Light0_ex (s:Schs) (hs:s.bulk≤2^24) : ∃ b,PRun CS 500 [encSchs s] (.bool b):=by
 obtain ⟨hd1,hd2⟩:=Schs.dlen hs
 have hse:=encSchs_eq s
 have hrb:s.root.bulk≤2^24:=by have:=s.bulk_eq; omega
 obtain ⟨u,hu,hu1,hu2⟩:=unrolled_ex s hs 20001 20000 (by decide) (by decide) (by decide) s.root 8 hrb (by decide) (by decide)
 obtain ⟨b,hb⟩:=light_ex 10 10 (by decide) (by decide) (by decide) s.root hrb
 have hz:=refSize_run s.root hrb
 have hzc:=cnt_le 48 s.root
 have h:=prunE_of (C:=CS) (f:=500) (ts:=[encSchs s]) (k:=fun w=>∃ b,w = .bool b) ac500 rfl (by
  by_cases h6:s.defs.length≤6
  ·by_cases hu0:u<0
   ·rw[encSch_eq] at hu hb hz
    rw[encSchs_eq] at hu ⊢
    (repeat' first|simp (disch:=omega) only[go_sem,ac500,enter,List.length_map]|refine pure_of _ (hb) ?_|refine pure_of _ (hz) ?_|refine pure_of _ (hu) ?_|(apply spl<;>intro h<;>try simp (disch:=omega) only[go_sem,h]))
    all_goals first | exact ⟨_,rfl⟩ | omega
   ·rw[encSch_eq] at hu hb hz
    rw[encSchs_eq] at hu ⊢
    (repeat' first|simp (disch:=omega) only[go_sem,ac500,enter,List.length_map]|refine pure_of _ (hb) ?_|refine pure_of _ (hz) ?_|refine pure_of _ (hu) ?_|(apply spl<;>intro h<;>try simp (disch:=omega) only[go_sem,h]))
    all_goals first | exact ⟨_,rfl⟩ | omega | skip
    refine loop_of (α:=Nat × Nat) (fun a=>{ tmps:=slots 61 [(1,.ptr 16 0 0 0),(3,.int .i64 a.2),(4,.int .i64 a.1)],heap:=[.row 16 [encSchs s] false true 0],base:=0 }) (fun a=>a.1≤s.defs.length∧a.2≤(a.1+1) * 2^25) (fun a=>s.defs.length-a.1) (0,cntM 48 s.root) (by rw[hse]; rfl) ⟨Nat.zero_le _,by omega⟩ ?_
    intro ⟨k,n⟩ ⟨hk,hn⟩
    rw[hse]
    dsimp only at hk hn ⊢
    by_cases hlt:k<s.defs.length
    ·obtain ⟨d,hdk⟩:=get_some hlt
     have hde:=map_get (g:=encDef) hdk
     obtain ⟨hdb,hdn⟩:=hd2 d (List.mem_of_getElem? hdk)
     obtain ⟨v,hv,hv1,hv2⟩:=unrolled_ex s hs 20001 20000 (by decide) (by decide) (by decide) d.2 8 (by omega) (by decide) (by decide)
     obtain ⟨c,hc⟩:=light_ex 10 10 (by decide) (by decide) (by decide) d.2 (by omega)
     have hy:=refSize_run d.2 (by omega)
     have hyc:=cnt_le 48 d.2
     rw[encDef_eq] at hde
     rw[hse] at hv
     rw[encSch_eq] at hc hy hv
     cases c with
     | false=>
      (repeat' first|simp (disch:=omega) only[go_sem,hde,List.length_map]|refine pure_of _ (hc) ?_|refine pure_of _ (hy) ?_|refine pure_of _ (hv) ?_|(apply spl<;>intro h<;>try simp (disch:=omega) only[go_sem,h]))
      all_goals first | exact ⟨_,rfl⟩ | omega
     | true=>
      by_cases hv0:v<0
      ·(repeat' first|simp (disch:=omega) only[go_sem,hde,List.length_map]|refine pure_of _ (hc) ?_|refine pure_of _ (hy) ?_|refine pure_of _ (hv) ?_|(apply spl<;>intro h<;>try simp (disch:=omega) only[go_sem,h]))
       all_goals first | exact ⟨_,rfl⟩ | omega
      ·(repeat' first|simp (disch:=omega) only[go_sem,hde,List.length_map]|refine pure_of _ (hc) ?_|refine pure_of _ (hy) ?_|refine pure_of _ (hv) ?_|(apply spl<;>intro h<;>try simp (disch:=omega) only[go_sem,h]))
       all_goals first | omega | skip
       refine ⟨(k+1,n+cntM 48 d.2),?_,⟨hlt,by dsimp only; omega⟩,by dsimp only; omega⟩
       dsimp only
       rw[Int.natCast_add]
       rfl
    ·(repeat' first|simp (disch:=omega) only[go_sem,List.length_map]|refine pure_of _ (hb) ?_|(apply spl<;>intro h<;>try simp (disch:=omega) only[go_sem,h]))
     all_goals first | exact ⟨_,rfl⟩ | omega
  ·rw[encSchs_eq]
   (repeat' first|simp (disch:=omega) only[go_sem,ac500,enter,List.length_map]|(apply spl<;>intro h<;>try simp (disch:=omega) only[go_sem,h]))
   all_goals first | exact ⟨_,rfl⟩ | omega)
 obtain ⟨w,k1,c,rfl⟩:=h
 exact ⟨c,k1⟩
theorem Light_ex (s:Schs) (hs:s.bulk≤2^24) : ∃ b,PRun CS 467 [encSchs s] (.bool b)∧(b=true→s.defs.length≤70):=by
 obtain ⟨b,hb,h70⟩:=SmallAll_ex s hs
 obtain ⟨c,hc⟩:=Light0_ex s hs
 rw[encSchs_eq] at hb hc ⊢
 cases b with
 | false=>
  refine ⟨false,prun_of ac467 rfl ?_,fun h=>Bool.noConfusion h⟩
  (repeat' first|simp (disch:=omega) only[go_sem,ac467,enter]|refine pure_of _ (hb) ?_|refine pure_of _ (hc) ?_|(apply spl<;>intro h<;>try simp (disch:=omega) only[go_sem,h]))
 | true=>
  refine ⟨c,prun_of ac467 rfl ?_,fun _=>h70 rfl⟩
  (repeat' first|simp (disch:=omega) only[go_sem,ac467,enter]|refine pure_of _ (hb) ?_|refine pure_of _ (hc) ?_|(apply spl<;>intro h<;>try simp (disch:=omega) only[go_sem,h]))
end Ago
set_option maxRecDepth 100000
set_option maxHeartbeats 4000000
namespace Ago
open Go (IntKind)
def unfM (s:Schs):Nat→Sch→Sch
 | 0,x=>x
 | n+1,x=>if x.s.op=14 then unfM s n (lkM s x.s.name).1 else x
theorem unf_end {s:Schs} {x:Sch} (h:x.s.op≠14) : ∀ n,unfM s n x=x
 | 0=>rfl
 | n+1=>if_neg h
theorem unf_step {s:Schs} {x:Sch} (h:x.s.op=14) (n:Nat):unfM s (n+1) x=unfM s n (lkM s x.s.name).1:=if_pos h
structure ChainP (s:Schs) (x:Sch) (seen:List (List UInt8)):Prop where
 nd:seen.Nodup
 inn : ∀ n,n∈seen→n∈s.defs.map (·.1)
 ok:nodeM s x=0
 cl:CleanS 48 x
 bulk:x.bulk≤s.bulk
 rc:x.s.op=14→∀ n,n∈seen→Rc s (lkN s n) x.s.name
theorem schk_parts {s:Schs} {g:Bool} (h:schkM s g=0):defsE s [] s.defs=0∧nodesM s 48 s.root=0∧dDeep s.defs=false∧deepM 48 s.root=false∧g=true:=by
 unfold schkM at h
 by_cases h1:defsE s [] s.defs=0
 ·rw[if_pos h1] at h
  by_cases h2:nodesM s 48 s.root=0
  ·rw[if_pos h2] at h
   cases h3:dDeep s.defs with
   | true=>rw[h3,Bool.true_or,if_pos rfl] at h; cases h
   | false=>
    cases h4:deepM 48 s.root with
    | true=>rw[h3,h4,Bool.false_or,if_pos rfl] at h; cases h
    | false=>
     rw[h3,h4,Bool.false_or,if_neg (by decide)] at h
     split at h
     ·cases h
     ·cases g with
      | false=>rw[if_pos rfl] at h; cases h
      | true=>exact ⟨h1,h2,rfl,rfl,rfl⟩
  ·rw[if_neg h2] at h
   exact (h2 h).elim
 ·rw[if_neg h1] at h
  exact (h1 h).elim
theorem nodes_head {s:Schs} {d:Nat} {x:Sch} (h:nodesM s (d+1) x=0):nodeM s x=0:=by
 rw[nodesM_succ] at h
 by_cases hn:nodeM s x=0
 ·exact hn
 ·rw[if_neg hn] at h
  exact h
theorem ChainP.step {s:Schs} {x:Sch} {seen:List (List UInt8)} (h:schkM s (guardM s).2=0) (hc:ChainP s x seen) (h14:x.s.op=14) :
  (lkM s x.s.name).2=true∧ChainP s (lkM s x.s.name).1 (x.s.name::seen)∧seen.length<s.defs.length:=by
 have hf:(lkM s x.s.name).2=true:=by
  have hk:=hc.ok
  unfold nodeM at hk
  split at hk
  ·cases hk
  ·split at hk
   ·cases hk
   ·split at hk
    ·cases hk
    ·rename_i hh
     cases q:(lkM s x.s.name).2 with
     | true=>rfl
     | false=>exact (hh ⟨h14,q⟩).elim
 obtain ⟨h1,h2,h3,h4,h5⟩:=schk_parts h
 obtain ⟨hcl,d,hd,he⟩:=found_clean h hf
 have hname:x.s.name∈s.defs.map (·.1):=by
  unfold lkM at hf
  split at hf
  ·rename_i e hq
   have:=List.find?_some hq
   have:e.1=x.s.name:=by simpa using this
   exact this▸List.mem_map_of_mem (List.mem_of_find?_eq_some hq)
  ·cases hf
 have hlk:lkN s x.s.name=refsM true 48 (lkM s x.s.name).1:=if_pos hf
 have hg : ∀ e,e∈s.defs→badM s e=false:=by
  cases hq:s.defs.find? (badM s) with
  | some e=>
   unfold guardM at h5
   rw[hq] at h5
   cases h5
  | none=>
   intro e he
   have:=List.find?_eq_none.1 hq e he
   simpa using this
 have hns:x.s.name∉seen:=fun hm=>by
  have hr:=hc.rc h14 _ hm
  obtain ⟨e,he1,he2⟩:=List.mem_map.1 hname
  have hb:=hg e he1
  have:badM s e=true:=(bad_iff s e).2 (by rw[he2,←hlk]; exact hr)
  rw[hb] at this
  cases this
 have hnd:(x.s.name::seen).Nodup:=List.nodup_cons.2 ⟨hns,hc.nd⟩
 have hinn : ∀ n,n∈x.s.name::seen→n∈s.defs.map (·.1):=fun n hn=>by
  rcases List.mem_cons.1 hn with rfl | hn
  ·exact hname
  ·exact hc.inn n hn
 have hlen:=nodup_le hnd hinn
 rw[List.length_map,List.length_cons] at hlen
 refine ⟨hf,⟨hnd,hinn,?_,hcl,?_,fun h14' n hn=>?_⟩,by omega⟩
 ·rw[he]
  exact nodes_head (defsE_all s _ _ h1 d hd)
 ·rw[he]
  have:=((Schs.dlen (s:=s) (Nat.le_refl _)).2 d hd).1
  omega
 ·have hmem:(lkM s x.s.name).1.s.name∈lkN s x.s.name:=by
   rw[hlk,refsM_succ,if_pos h14']
   exact List.mem_append.2 (.inl (by simp))
  rcases List.mem_cons.1 hn with rfl | hn
  ·exact .base hmem
  ·exact .step (hc.rc h14 n hn) hmem
end Ago
