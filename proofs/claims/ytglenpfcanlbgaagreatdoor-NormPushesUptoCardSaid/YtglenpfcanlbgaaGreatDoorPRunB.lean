/- The form of a node of a schema,on both sides. -/
import Derived.Test.YtglenpfcanlbgaaGreatDoorPRunG
import Derived.Test.YtglenpfcanlbgaaGreatDoorPRunF
set_option linter.unusedSimpArgs false
set_option linter.unusedVariables false
set_option maxRecDepth 100000
set_option maxHeartbeats 8000000
namespace Ago
open Go (IntKind)
def blankM (x:Sch):Bool:=decide ((x.s.op=3∨x.s.mask=0)∧(x.s.op=5∨x.s.op=9∨x.s.min=0∧x.s.max=0)∧(x.s.op=4∨x.s.parts.length=0) ∧
 (x.s.op=8∨x.s.vals.length=0)∧(x.s.op=10∨x.p.length=0)∧((x.s.op=9∨x.s.op=10∨x.s.op=13)∧x.a.length=1∨(x.s.op=11∨x.s.op=12)∧1≤x.a.length∨¬ (9≤x.s.op∧x.s.op≤13)∧x.a.length=0)) &&
 (decide (x.s.op=7∨x.s.op=14) || x.s.name == []) && (decide (x.s.op=6) || patNil x.s.pat)
def bndsM (x:Sch):Bool:=decide (0≤x.s.min∧x.s.min≤65536∧(x.s.max = -1∨x.s.min≤x.s.max∧x.s.max≤65536))
def scalM (v:V):Bool:=decide (v.s.kind<6) && decide (checkM v=0)
def keyOkM (k:List UInt8):Bool:=utf k && decide (k.length≤1024)
def formM (x:Sch):Bool:=decide (1≤x.s.op∧x.s.op≤14) && blankM x &&
 (if x.s.op=3 then decide (0≤x.s.mask∧x.s.mask≤255) else if x.s.op=4 then setOk x.s.parts else if x.s.op=5 then bndsM x else if x.s.op=6 then patOk x.s.pat
 else if x.s.op=8 then x.s.vals.all scalM && decide (x.s.vals.length≤256) else if x.s.op=9 then bndsM x else if x.s.op=10 then x.p.all fun p=>keyOkM p.1.key else true)
theorem ops15 (n:Int):n=1∨n=2∨n=3∨n=4∨n=5∨n=6∨n=7∨n=8∨n=9∨n=10∨n=11∨n=12∨n=13∨n=14∨(n<1∨14<n):=by omega
theorem leafFb {b:Bool} (h : ¬ b=true):some (AV.bool false)=some (AV.bool b):=by
 cases b
 ·rfl
 ·exact (h rfl).elim
theorem leafTb {b:Bool} (h:b=true):some (AV.bool true)=some (AV.bool b):=by rw[h]
theorem leafDb {b:Bool} {P:Prop} [Decidable P] (h:P↔b=true):some (AV.bool (decide P))=some (AV.bool b):=by
 by_cases p:P
 ·rw[h.1 p,decide_eq_true p]
 ·have : ¬ b=true:=fun e=>p (h.2 e)
  simp [p,this]
theorem leafEb {b:Bool} {x y:Int} (h:x=y↔b=true):some (AV.bool (x == y))=some (AV.bool b):=by
 rw[beq_dec]
 exact leafDb h
theorem unused_run (x:Sch) (hx:x.bulk≤2^24):PRun CS 599 [encSch x] (.bool (blankM x)):=by
 have L:=Sch.lens hx
 have l1:=L.parts
 have l2:=L.vals
 have l3:=L.props
 have l4:=L.args
 have hp:=patSameNil_run x.s.pat (by have:=L.pat; omega)
 obtain ⟨nb,hnb⟩ : ∃ b,(x.s.name == ([]:List UInt8))=b:=⟨_,rfl⟩
 obtain ⟨pb,hpn⟩ : ∃ b,patNil x.s.pat=b:=⟨_,rfl⟩
 refine prun_of ac599 rfl ?_
 rw[encSch_eq]
 rw[encPat_eq,hpn] at hp
 (repeat' first|simp (disch:=omega) only[go_sem,ac599,enter,List.length_map,hnb]|refine pure_of _ (hp) ?_|(apply spl<;>intro h<;>try simp (disch:=omega) only[go_sem,h]))
 all_goals
  cases nb<;>cases pb<;>first
   | contradiction
   | rfl
   | omega
   | (
    (first | refine leafFb ?_ | refine leafTb ?_ | refine leafDb ?_ | refine leafEb ?_)
    simp only[blankM,hnb,hpn,Bool.and_eq_true,Bool.or_eq_true,decide_eq_true_eq,Bool.false_eq_true,or_false,and_true,and_false,or_true]
    omega)
   | (
    (first | refine leafFb ?_ | refine leafTb ?_ | refine leafDb ?_ | refine leafEb ?_)
    simp only[blankM,hnb,hpn,Bool.and_eq_true,Bool.or_eq_true,decide_eq_true_eq,Bool.false_eq_true,or_false,and_true,and_false,or_true,not_false_eq_true]
    done)
   | skip
theorem bounds_run (x:Sch):PRun CS 601 [encSch x,.int .i64 65536] (.bool (bndsM x)):=by
 refine prun_of ac601 rfl ?_
 rw[encSch_eq]
 unfold bndsM
 (repeat' first|simp (disch:=omega) only[go_sem,ac601,enter]|(apply spl<;>intro h<;>try simp (disch:=omega) only[go_sem,h]))
 all_goals first
  | exact leafF (by omega)
  | exact leafT (by omega)
  | exact leafD (by omega)
  | exact leafE (by omega)
  | exact leafNE (by omega)
  | exact leafN (by omega)
  | skip
theorem scalV_run (v:V):PRun CS 602 [encV v] (.bool (decide (v.s.kind<6))):=by
 refine prun_of ac602 rfl ?_
 rw[encV_eq]
 (repeat' first|simp (disch:=omega) only[go_sem,ac602,enter]|(apply spl<;>intro h<;>try simp (disch:=omega) only[go_sem,h]))
theorem keyOk_run (k:List UInt8) (hk:k.length<2^30):PRun CS 603 [.str k] (.bool (keyOkM k)):=by
 have hu:=upS (utf_run k hk)
 refine prun_of ac603 rfl ?_
 unfold keyOkM
 cases hb:utf k<;>rw[hb] at hu
 ·(repeat' first|simp (disch:=omega) only[go_sem,ac603,enter]|refine pure_of _ (hu) ?_|(apply spl<;>intro h<;>try simp (disch:=omega) only[go_sem,h]))
  all_goals first | rfl | (simp; done) | omega | skip
 ·(repeat' first|simp (disch:=omega) only[go_sem,ac603,enter]|refine pure_of _ (hu) ?_|(apply spl<;>intro h<;>try simp (disch:=omega) only[go_sem,h]))
  all_goals first | rfl | (simp; omega) | omega | skip
def fmtNames:List (List UInt8):=[[98,97,115,101,54,52],[100,97,116,101],[100,97,116,101,116,105,109,101],[104,101,120],[105,110,115,116,97,110,116],[105,110,116,101,103,101,114],[105,112,118,52],[110,97,109,101],[110,117,109,98,101,114],[112,97,116,104],[116,105,109,101],[117,117,105,100]]
def knownM (s:List UInt8):Bool:=fmtNames.any fun x=>x == s
theorem take_any {α:Type} {s:List α} {k:Nat} {c:α} {p:α→Bool} (hc:s[k]?=some c) (h:(s.take k).any p=false) (hp:p c=false):(s.take (k+1)).any p=false:=by
 rw[List.take_add_one,hc]
 simp [h,hp]
theorem any_at {α:Type} {s:List α} {k:Nat} {c:α} {p:α→Bool} (hc:s[k]?=some c) (hp:p c=true):s.any p=true:=List.any_eq_true.2 ⟨c,List.mem_of_getElem? hc,hp⟩
theorem source_ex (s:List UInt8) : ∃ t,PRun CS 604 [.str s] (.str t)∧(t == ([]:List UInt8)) = !knownM s:=by
 have h:=prunE_of (C:=CS) (f:=604) (ts:=[.str s]) (k:=fun w=>∃ t,w = .str t∧(t == ([]:List UInt8)) = !knownM s) ac604 rfl (by
  (repeat' first|simp (disch:=omega) only[go_sem,ac604,enter]|(apply spl<;>intro h<;>try simp (disch:=omega) only[go_sem,h]))
  all_goals (refine ⟨_,rfl,?_⟩; simp_all [knownM,fmtNames])
  all_goals ((repeat' (refine And.intro ?_ ?_))<;>(intro e; exact absurd e.symm (by assumption))))
 obtain ⟨w,h1,t,rfl,h2⟩:=h
 exact ⟨t,h1,h2⟩
theorem refKnown_run (s:List UInt8):PRun CS 565 [.str s] (.bool (knownM s)):=by
 obtain ⟨t,h1,h2⟩:=source_ex s
 refine prun_of ac565 rfl ?_
 (repeat' first|simp (disch:=omega) only[go_sem,ac565,enter,h2,Bool.not_not]|refine pure_of _ (h1) ?_|(apply spl<;>intro h<;>try simp (disch:=omega) only[go_sem,h]))
end Ago
set_option maxRecDepth 100000
set_option maxHeartbeats 8000000
namespace Ago
open Go (IntKind)
theorem Sch.slim {x:Sch} (hx:x.bulk≤2^24):slimP x.s.parts:=by
 have L:=Sch.lens (N:=2^24) hx
 exact ⟨L.parts,fun p hp=>by have:=L.part p hp; omega⟩
theorem refForm_run (x:Sch) (hx:x.bulk≤2^24):PRun CS 564 [encSch x] (.bool (formM x)):=by
 have L:=Sch.lens hx
 have l1:=L.parts
 have l2:=L.vals
 have l3:=L.props
 have l4:=L.args
 have hpb:=L.pat
 have hu:=unused_run x hx
 have hs:=set_run x.s.parts (Sch.slim hx)
 have hbd:=bounds_run x
 have hpv:=refPatValid_run x.s.pat (by omega)
 refine prun_of ac564 rfl ?_
 unfold encNS at hs
 rw[encPat_eq] at hpv
 cases hbl:blankM x
 ·rw[hbl] at hu
  have hf:formM x=false:=by unfold formM; rw[hbl,Bool.and_false,Bool.false_and]
  rw[hf]
  rw[encSch_eq] at hu ⊢
  (repeat' first|simp (disch:=omega) only[go_sem,ac564,enter,List.length_map]|refine pure_of _ (hu) ?_|(apply spl<;>intro h<;>try simp (disch:=omega) only[go_sem,h]))
 rw[hbl] at hu
 rcases ops15 x.s.op with hop | hop | hop | hop | hop | hop | hop | hop | hop | hop | hop | hop | hop | hop | hop
 case inr.inr.inr.inr.inr.inr.inr.inl=>
  have hfm:formM x=(x.s.vals.all scalM && decide (x.s.vals.length≤256)):=by simp [formM,hbl,hop]
  rw[hfm]
  rw[encSch_eq] at hu ⊢
  rw[hop] at hu ⊢
  (repeat' first|simp (disch:=omega) only[go_sem,ac564,enter,List.length_map]|refine pure_of _ (hu) ?_|(apply spl<;>intro h<;>try simp (disch:=omega) only[go_sem,h]))
  refine loop_of (α:=Nat) (fun k=>{ tmps:=slots 94 [(1,.ptr 15 0 0 0),(3,.int .i64 k)],heap:=[.row 15 [encSch x] false true 0],base:=0 }) (fun k=>k≤x.s.vals.length∧(x.s.vals.take k).all scalM=true) (fun k=>x.s.vals.length-k) 0 (by rw[encSch_eq,hop]; rfl) ⟨Nat.zero_le _,rfl⟩ ?_
  rintro k ⟨hk,ha⟩
  rw[encSch_eq,hop]
  by_cases hlt:k<x.s.vals.length
  ·obtain ⟨y,hy⟩:=get_some hlt
   have hym:=List.mem_of_getElem? hy
   have hy2:=map_get (g:=encV) hy
   have r1:=scalV_run y
   have r2:=upS (check_run y (by have:=L.val y hym; omega))
   rw[encV_eq] at hy2 r1 r2
   by_cases hsc:scalM y=true
   ·have hsc2:=hsc
    simp only[scalM,Bool.and_eq_true,decide_eq_true_eq] at hsc2
    obtain ⟨c1,c2⟩:=hsc2
    rw[decide_eq_true c1] at r1
    rw[c2] at r2
    (repeat' first|simp (disch:=omega) only[go_sem,hy2,List.length_map]|refine pure_of _ (r1) ?_|refine pure_of _ (r2) ?_|(apply spl<;>intro h<;>try simp (disch:=omega) only[go_sem,h]))
    all_goals try omega
    refine ⟨k+1,?_,⟨hlt,take_succ_all hy ha hsc⟩,by omega⟩
    first | rfl | (rw[encSch_eq x,hop]; rfl)
   ·have hn:x.s.vals.all scalM=false:=not_all hy (by simpa using hsc)
    rw[hn,Bool.false_and]
    by_cases c1:y.s.kind<6
    ·have c2 : ¬ checkM y=0:=fun c2=>hsc (by simp [scalM,c1,c2])
     rw[decide_eq_true c1] at r1
     (repeat' first|simp (disch:=omega) only[go_sem,hy2,List.length_map]|refine pure_of _ (r1) ?_|refine pure_of _ (r2) ?_|(apply spl<;>intro h<;>try simp (disch:=omega) only[go_sem,h]))
     all_goals first | omega | (exact (c2 (by assumption)).elim) | skip
    ·rw[decide_eq_false c1] at r1
     (repeat' first|simp (disch:=omega) only[go_sem,hy2,List.length_map]|refine pure_of _ (r1) ?_|refine pure_of _ (r2) ?_|(apply spl<;>intro h<;>try simp (disch:=omega) only[go_sem,h]))
     all_goals omega
  ·rw[take_len hlt hk] at ha
   rw[ha,Bool.true_and]
   (repeat' first|simp (disch:=omega) only[go_sem,List.length_map]|(apply spl<;>intro h<;>try simp (disch:=omega) only[go_sem,h]))
   all_goals first | rfl | (exact leafD (by omega)) | skip
 case inr.inr.inr.inr.inr.inr.inr.inr.inr.inl=>
  have hfm:formM x=x.p.all fun p=>keyOkM p.1.key:=by simp [formM,hbl,hop]
  rw[hfm]
  rw[encSch_eq] at hu ⊢
  rw[hop] at hu ⊢
  (repeat' first|simp (disch:=omega) only[go_sem,ac564,enter,List.length_map]|refine pure_of _ (hu) ?_|(apply spl<;>intro h<;>try simp (disch:=omega) only[go_sem,h]))
  refine loop_of (α:=Nat) (fun k=>{ tmps:=slots 94 [(1,.ptr 15 0 0 0),(4,.int .i64 k)],heap:=[.row 15 [encSch x] false true 0],base:=0 }) (fun k=>k≤x.p.length∧(x.p.take k).all (fun p=>keyOkM p.1.key)=true) (fun k=>x.p.length-k) 0 (by rw[encSch_eq,hop]; rfl) ⟨Nat.zero_le _,rfl⟩ ?_
  rintro k ⟨hk,ha⟩
  rw[encSch_eq,hop]
  by_cases hlt:k<x.p.length
  ·obtain ⟨y,hy⟩:=get_some hlt
   have hym:=List.mem_of_getElem? hy
   have hy2:=map_get (g:=encPr) hy
   have r1:=keyOk_run y.1.key (by have:=(L.pkids y hym).2; omega)
   rw[encPr_eq] at hy2
   cases hb:keyOkM y.1.key with
   | true=>
    rw[hb] at r1
    (repeat' first|simp (disch:=omega) only[go_sem,hy2,List.length_map]|refine pure_of _ (r1) ?_|(apply spl<;>intro h<;>try simp (disch:=omega) only[go_sem,h]))
    all_goals try omega
    refine ⟨k+1,?_,⟨hlt,take_succ_all hy ha hb⟩,by omega⟩
    first | rfl | (rw[encSch_eq x,hop]; rfl)
   | false=>
    rw[hb] at r1
    have hn:(x.p.all fun p=>keyOkM p.1.key)=false:=not_all hy hb
    rw[hn]
    (repeat' first|simp (disch:=omega) only[go_sem,hy2,List.length_map]|refine pure_of _ (r1) ?_|(apply spl<;>intro h<;>try simp (disch:=omega) only[go_sem,h]))
    all_goals omega
  ·rw[take_len hlt hk] at ha
   rw[ha]
   (repeat' first|simp (disch:=omega) only[go_sem,List.length_map]|(apply spl<;>intro h<;>try simp (disch:=omega) only[go_sem,h]))
 all_goals
  rw[encSch_eq] at hu hbd ⊢
  try rw[hop] at hu hbd ⊢
  (repeat' first|simp (disch:=omega) only[go_sem,ac564,enter,List.length_map]|refine pure_of _ (hu) ?_|refine pure_of _ (hs) ?_|refine pure_of _ (hbd) ?_|refine pure_of _ (hpv) ?_|(apply spl<;>intro h<;>try simp (disch:=omega) only[go_sem,h]))
  all_goals first
   | rfl
   | omega
   | (simp only[formM,hbl,hop,Int.reduceEq,Int.reduceLE,if_true,if_false,and_self,decide_true,Bool.true_and,Bool.and_true]; done)
   | (simp [formM,hbl,hop]; done)
   | (simp [formM,hbl,hop]; omega)
   | skip
end Ago
