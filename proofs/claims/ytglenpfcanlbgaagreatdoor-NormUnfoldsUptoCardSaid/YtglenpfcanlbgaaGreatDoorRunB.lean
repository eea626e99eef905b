/- The form of a node of a schema,on both sides. -/
import Derived.Test.YtglenpfcanlbgaaGreatDoorRunG
import Derived.Test.YtglenpfcanlbgaaGreatDoorRunF
set_option linter.unusedSimpArgs false
set_option linter.unusedVariables false
set_option maxRecDepth 100000
set_option maxHeartbeats 8000000
namespace Ago
open Go (IntKind)
def blankM (x:Sch):Bool:=decide ((x.s.op=3∨x.s.mask=0)∧(x.s.op=5∨x.s.op=9∨x.s.min=0∧x.s.max=0)∧(x.s.op=4∨x.s.parts.length=0) ∧
 (x.s.op=8∨x.s.vals.length=0)∧(x.s.op=10∨x.p.length=0)∧((x.s.op=9∨x.s.op=10∨x.s.op=13)∧x.a.length=1∨(x.s.op=11∨x.s.op=12)∧1≤x.a.length∨¬ (9≤x.s.op∧x.s.op≤13)∧x.a.length=0)) &&
 (decide (x.s.op=7∨x.s.op=14) || x.s.name == []) && (decide (x.s.op=6) || patNil x.s.pat)
def bndsM (x:Sch):Bool:=decide (0≤x.s.min∧x.s.min≤65536∧(x.s.max = -1∨x.s.min≤x.s.max∧x.s.max≤65536))
def scalM (v:V):Bool:=decide (v.s.kind<6) && decide (checkM v=0)
def keyOkM (k:List UInt8):Bool:=utf k && decide (k.length≤1024)
def formM (x:Sch):Bool:=decide (1≤x.s.op∧x.s.op≤14) && blankM x &&
 (if x.s.op=3 then decide (0≤x.s.mask∧x.s.mask≤255) else if x.s.op=4 then setOk x.s.parts else if x.s.op=5 then bndsM x else if x.s.op=6 then patOk x.s.pat
 else if x.s.op=8 then x.s.vals.all scalM && decide (x.s.vals.length≤256) else if x.s.op=9 then bndsM x else if x.s.op=10 then x.p.all fun p=>keyOkM p.1.key else true)
theorem ops15 (n:Int):n=1∨n=2∨n=3∨n=4∨n=5∨n=6∨n=7∨n=8∨n=9∨n=10∨n=11∨n=12∨n=13∨n=14∨(n<1∨14<n):=by omega
def emptyM (op mask mn mx:Int) (name:List UInt8) (parts:List AV) (po pl ph pm px:Int) (pa vals props args:List AV):Bool:=
 decide (op=0∧mask=0∧mn=0∧mx=0∧parts.length=0∧vals.length=0∧props.length=0∧args.length=0∧po=0∧pl=0∧ph=0∧pm=0∧px=0∧pa.length=0) && name == []
theorem empty_run (op mask mn mx:Int) (name:List UInt8) (parts:List AV) (po pl ph pm px:Int) (pa vals props args:List AV) (h1:parts.length<2^30) (h2:pa.length<2^30) (h3:vals.length<2^30) (h4:props.length<2^30) (h5:args.length<2^30) :
  PRun CS 597 [.agg [.int .i64 op,.int .i64 mask,.int .i64 mn,.int .i64 mx,.str name,.tsl 11 parts,.int .i64 po,.int .i64 pl,.int .i64 ph,.int .i64 pm,.int .i64 px,.tsl 6 pa,.tsl 13 vals,.tsl 17 props,.tsl 15 args]] (.bool (emptyM op mask mn mx name parts po pl ph pm px pa vals props args)):=by
 refine prun_of ac597 rfl ?_
 unfold emptyM
 cases hnb:name == []
 ·rw[Bool.and_false]
  (repeat' first|simp (disch:=omega) only[go_sem,ac597,enter,hnb]|(apply spl<;>intro h<;>try simp (disch:=omega) only[go_sem,h]))
  all_goals rfl
 ·rw[Bool.and_true]
  (repeat' first|simp (disch:=omega) only[go_sem,ac597,enter,hnb]|(apply spl<;>intro h<;>try simp (disch:=omega) only[go_sem,h]))
  all_goals first
   | exact leafF (by omega)
   | exact leafT (by omega)
   | exact leafD (by omega)
   | exact leafE (by omega)
   | exact leafNE (by omega)
   | exact leafN (by omega)
   | skip
theorem leafFb {b:Bool} (h : ¬ b=true):some (AV.bool false)=some (AV.bool b):=by
 cases b
 ·rfl
 ·exact (h rfl).elim
theorem leafTb {b:Bool} (h:b=true):some (AV.bool true)=some (AV.bool b):=by rw[h]
theorem leafDb {b:Bool} {P:Prop} [Decidable P] (h:P↔b=true):some (AV.bool (decide P))=some (AV.bool b):=by
 by_cases p:P
 ·rw[h.1 p,decide_eq_true p]
 ·have : ¬ b=true:=fun e=>p (h.2 e)
  simp [p,this]
theorem leafEb {b:Bool} {x y:Int} (h:x=y↔b=true):some (AV.bool (x == y))=some (AV.bool b):=by
 rw[beq_dec]
 exact leafDb h
theorem unused_run (x:Sch) (hx:x.bulk≤2^24):PRun CS 599 [encSch x] (.bool (blankM x)):=by
 have L:=Sch.lens hx
 have l1:=L.parts
 have l2:=L.vals
 have l3:=L.props
 have l4:=L.args
 have hp:=patSameNil_run x.s.pat (by have:=L.pat; omega)
 obtain ⟨nb,hnb⟩ : ∃ b,(x.s.name == ([]:List UInt8))=b:=⟨_,rfl⟩
 obtain ⟨pb,hpn⟩ : ∃ b,patNil x.s.pat=b:=⟨_,rfl⟩
 refine prun_of ac599 rfl ?_
 rw[encSch_eq]
 rw[encPat_eq,hpn] at hp
 (repeat' first|simp (disch:=omega) only[go_sem,ac599,enter,List.length_map,hnb]|refine pure_of _ (hp) ?_|(apply spl<;>intro h<;>try simp (disch:=omega) only[go_sem,h]))
 all_goals
  cases nb<;>cases pb<;>first
   | contradiction
   | rfl
   | omega
   | (
    (first | refine leafFb ?_ | refine leafTb ?_ | refine leafDb ?_ | refine leafEb ?_)
    simp only[blankM,hnb,hpn,Bool.and_eq_true,Bool.or_eq_true,decide_eq_true_eq,Bool.false_eq_true,or_false,and_true,and_false,or_true]
    omega)
   | (
    (first | refine leafFb ?_ | refine leafTb ?_ | refine leafDb ?_ | refine leafEb ?_)
    simp only[blankM,hnb,hpn,Bool.and_eq_true,Bool.or_eq_true,decide_eq_true_eq,Bool.false_eq_true,or_false,and_true,and_false,or_true,not_false_eq_true]
    done)
   | skip
theorem bounds_run (x:Sch):PRun CS 601 [encSch x,.int .i64 65536] (.bool (bndsM x)):=by
 refine prun_of ac601 rfl ?_
 rw[encSch_eq]
 unfold bndsM
 (repeat' first|simp (disch:=omega) only[go_sem,ac601,enter]|(apply spl<;>intro h<;>try simp (disch:=omega) only[go_sem,h]))
 all_goals first
  | exact leafF (by omega)
  | exact leafT (by omega)
  | exact leafD (by omega)
  | exact leafE (by omega)
  | exact leafNE (by omega)
  | exact leafN (by omega)
  | skip
theorem scalV_run (v:V):PRun CS 602 [encV v] (.bool (decide (v.s.kind<6))):=by
 refine prun_of ac602 rfl ?_
 rw[encV_eq]
 (repeat' first|simp (disch:=omega) only[go_sem,ac602,enter]|(apply spl<;>intro h<;>try simp (disch:=omega) only[go_sem,h]))
theorem keyOk_run (k:List UInt8) (hk:k.length<2^30):PRun CS 603 [.str k] (.bool (keyOkM k)):=by
 have hu:=upS (utf_run k hk)
 refine prun_of ac603 rfl ?_
 unfold keyOkM
 cases hb:utf k<;>rw[hb] at hu
 ·(repeat' first|simp (disch:=omega) only[go_sem,ac603,enter]|refine pure_of _ (hu) ?_|(apply spl<;>intro h<;>try simp (disch:=omega) only[go_sem,h]))
  all_goals first | rfl | (simp; done) | omega | skip
 ·(repeat' first|simp (disch:=omega) only[go_sem,ac603,enter]|refine pure_of _ (hu) ?_|(apply spl<;>intro h<;>try simp (disch:=omega) only[go_sem,h]))
  all_goals first | rfl | (simp; omega) | omega | skip
def fmtNames:List (List UInt8):=[[98,97,115,101,54,52],[100,97,116,101],[100,97,116,101,116,105,109,101],[104,101,120],[105,110,115,116,97,110,116],[105,110,116,101,103,101,114],[105,112,118,52],[110,97,109,101],[110,117,109,98,101,114],[112,97,116,104],[116,105,109,101],[117,117,105,100]]
def knownM (s:List UInt8):Bool:=fmtNames.any fun x=>x == s
theorem fmtN_run:PRun CS 624 [] (.tsl 1 (fmtNames.map .str)):=by
 refine prun_of ac624 rfl ?_
 (repeat' first|simp (disch:=omega) only[go_sem,ac624,enter,fmtNames]|(apply spl<;>intro h<;>try simp (disch:=omega) only[go_sem,h]))
theorem take_any {α:Type} {s:List α} {k:Nat} {c:α} {p:α→Bool} (hc:s[k]?=some c) (h:(s.take k).any p=false) (hp:p c=false):(s.take (k+1)).any p=false:=by
 rw[List.take_add_one,hc]
 simp [h,hp]
theorem any_at {α:Type} {s:List α} {k:Nat} {c:α} {p:α→Bool} (hc:s[k]?=some c) (hp:p c=true):s.any p=true:=List.any_eq_true.2 ⟨c,List.mem_of_getElem? hc,hp⟩
theorem number_run (s:List UInt8) : ∃ n:Int,PRun CS 598 [.str s] (.int .i64 n)∧(n<12↔knownM s=true):=by
 have hn:=fmtN_run
 have h:=prunE_of (C:=CS) (f:=598) (ts:=[.str s]) (k:=fun w=>∃ n:Int,w = .int .i64 n∧(n<12↔knownM s=true)) ac598 rfl (by
  have hl:(fmtNames.map AV.str).length=12:=rfl
  (repeat' first|simp (disch:=omega) only[go_sem,ac598,enter,hl]|refine pure_of _ (hn) ?_|(apply spl<;>intro h<;>try simp (disch:=omega) only[go_sem,h]))
  refine loop_of (α:=Nat) (fun k=>{ tmps:=slots 17 [(0,.str s),(5,.tsl 1 (fmtNames.map .str)),(6,.int .i64 12),(7,.int .i64 k)],heap:=[],base:=0 }) (fun k=>k≤12∧(fmtNames.take k).any (fun x=>x == s)=false) (fun k=>12-k) 0 rfl ⟨Nat.zero_le _,rfl⟩ ?_
  rintro k ⟨hk,ha⟩
  by_cases hlt:k<12
  ·obtain ⟨y,hy⟩ : ∃ y,fmtNames[k]?=some y:=get_some hlt
   have hy2:=map_get (g:=AV.str) hy
   cases hb:y == s with
   | true=>
    have hkn:knownM s=true:=any_at hy hb
    (repeat' first|simp (disch:=omega) only[go_sem,hy2,hb]|(apply spl<;>intro h<;>try simp (disch:=omega) only[go_sem,h]))
    exact ⟨_,rfl,fun _=>hkn,fun _=>by omega⟩
   | false=>
    (repeat' first|simp (disch:=omega) only[go_sem,hy2,hb]|(apply spl<;>intro h<;>try simp (disch:=omega) only[go_sem,h]))
    all_goals try omega
    exact ⟨k+1,rfl,⟨by omega,take_any hy ha hb⟩,by omega⟩
  ·have hk2:k=12:=by omega
   subst hk2
   have hkn:knownM s=false:=ha
   (repeat' first|simp (disch:=omega) only[go_sem,hl]|(apply spl<;>intro h<;>try simp (disch:=omega) only[go_sem,h]))
   exact ⟨12,rfl,by simp [hkn]⟩)
 obtain ⟨w,h1,n,rfl,h2⟩:=h
 exact ⟨n,h1,h2⟩
theorem known_run (s:List UInt8):PRun CS 563 [.str s] (.bool (knownM s)):=by
 obtain ⟨n,h1,h2⟩:=number_run s
 refine prun_of ac563 rfl ?_
 (repeat' first|simp (disch:=omega) only[go_sem,ac563,enter]|refine pure_of _ (h1) ?_|(apply spl<;>intro h<;>try simp (disch:=omega) only[go_sem,h]))
 all_goals (cases hb:knownM s<;>simp [hb] at h2 ⊢<;>omega)
theorem source_ex (s:List UInt8) : ∃ t,PRun CS 604 [.str s] (.str t)∧(t == ([]:List UInt8)) = !knownM s:=by
 have h:=prunE_of (C:=CS) (f:=604) (ts:=[.str s]) (k:=fun w=>∃ t,w = .str t∧(t == ([]:List UInt8)) = !knownM s) ac604 rfl (by
  (repeat' first|simp (disch:=omega) only[go_sem,ac604,enter]|(apply spl<;>intro h<;>try simp (disch:=omega) only[go_sem,h]))
  all_goals (refine ⟨_,rfl,?_⟩; simp_all [knownM,fmtNames])
  all_goals ((repeat' (refine And.intro ?_ ?_))<;>(intro e; exact absurd e.symm (by assumption))))
 obtain ⟨w,h1,t,rfl,h2⟩:=h
 exact ⟨t,h1,h2⟩
theorem refKnown_run (s:List UInt8):PRun CS 565 [.str s] (.bool (knownM s)):=by
 obtain ⟨t,h1,h2⟩:=source_ex s
 refine prun_of ac565 rfl ?_
 (repeat' first|simp (disch:=omega) only[go_sem,ac565,enter,h2,Bool.not_not]|refine pure_of _ (h1) ?_|(apply spl<;>intro h<;>try simp (disch:=omega) only[go_sem,h]))
end Ago
set_option maxRecDepth 100000
set_option maxHeartbeats 8000000
namespace Ago
open Go (IntKind)
theorem Sch.slim {x:Sch} (hx:x.bulk≤2^24):slimP x.s.parts:=by
 have L:=Sch.lens (N:=2^24) hx
 exact ⟨L.parts,fun p hp=>by have:=L.part p hp; omega⟩
theorem refForm_run (x:Sch) (hx:x.bulk≤2^24):PRun CS 564 [encSch x] (.bool (formM x)):=by
 have L:=Sch.lens hx
 have l1:=L.parts
 have l2:=L.vals
 have l3:=L.props
 have l4:=L.args
 have hpb:=L.pat
 have hu:=unused_run x hx
 have hs:=set_run x.s.parts (Sch.slim hx)
 have hbd:=bounds_run x
 have hpv:=refPatValid_run x.s.pat (by omega)
 refine prun_of ac564 rfl ?_
 unfold encNS at hs
 rw[encPat_eq] at hpv
 cases hbl:blankM x
 ·rw[hbl] at hu
  have hf:formM x=false:=by unfold formM; rw[hbl,Bool.and_false,Bool.false_and]
  rw[hf]
  rw[encSch_eq] at hu ⊢
  (repeat' first|simp (disch:=omega) only[go_sem,ac564,enter,List.length_map]|refine pure_of _ (hu) ?_|(apply spl<;>intro h<;>try simp (disch:=omega) only[go_sem,h]))
 rw[hbl] at hu
 rcases ops15 x.s.op with hop | hop | hop | hop | hop | hop | hop | hop | hop | hop | hop | hop | hop | hop | hop
 case inr.inr.inr.inr.inr.inr.inr.inl=>
  have hfm:formM x=(x.s.vals.all scalM && decide (x.s.vals.length≤256)):=by simp [formM,hbl,hop]
  rw[hfm]
  rw[encSch_eq] at hu ⊢
  rw[hop] at hu ⊢
  (repeat' first|simp (disch:=omega) only[go_sem,ac564,enter,List.length_map]|refine pure_of _ (hu) ?_|(apply spl<;>intro h<;>try simp (disch:=omega) only[go_sem,h]))
  refine loop_of (α:=Nat) (fun k=>{ tmps:=slots 94 [(1,.ptr 15 0 0 0),(3,.int .i64 k)],heap:=[.row 15 [encSch x] false true 0],base:=0 }) (fun k=>k≤x.s.vals.length∧(x.s.vals.take k).all scalM=true) (fun k=>x.s.vals.length-k) 0 (by rw[encSch_eq,hop]; rfl) ⟨Nat.zero_le _,rfl⟩ ?_
  rintro k ⟨hk,ha⟩
  rw[encSch_eq,hop]
  by_cases hlt:k<x.s.vals.length
  ·obtain ⟨y,hy⟩:=get_some hlt
   have hym:=List.mem_of_getElem? hy
   have hy2:=map_get (g:=encV) hy
   have r1:=scalV_run y
   have r2:=upS (check_run y (by have:=L.val y hym; omega))
   rw[encV_eq] at hy2 r1 r2
   by_cases hsc:scalM y=true
   ·have hsc2:=hsc
    simp only[scalM,Bool.and_eq_true,decide_eq_true_eq] at hsc2
    obtain ⟨c1,c2⟩:=hsc2
    rw[decide_eq_true c1] at r1
    rw[c2] at r2
    (repeat' first|simp (disch:=omega) only[go_sem,hy2,List.length_map]|refine pure_of _ (r1) ?_|refine pure_of _ (r2) ?_|(apply spl<;>intro h<;>try simp (disch:=omega) only[go_sem,h]))
    all_goals try omega
    refine ⟨k+1,?_,⟨hlt,take_succ_all hy ha hsc⟩,by omega⟩
    first | rfl | (rw[encSch_eq x,hop]; rfl)
   ·have hn:x.s.vals.all scalM=false:=not_all hy (by simpa using hsc)
    rw[hn,Bool.false_and]
    by_cases c1:y.s.kind<6
    ·have c2 : ¬ checkM y=0:=fun c2=>hsc (by simp [scalM,c1,c2])
     rw[decide_eq_true c1] at r1
     (repeat' first|simp (disch:=omega) only[go_sem,hy2,List.length_map]|refine pure_of _ (r1) ?_|refine pure_of _ (r2) ?_|(apply spl<;>intro h<;>try simp (disch:=omega) only[go_sem,h]))
     all_goals first | omega | (exact (c2 (by assumption)).elim) | skip
    ·rw[decide_eq_false c1] at r1
     (repeat' first|simp (disch:=omega) only[go_sem,hy2,List.length_map]|refine pure_of _ (r1) ?_|refine pure_of _ (r2) ?_|(apply spl<;>intro h<;>try simp (disch:=omega) only[go_sem,h]))
     all_goals omega
  ·rw[take_len hlt hk] at ha
   rw[ha,Bool.true_and]
   (repeat' first|simp (disch:=omega) only[go_sem,List.length_map]|(apply spl<;>intro h<;>try simp (disch:=omega) only[go_sem,h]))
   all_goals first | rfl | (exact leafD (by omega)) | skip
 case inr.inr.inr.inr.inr.inr.inr.inr.inr.inl=>
  have hfm:formM x=x.p.all fun p=>keyOkM p.1.key:=by simp [formM,hbl,hop]
  rw[hfm]
  rw[encSch_eq] at hu ⊢
  rw[hop] at hu ⊢
  (repeat' first|simp (disch:=omega) only[go_sem,ac564,enter,List.length_map]|refine pure_of _ (hu) ?_|(apply spl<;>intro h<;>try simp (disch:=omega) only[go_sem,h]))
  refine loop_of (α:=Nat) (fun k=>{ tmps:=slots 94 [(1,.ptr 15 0 0 0),(4,.int .i64 k)],heap:=[.row 15 [encSch x] false true 0],base:=0 }) (fun k=>k≤x.p.length∧(x.p.take k).all (fun p=>keyOkM p.1.key)=true) (fun k=>x.p.length-k) 0 (by rw[encSch_eq,hop]; rfl) ⟨Nat.zero_le _,rfl⟩ ?_
  rintro k ⟨hk,ha⟩
  rw[encSch_eq,hop]
  by_cases hlt:k<x.p.length
  ·obtain ⟨y,hy⟩:=get_some hlt
   have hym:=List.mem_of_getElem? hy
   have hy2:=map_get (g:=encPr) hy
   have r1:=keyOk_run y.1.key (by have:=(L.pkids y hym).2; omega)
   rw[encPr_eq] at hy2
   cases hb:keyOkM y.1.key with
   | true=>
    rw[hb] at r1
    (repeat' first|simp (disch:=omega) only[go_sem,hy2,List.length_map]|refine pure_of _ (r1) ?_|(apply spl<;>intro h<;>try simp (disch:=omega) only[go_sem,h]))
    all_goals try omega
    refine ⟨k+1,?_,⟨hlt,take_succ_all hy ha hb⟩,by omega⟩
    first | rfl | (rw[encSch_eq x,hop]; rfl)
   | false=>
    rw[hb] at r1
    have hn:(x.p.all fun p=>keyOkM p.1.key)=false:=not_all hy hb
    rw[hn]
    (repeat' first|simp (disch:=omega) only[go_sem,hy2,List.length_map]|refine pure_of _ (r1) ?_|(apply spl<;>intro h<;>try simp (disch:=omega) only[go_sem,h]))
    all_goals omega
  ·rw[take_len hlt hk] at ha
   rw[ha]
   (repeat' first|simp (disch:=omega) only[go_sem,List.length_map]|(apply spl<;>intro h<;>try simp (disch:=omega) only[go_sem,h]))
 all_goals
  rw[encSch_eq] at hu hbd ⊢
  try rw[hop] at hu hbd ⊢
  (repeat' first|simp (disch:=omega) only[go_sem,ac564,enter,List.length_map]|refine pure_of _ (hu) ?_|refine pure_of _ (hs) ?_|refine pure_of _ (hbd) ?_|refine pure_of _ (hpv) ?_|(apply spl<;>intro h<;>try simp (disch:=omega) only[go_sem,h]))
  all_goals first
   | rfl
   | omega
   | (simp only[formM,hbl,hop,Int.reduceEq,Int.reduceLE,if_true,if_false,and_self,decide_true,Bool.true_and,Bool.and_true]; done)
   | (simp [formM,hbl,hop]; done)
   | (simp [formM,hbl,hop]; omega)
   | skip
theorem form_run (x:Sch) (hx:x.bulk≤2^24):PRun CS 562 [encSch x] (.bool (formM x)):=by
 have L:=Sch.lens hx
 have l1:=L.parts
 have l2:=L.vals
 have l3:=L.props
 have l4:=L.args
 have hpb:=L.pat
 have hpa:=(Pat.lens (p:=x.s.pat) (N:=2^24) (by omega)).args
 have hs:=setI_run x.s.parts (Sch.slim hx)
 have hpv:=patValid_run x.s.pat (by omega)
 have lo1:(x.s.parts.map encPrt).length<2^30:=by rw[List.length_map]; omega
 have lo2:(x.s.pat.a.map encPat).length<2^30:=by rw[List.length_map]; omega
 have lo3:(x.s.vals.map encV).length<2^30:=by rw[List.length_map]; omega
 have lo4:(x.p.map encPr).length<2^30:=by rw[List.length_map]; omega
 have lo5:(x.a.map encSch).length<2^30:=by rw[List.length_map]; omega
 have lo6:([]:List AV).length<2^30:=by simp
 refine prun_of ac562 rfl ?_
 unfold encNS at hs
 rw[encPat_eq] at hpv
 have hfact:True:=trivial
 rcases ops15 x.s.op with hop | hop | hop | hop | hop | hop | hop | hop | hop | hop | hop | hop | hop | hop | hop
 case inr.inr.inr.inl=>
  rw[encSch_eq]
  rw[hop]
  cases hfact:setOk x.s.parts<;>rw[hfact] at hs
  ·(repeat' first|simp (disch:=omega) only[go_sem,ac562,enter,List.length_map]|refine pure_of _ (hs) ?_|refine pure_of _ ((empty_run _ _ _ _ _ _ _ _ _ _ _ _ _ _ _ (by assumption) (by assumption) (by assumption) (by assumption) (by assumption))) ?_|(apply spl<;>intro h<;>try simp (disch:=omega) only[go_sem,h]))
   all_goals
    first
     | rfl
     | omega
     | (
      cases hnb:x.s.name == []<;>first
       | (
        refine congrArg (fun b=>some (AV.bool b)) (Bool.eq_iff_iff.2 ?_)
        simp only[formM,blankM,patNil,emptyM,bndsM,hfact,hnb,List.length_map,List.length_nil,beq_self_eq_true,Bool.and_eq_true,Bool.or_eq_true,decide_eq_true_eq,hop,Int.reduceEq,Int.reduceLE,if_true,if_false,Bool.false_eq_true,Bool.true_eq_false,true_iff,false_iff,iff_false,iff_true,and_true,true_and,or_true,true_or,false_or,or_false,and_false,false_and,not_true_eq_false,not_false_eq_true]
        omega)
       | (
        refine congrArg (fun b=>some (AV.bool b)) (Bool.eq_iff_iff.2 ?_)
        simp only[formM,blankM,patNil,emptyM,bndsM,hfact,hnb,List.length_map,List.length_nil,beq_self_eq_true,Bool.and_eq_true,Bool.or_eq_true,decide_eq_true_eq,hop,Int.reduceEq,Int.reduceLE,if_true,if_false,Bool.false_eq_true,Bool.true_eq_false,true_iff,false_iff,iff_false,iff_true,and_true,true_and,or_true,true_or,false_or,or_false,and_false,false_and,not_true_eq_false,not_false_eq_true]
        done))
     | skip
  ·(repeat' first|simp (disch:=omega) only[go_sem,ac562,enter,List.length_map]|refine pure_of _ (hs) ?_|refine pure_of _ ((empty_run _ _ _ _ _ _ _ _ _ _ _ _ _ _ _ (by assumption) (by assumption) (by assumption) (by assumption) (by assumption))) ?_|(apply spl<;>intro h<;>try simp (disch:=omega) only[go_sem,h]))
   all_goals
    first
     | rfl
     | omega
     | (
      cases hnb:x.s.name == []<;>first
       | (
        refine congrArg (fun b=>some (AV.bool b)) (Bool.eq_iff_iff.2 ?_)
        simp only[formM,blankM,patNil,emptyM,bndsM,hfact,hnb,List.length_map,List.length_nil,beq_self_eq_true,Bool.and_eq_true,Bool.or_eq_true,decide_eq_true_eq,hop,Int.reduceEq,Int.reduceLE,if_true,if_false,Bool.false_eq_true,Bool.true_eq_false,true_iff,false_iff,iff_false,iff_true,and_true,true_and,or_true,true_or,false_or,or_false,and_false,false_and,not_true_eq_false,not_false_eq_true]
        omega)
       | (
        refine congrArg (fun b=>some (AV.bool b)) (Bool.eq_iff_iff.2 ?_)
        simp only[formM,blankM,patNil,emptyM,bndsM,hfact,hnb,List.length_map,List.length_nil,beq_self_eq_true,Bool.and_eq_true,Bool.or_eq_true,decide_eq_true_eq,hop,Int.reduceEq,Int.reduceLE,if_true,if_false,Bool.false_eq_true,Bool.true_eq_false,true_iff,false_iff,iff_false,iff_true,and_true,true_and,or_true,true_or,false_or,or_false,and_false,false_and,not_true_eq_false,not_false_eq_true]
        done))
     | skip
 case inr.inr.inr.inr.inr.inl=>
  rw[encSch_eq]
  rw[hop]
  cases hfact:patOk x.s.pat<;>rw[hfact] at hpv
  ·(repeat' first|simp (disch:=omega) only[go_sem,ac562,enter,List.length_map]|refine pure_of _ (hpv) ?_|refine pure_of _ ((empty_run _ _ _ _ _ _ _ _ _ _ _ _ _ _ _ (by assumption) (by assumption) (by assumption) (by assumption) (by assumption))) ?_|(apply spl<;>intro h<;>try simp (disch:=omega) only[go_sem,h]))
   all_goals
    first
     | rfl
     | omega
     | (
      cases hnb:x.s.name == []<;>first
       | (
        refine congrArg (fun b=>some (AV.bool b)) (Bool.eq_iff_iff.2 ?_)
        simp only[formM,blankM,patNil,emptyM,bndsM,hfact,hnb,List.length_map,List.length_nil,beq_self_eq_true,Bool.and_eq_true,Bool.or_eq_true,decide_eq_true_eq,hop,Int.reduceEq,Int.reduceLE,if_true,if_false,Bool.false_eq_true,Bool.true_eq_false,true_iff,false_iff,iff_false,iff_true,and_true,true_and,or_true,true_or,false_or,or_false,and_false,false_and,not_true_eq_false,not_false_eq_true]
        omega)
       | (
        refine congrArg (fun b=>some (AV.bool b)) (Bool.eq_iff_iff.2 ?_)
        simp only[formM,blankM,patNil,emptyM,bndsM,hfact,hnb,List.length_map,List.length_nil,beq_self_eq_true,Bool.and_eq_true,Bool.or_eq_true,decide_eq_true_eq,hop,Int.reduceEq,Int.reduceLE,if_true,if_false,Bool.false_eq_true,Bool.true_eq_false,true_iff,false_iff,iff_false,iff_true,and_true,true_and,or_true,true_or,false_or,or_false,and_false,false_and,not_true_eq_false,not_false_eq_true]
        done))
     | skip
  ·(repeat' first|simp (disch:=omega) only[go_sem,ac562,enter,List.length_map]|refine pure_of _ (hpv) ?_|refine pure_of _ ((empty_run _ _ _ _ _ _ _ _ _ _ _ _ _ _ _ (by assumption) (by assumption) (by assumption) (by assumption) (by assumption))) ?_|(apply spl<;>intro h<;>try simp (disch:=omega) only[go_sem,h]))
   all_goals
    first
     | rfl
     | omega
     | (
      cases hnb:x.s.name == []<;>first
       | (
        refine congrArg (fun b=>some (AV.bool b)) (Bool.eq_iff_iff.2 ?_)
        simp only[formM,blankM,patNil,emptyM,bndsM,hfact,hnb,List.length_map,List.length_nil,beq_self_eq_true,Bool.and_eq_true,Bool.or_eq_true,decide_eq_true_eq,hop,Int.reduceEq,Int.reduceLE,if_true,if_false,Bool.false_eq_true,Bool.true_eq_false,true_iff,false_iff,iff_false,iff_true,and_true,true_and,or_true,true_or,false_or,or_false,and_false,false_and,not_true_eq_false,not_false_eq_true]
        omega)
       | (
        refine congrArg (fun b=>some (AV.bool b)) (Bool.eq_iff_iff.2 ?_)
        simp only[formM,blankM,patNil,emptyM,bndsM,hfact,hnb,List.length_map,List.length_nil,beq_self_eq_true,Bool.and_eq_true,Bool.or_eq_true,decide_eq_true_eq,hop,Int.reduceEq,Int.reduceLE,if_true,if_false,Bool.false_eq_true,Bool.true_eq_false,true_iff,false_iff,iff_false,iff_true,and_true,true_and,or_true,true_or,false_or,or_false,and_false,false_and,not_true_eq_false,not_false_eq_true]
        done))
     | skip
 case inr.inr.inr.inr.inr.inr.inr.inl=>
  rw[encSch_eq]
  rw[hop]
  (repeat' first|simp (disch:=omega) only[go_sem,ac562,enter,List.length_map]|(apply spl<;>intro h<;>try simp (disch:=omega) only[go_sem,h]))
  all_goals
   first
    | rfl
    | omega
    | (
     cases hnb:x.s.name == []<;>first
      | (
       refine congrArg (fun b=>some (AV.bool b)) (Bool.eq_iff_iff.2 ?_)
       simp only[formM,blankM,patNil,emptyM,bndsM,hfact,hnb,List.length_map,List.length_nil,beq_self_eq_true,Bool.and_eq_true,Bool.or_eq_true,decide_eq_true_eq,hop,Int.reduceEq,Int.reduceLE,if_true,if_false,Bool.false_eq_true,Bool.true_eq_false,true_iff,false_iff,iff_false,iff_true,and_true,true_and,or_true,true_or,false_or,or_false,and_false,false_and,not_true_eq_false,not_false_eq_true]
       omega)
      | (
       refine congrArg (fun b=>some (AV.bool b)) (Bool.eq_iff_iff.2 ?_)
       simp only[formM,blankM,patNil,emptyM,bndsM,hfact,hnb,List.length_map,List.length_nil,beq_self_eq_true,Bool.and_eq_true,Bool.or_eq_true,decide_eq_true_eq,hop,Int.reduceEq,Int.reduceLE,if_true,if_false,Bool.false_eq_true,Bool.true_eq_false,true_iff,false_iff,iff_false,iff_true,and_true,true_and,or_true,true_or,false_or,or_false,and_false,false_and,not_true_eq_false,not_false_eq_true]
       done))
    | skip
  refine loop_of (α:=Nat) (fun k=>{ tmps:=slots 165 [(3,.ptr 15 0 0 0),(102,.tsl 13 (x.s.vals.map encV)),(103,.int .i64 x.s.vals.length),(104,.int .i64 k)],heap:=[.row 15 [.agg [.int .i64 0,.int .i64 x.s.mask,.int .i64 x.s.min,.int .i64 x.s.max,.str x.s.name,.tsl 11 (x.s.parts.map encPrt),.int .i64 x.s.pat.s.op,.int .i64 x.s.pat.s.lo,.int .i64 x.s.pat.s.hi,.int .i64 x.s.pat.s.min,.int .i64 x.s.pat.s.max,.tsl 6 (x.s.pat.a.map encPat),.snil 13,.tsl 17 (x.p.map encPr),.tsl 15 (x.a.map encSch)]] false true 0],base:=0 }) (fun k=>k≤x.s.vals.length∧(x.s.vals.take k).all scalM=true) (fun k=>x.s.vals.length-k) 0 rfl ⟨Nat.zero_le _,rfl⟩ ?_
  rintro k ⟨hk,ha⟩
  by_cases hlt:k<x.s.vals.length
  ·obtain ⟨y,hy⟩:=get_some hlt
   have hym:=List.mem_of_getElem? hy
   have hy2:=map_get (g:=encV) hy
   have r2:=upS (checkV_run y (by have:=L.val y hym; omega))
   rw[encV_eq] at hy2 r2
   by_cases hsc:scalM y=true
   ·have hsc2:=hsc
    simp only[scalM,Bool.and_eq_true,decide_eq_true_eq] at hsc2
    obtain ⟨c1,c2⟩:=hsc2
    rw[c2] at r2
    (repeat' first|simp (disch:=omega) only[go_sem,hy2,List.length_map]|refine pure_of _ (r2) ?_|(apply spl<;>intro h<;>try simp (disch:=omega) only[go_sem,h]))
    all_goals try omega
    exact ⟨k+1,rfl,⟨hlt,take_succ_all hy ha hsc⟩,by omega⟩
   ·have hn:x.s.vals.all scalM=false:=not_all hy (by simpa using hsc)
    have hfm:formM x=false:=by simp [formM,hop,hn]
    rw[hfm]
    by_cases c1:y.s.kind<6
    ·have c2 : ¬ checkM y=0:=fun c2=>hsc (by simp [scalM,c1,c2])
     (repeat' first|simp (disch:=omega) only[go_sem,hy2,List.length_map]|refine pure_of _ (r2) ?_|(apply spl<;>intro h<;>try simp (disch:=omega) only[go_sem,h]))
     all_goals omega
    ·(repeat' first|simp (disch:=omega) only[go_sem,hy2,List.length_map]|refine pure_of _ (r2) ?_|(apply spl<;>intro h<;>try simp (disch:=omega) only[go_sem,h]))
     all_goals omega
  ·rw[take_len hlt hk] at ha
   have hfact:=ha
   (repeat' first|simp (disch:=omega) only[go_sem,List.length_map]|refine pure_of _ ((empty_run _ _ _ _ _ _ _ _ _ _ _ _ _ _ _ (by assumption) (by assumption) (by assumption) (by assumption) (by assumption))) ?_|(apply spl<;>intro h<;>try simp (disch:=omega) only[go_sem,h]))
   all_goals
    first
     | rfl
     | omega
     | (
      cases hnb:x.s.name == []<;>first
       | (
        refine congrArg (fun b=>some (AV.bool b)) (Bool.eq_iff_iff.2 ?_)
        simp only[formM,blankM,patNil,emptyM,bndsM,hfact,hnb,List.length_map,List.length_nil,beq_self_eq_true,Bool.and_eq_true,Bool.or_eq_true,decide_eq_true_eq,hop,Int.reduceEq,Int.reduceLE,if_true,if_false,Bool.false_eq_true,Bool.true_eq_false,true_iff,false_iff,iff_false,iff_true,and_true,true_and,or_true,true_or,false_or,or_false,and_false,false_and,not_true_eq_false,not_false_eq_true]
        omega)
       | (
        refine congrArg (fun b=>some (AV.bool b)) (Bool.eq_iff_iff.2 ?_)
        simp only[formM,blankM,patNil,emptyM,bndsM,hfact,hnb,List.length_map,List.length_nil,beq_self_eq_true,Bool.and_eq_true,Bool.or_eq_true,decide_eq_true_eq,hop,Int.reduceEq,Int.reduceLE,if_true,if_false,Bool.false_eq_true,Bool.true_eq_false,true_iff,false_iff,iff_false,iff_true,and_true,true_and,or_true,true_or,false_or,or_false,and_false,false_and,not_true_eq_false,not_false_eq_true]
        done))
     | skip
 case inr.inr.inr.inr.inr.inr.inr.inr.inr.inl=>
  rw[encSch_eq]
  rw[hop]
  (repeat' first|simp (disch:=omega) only[go_sem,ac562,enter,List.length_map]|(apply spl<;>intro h<;>try simp (disch:=omega) only[go_sem,h]))
  all_goals
   first
    | rfl
    | omega
    | (
     cases hnb:x.s.name == []<;>first
      | (
       refine congrArg (fun b=>some (AV.bool b)) (Bool.eq_iff_iff.2 ?_)
       simp only[formM,blankM,patNil,emptyM,bndsM,hfact,hnb,List.length_map,List.length_nil,beq_self_eq_true,Bool.and_eq_true,Bool.or_eq_true,decide_eq_true_eq,hop,Int.reduceEq,Int.reduceLE,if_true,if_false,Bool.false_eq_true,Bool.true_eq_false,true_iff,false_iff,iff_false,iff_true,and_true,true_and,or_true,true_or,false_or,or_false,and_false,false_and,not_true_eq_false,not_false_eq_true]
       omega)
      | (
       refine congrArg (fun b=>some (AV.bool b)) (Bool.eq_iff_iff.2 ?_)
       simp only[formM,blankM,patNil,emptyM,bndsM,hfact,hnb,List.length_map,List.length_nil,beq_self_eq_true,Bool.and_eq_true,Bool.or_eq_true,decide_eq_true_eq,hop,Int.reduceEq,Int.reduceLE,if_true,if_false,Bool.false_eq_true,Bool.true_eq_false,true_iff,false_iff,iff_false,iff_true,and_true,true_and,or_true,true_or,false_or,or_false,and_false,false_and,not_true_eq_false,not_false_eq_true]
       done))
    | skip
  refine loop_of (α:=Nat) (fun k=>{ tmps:=slots 165 [(1,.ptr 15 0 0 0),(3,.ptr 15 1 0 0),(122,.tsl 17 (x.p.map encPr)),(123,.int .i64 x.p.length),(124,.int .i64 k)],heap:=[.row 15 [.agg [.int .i64 10,.int .i64 x.s.mask,.int .i64 x.s.min,.int .i64 x.s.max,.str x.s.name,.tsl 11 (x.s.parts.map encPrt),.int .i64 x.s.pat.s.op,.int .i64 x.s.pat.s.lo,.int .i64 x.s.pat.s.hi,.int .i64 x.s.pat.s.min,.int .i64 x.s.pat.s.max,.tsl 6 (x.s.pat.a.map encPat),.tsl 13 (x.s.vals.map encV),.tsl 17 (x.p.map encPr),.tsl 15 (x.a.map encSch)]] false true 0,.row 15 [.agg [.int .i64 0,.int .i64 x.s.mask,.int .i64 x.s.min,.int .i64 x.s.max,.str x.s.name,.tsl 11 (x.s.parts.map encPrt),.int .i64 x.s.pat.s.op,.int .i64 x.s.pat.s.lo,.int .i64 x.s.pat.s.hi,.int .i64 x.s.pat.s.min,.int .i64 x.s.pat.s.max,.tsl 6 (x.s.pat.a.map encPat),.tsl 13 (x.s.vals.map encV),.snil 17,.snil 15]] false true 1],base:=0 }) (fun k=>k≤x.p.length∧(x.p.take k).all (fun p=>keyOkM p.1.key)=true) (fun k=>x.p.length-k) 0 rfl ⟨Nat.zero_le _,rfl⟩ ?_
  rintro k ⟨hk,ha⟩
  by_cases hlt:k<x.p.length
  ·obtain ⟨y,hy⟩:=get_some hlt
   have hym:=List.mem_of_getElem? hy
   have hy2:=map_get (g:=encPr) hy
   have hkl:=(L.pkids y hym).2
   have r2:=upS (utfI_run y.1.key (by omega))
   rw[encPr_eq] at hy2
   by_cases hsc:keyOkM y.1.key=true
   ·have hsc2:=hsc
    simp only[keyOkM,Bool.and_eq_true,decide_eq_true_eq] at hsc2
    obtain ⟨c1,c2⟩:=hsc2
    rw[c1] at r2
    (repeat' first|simp (disch:=omega) only[go_sem,hy2,List.length_map]|refine pure_of _ (r2) ?_|(apply spl<;>intro h<;>try simp (disch:=omega) only[go_sem,h]))
    all_goals try omega
    exact ⟨k+1,rfl,⟨hlt,take_succ_all hy ha hsc⟩,by omega⟩
   ·have hn:(x.p.all fun p=>keyOkM p.1.key)=false:=not_all hy (by simpa using hsc)
    have hfm:formM x=false:=by
     unfold formM
     rw[hop,hn]
     simp
    rw[hfm]
    cases hu:utf y.1.key with
    | true=>
     rw[hu] at r2
     have c2 : ¬ y.1.key.length≤1024:=fun c2=>hsc (by simp [keyOkM,hu,c2])
     (repeat' first|simp (disch:=omega) only[go_sem,hy2,List.length_map]|refine pure_of _ (r2) ?_|(apply spl<;>intro h<;>try simp (disch:=omega) only[go_sem,h]))
     all_goals omega
    | false=>
     rw[hu] at r2
     (repeat' first|simp (disch:=omega) only[go_sem,hy2,List.length_map]|refine pure_of _ (r2) ?_|(apply spl<;>intro h<;>try simp (disch:=omega) only[go_sem,h]))
     all_goals omega
  ·rw[take_len hlt hk] at ha
   have hfact:=ha
   (repeat' first|simp (disch:=omega) only[go_sem,List.length_map]|refine pure_of _ ((empty_run _ _ _ _ _ _ _ _ _ _ _ _ _ _ _ (by assumption) (by assumption) (by assumption) (by assumption) (by assumption))) ?_|(apply spl<;>intro h<;>try simp (disch:=omega) only[go_sem,h]))
   all_goals
    first
     | rfl
     | omega
     | (
      cases hnb:x.s.name == []<;>first
       | (
        refine congrArg (fun b=>some (AV.bool b)) (Bool.eq_iff_iff.2 ?_)
        simp only[formM,blankM,patNil,emptyM,bndsM,hfact,hnb,List.length_map,List.length_nil,beq_self_eq_true,Bool.and_eq_true,Bool.or_eq_true,decide_eq_true_eq,hop,Int.reduceEq,Int.reduceLE,if_true,if_false,Bool.false_eq_true,Bool.true_eq_false,true_iff,false_iff,iff_false,iff_true,and_true,true_and,or_true,true_or,false_or,or_false,and_false,false_and,not_true_eq_false,not_false_eq_true]
        omega)
       | (
        refine congrArg (fun b=>some (AV.bool b)) (Bool.eq_iff_iff.2 ?_)
        simp only[formM,blankM,patNil,emptyM,bndsM,hfact,hnb,List.length_map,List.length_nil,beq_self_eq_true,Bool.and_eq_true,Bool.or_eq_true,decide_eq_true_eq,hop,Int.reduceEq,Int.reduceLE,if_true,if_false,Bool.false_eq_true,Bool.true_eq_false,true_iff,false_iff,iff_false,iff_true,and_true,true_and,or_true,true_or,false_or,or_false,and_false,false_and,not_true_eq_false,not_false_eq_true]
        done))
     | skip
 all_goals
  rw[encSch_eq]
  try rw[hop]
  (repeat' first|simp (disch:=omega) only[go_sem,ac562,enter,List.length_map]|refine pure_of _ ((empty_run _ _ _ _ _ _ _ _ _ _ _ _ _ _ _ (by assumption) (by assumption) (by assumption) (by assumption) (by assumption))) ?_|(apply spl<;>intro h<;>try simp (disch:=omega) only[go_sem,h]))
  all_goals
   first
    | rfl
    | omega
    | (
     cases hnb:x.s.name == []<;>first
      | (
       refine congrArg (fun b=>some (AV.bool b)) (Bool.eq_iff_iff.2 ?_)
       simp only[formM,blankM,patNil,emptyM,bndsM,hfact,hnb,List.length_map,List.length_nil,beq_self_eq_true,Bool.and_eq_true,Bool.or_eq_true,decide_eq_true_eq,hop,Int.reduceEq,Int.reduceLE,if_true,if_false,Bool.false_eq_true,Bool.true_eq_false,true_iff,false_iff,iff_false,iff_true,and_true,true_and,or_true,true_or,false_or,or_false,and_false,false_and,not_true_eq_false,not_false_eq_true]
       omega)
      | (
       refine congrArg (fun b=>some (AV.bool b)) (Bool.eq_iff_iff.2 ?_)
       simp only[formM,blankM,patNil,emptyM,bndsM,hfact,hnb,List.length_map,List.length_nil,beq_self_eq_true,Bool.and_eq_true,Bool.or_eq_true,decide_eq_true_eq,hop,Int.reduceEq,Int.reduceLE,if_true,if_false,Bool.false_eq_true,Bool.true_eq_false,true_iff,false_iff,iff_false,iff_true,and_true,true_and,or_true,true_or,false_or,or_false,and_false,false_and,not_true_eq_false,not_false_eq_true]
       done))
    | skip
end Ago
