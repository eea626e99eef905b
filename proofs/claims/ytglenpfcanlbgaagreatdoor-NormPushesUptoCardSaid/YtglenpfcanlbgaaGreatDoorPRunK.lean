/- A definition is looked up; keys that are there twice; the reference's check of nodes. -/
import Derived.Test.YtglenpfcanlbgaaGreatDoorPRunB
import Derived.Test.YtglenpfcanlbgaaGreatDoorPRunC
import Derived.Test.YtglenpfcanlbgaaGreatDoorPRunF
import Derived.Test.YtglenpfcanlbgaaGreatDoorPRunA
set_option linter.unusedSimpArgs false
set_option linter.unusedVariables false
set_option maxRecDepth 100000
set_option maxHeartbeats 8000000
namespace Ago
open Go (IntKind)
theorem Schs.dlen {s:Schs} {N:Nat} (hs:s.bulk≤N):s.defs.length<N∧∀ d,d∈s.defs→d.2.bulk<s.bulk∧d.1.length<N:=by
 have e:=s.bulk_eq
 have h1:=bulks_len (s.defs.map encDef)
 rw[List.length_map] at h1
 have:1≤s.root.bulk:=bulk_one _
 refine ⟨by omega,fun d hd=>?_⟩
 have:=bulks_mem (List.mem_map_of_mem (f:=encDef) hd)
 rw[encDef_bulk] at this
 have:1≤d.2.bulk:=bulk_one _
 omega
def zeroSl:AV:=.agg [.int .i64 0,.int .i64 0,.int .i64 0,.int .i64 0,.str [],.snil 11,.int .i64 0,.int .i64 0,.int .i64 0,.int .i64 0,.int .i64 0,.snil 6,.snil 13,.snil 17,.snil 15]
def lkM (s:Schs) (name:List UInt8):Sch × Bool:=match s.defs.find? fun d=>d.1 == name with
 | some d=>(d.2,true)
 | none=>(zeroX,false)
theorem find_at {α:Type} {p:α→Bool} {l:List α} {k:Nat} {y:α} (hy:l[k]?=some y) (ha:(l.take k).any p=false) (hp:p y=true):l.find? p=some y:=by
 have h1:l=l.take k++y::l.drop (k+1):=by rw[←dropS hy,List.take_append_drop]
 rw[h1,List.find?_append]
 have h2:(l.take k).find? p=none:=by
  rw[List.find?_eq_none]
  intro x hx hpx
  have:=List.any_eq_true.2 ⟨x,hx,hpx⟩
  rw[ha] at this
  cases this
 rw[h2]
 simp [hp]
theorem find_none {α:Type} {p:α→Bool} {l:List α} (ha:l.any p=false):l.find? p=none:=by
 rw[List.find?_eq_none]
 intro x hx hpx
 have:=List.any_eq_true.2 ⟨x,hx,hpx⟩
 rw[ha] at this
 cases this
theorem refLookup_run (s:Schs) (name:List UInt8) (hs:s.bulk≤2^24):PRun CS 458 [encSchs s,.str name] (.tup [encSch (lkM s name).1,.bool (lkM s name).2]):=by
 have hd:=(Schs.dlen hs).1
 refine prun_of ac458 rfl ?_
 rw[encSchs_eq]
 (repeat' first|simp (disch:=omega) only[go_sem,ac458,enter,List.length_map]|(apply spl<;>intro h<;>try simp (disch:=omega) only[go_sem,h]))
 refine loop_of (α:=Nat) (fun k=>{ tmps:=slots 29 [(1,.str name),(2,.ptr 16 0 0 0),(4,.ptr 15 1 0 0),(6,.int .i64 k)],heap:=[.row 16 [encSchs s] false true 0,.row 15 [zeroSl] false true 1],base:=0 }) (fun k=>k≤s.defs.length∧(s.defs.take k).any (fun d=>d.1 == name)=false) (fun k=>s.defs.length-k) 0 (by rw[encSchs_eq]; rfl) ⟨Nat.zero_le _,rfl⟩ ?_
 rintro k ⟨hk,ha⟩
 rw[encSchs_eq]
 by_cases hlt:k<s.defs.length
 ·obtain ⟨d,hdk⟩:=get_some hlt
  have hd2:=map_get (g:=encDef) hdk
  rw[encDef_eq] at hd2
  cases hb:d.1 == name with
  | true=>
   have hf:=find_at hdk ha hb
   have hl:lkM s name=(d.2,true):=by unfold lkM; rw[hf]
   rw[hl,encSch_eq]
   (repeat' first|simp (disch:=omega) only[go_sem,hd2,hb,List.length_map,zeroSl]|(apply spl<;>intro h<;>try simp (disch:=omega) only[go_sem,h]))
  | false=>
   (repeat' first|simp (disch:=omega) only[go_sem,hd2,hb,List.length_map,zeroSl]|(apply spl<;>intro h<;>try simp (disch:=omega) only[go_sem,h]))
   all_goals try omega
   refine ⟨k+1,?_,⟨hlt,take_any hdk ha hb⟩,by omega⟩
   first | rfl | (rw[encSchs_eq s]; rfl)
 ·rw[take_len hlt hk] at ha
  have hf:=find_none ha
  have hl:lkM s name=(zeroX,false):=by unfold lkM; rw[hf]
  rw[hl,zeroX_eq]
  (repeat' first|simp (disch:=omega) only[go_sem,List.length_map,zeroSl]|(apply spl<;>intro h<;>try simp (disch:=omega) only[go_sem,h]))
theorem has_run (l:List (List UInt8)) (s:List UInt8) (hl:l.length<2^30):PRun CS 492 [.tsl 1 (l.map .str),.str s] (.bool (l.any fun x=>x == s)):=by
 refine prun_of ac492 rfl ?_
 (repeat' first|simp (disch:=omega) only[go_sem,ac492,enter,List.length_map]|(apply spl<;>intro h<;>try simp (disch:=omega) only[go_sem,h]))
 refine loop_of (α:=Nat) (fun k=>{ tmps:=slots 18 [(0,.tsl 1 (l.map .str)),(1,.str s),(5,.int .i64 k)],heap:=[],base:=0 }) (fun k=>k≤l.length∧(l.take k).any (fun x=>x == s)=false) (fun k=>l.length-k) 0 rfl ⟨Nat.zero_le _,rfl⟩ ?_
 rintro k ⟨hk,ha⟩
 by_cases hlt:k<l.length
 ·obtain ⟨y,hy⟩:=get_some hlt
  have hy2:=map_get (g:=AV.str) hy
  cases hb:y == s with
  | true=>
   rw[any_at hy hb]
   (repeat' first|simp (disch:=omega) only[go_sem,hy2,hb,List.length_map]|(apply spl<;>intro h<;>try simp (disch:=omega) only[go_sem,h]))
   all_goals omega
  | false=>
   (repeat' first|simp (disch:=omega) only[go_sem,hy2,hb,List.length_map]|(apply spl<;>intro h<;>try simp (disch:=omega) only[go_sem,h]))
   all_goals try omega
   exact ⟨k+1,rfl,⟨hlt,take_any hy ha hb⟩,by omega⟩
 ·rw[take_len hlt hk] at ha
  rw[ha]
  (repeat' first|simp (disch:=omega) only[go_sem,List.length_map]|(apply spl<;>intro h<;>try simp (disch:=omega) only[go_sem,h]))
def dupGo:List (List UInt8)→List (List UInt8)→Bool
 | _,[]=>false
 | seen,y::l=>seen.any (fun x=>x == y) || dupGo (seen++[y]) l
def dupM (l:List (List UInt8)):Bool:=dupGo [] l
theorem dup_step {l:List (List UInt8)} {k:Nat} {y:List UInt8} (hy:l[k]?=some y):dupGo (l.take k) (l.drop k)=((l.take k).any (fun x=>x == y) || dupGo (l.take (k+1)) (l.drop (k+1))):=by
 rw[dropS hy]
 have:l.take (k+1)=l.take k++[y]:=by rw[List.take_add_one,hy]; rfl
 rw[this]
 rfl
def nodeM (s:Schs) (x:Sch):Int:=
 if formM x=false then 1 else if x.s.op=7∧knownM x.s.name=false then 7 else if x.s.op=14∧(lkM s x.s.name).2=false then 7 else if dupM (x.p.map fun p=>p.1.key)=true then 8 else 0
def keysP (x:Sch):List (List UInt8):=x.p.map fun p=>p.1.key
end Ago
set_option maxRecDepth 100000
set_option maxHeartbeats 16000000
namespace Ago
open Go (IntKind)
theorem keysP_len (x:Sch):(keysP x).length=x.p.length:=List.length_map ..
theorem keysP_get {x:Sch} {k:Nat} {y:PK × Sch} (hy:x.p[k]?=some y):(keysP x)[k]?=some y.1.key:=map_get (g:=fun p:PK × Sch=>p.1.key) hy
theorem dup_end {l:List (List UInt8)} {k:Nat} (h:l.length≤k) (hd:dupM l=dupGo (l.take k) (l.drop k)):dupM l=false:=by
 rw[hd,List.drop_of_length_le h]
 rfl
theorem refNode_run (s:Schs) (x:Sch) (hs:s.bulk≤2^24) (hx:x.bulk≤2^24):PRun CS 516 [encSchs s,encSch x] (.int .i64 (nodeM s x)):=by
 have L:=Sch.lens (N:=2^24) hx
 have l3:=L.props
 have hkn:nodeM s x=if formM x=false then 1 else if x.s.op=7∧knownM x.s.name=false then 7 else if x.s.op=14∧(lkM s x.s.name).2=false then 7 else if dupM (keysP x)=true then 8 else 0:=rfl
 have hf:=refForm_run x hx
 have hk:=refKnown_run x.s.name
 have hl:=refLookup_run s x.s.name hs
 refine prun_of ac516 rfl ?_
 rw[encSch_eq (lkM s x.s.name).1] at hl
 rw[encSchs_eq] at hl ⊢
 cases hb:formM x
 ·rw[hb] at hf
  rw[hkn,if_pos hb]
  rw[encSch_eq] at hf ⊢
  (repeat' first|simp (disch:=omega) only[go_sem,ac516,enter]|refine pure_of _ (hf) ?_|(apply spl<;>intro h<;>try simp (disch:=omega) only[go_sem,h]))
 rw[hb] at hf
 rw[if_neg (by rw[hb]; simp)] at hkn
 rw[encSch_eq] at hf ⊢
 by_cases c7:x.s.op=7∧knownM x.s.name=false
 ·rw[hkn,if_pos c7]
  obtain ⟨c7,c7'⟩:=c7
  rw[c7'] at hk
  (repeat' first|simp (disch:=omega) only[go_sem,ac516,enter]|refine pure_of _ (hf) ?_|refine pure_of _ (hk) ?_|(apply spl<;>intro h<;>try simp (disch:=omega) only[go_sem,h]))
 rw[if_neg c7] at hkn
 by_cases c14:x.s.op=14∧(lkM s x.s.name).2=false
 ·rw[hkn,if_pos c14]
  obtain ⟨c14,c14'⟩:=c14
  rw[c14'] at hl
  (repeat' first|simp (disch:=omega) only[go_sem,ac516,enter]|refine pure_of _ (hf) ?_|refine pure_of _ (hk) ?_|refine pure_of _ (hl) ?_|(apply spl<;>intro h<;>try simp (disch:=omega) only[go_sem,h]))
 rw[if_neg c14] at hkn
 rw[hkn]
 have hkk:x.s.op=7→knownM x.s.name=true:=fun h=>by
  cases q:knownM x.s.name with
  | true=>rfl
  | false=>exact (c7 ⟨h,q⟩).elim
 have hll:x.s.op=14→(lkM s x.s.name).2=true:=fun h=>by
  cases q:(lkM s x.s.name).2 with
  | true=>rfl
  | false=>exact (c14 ⟨h,q⟩).elim
 by_cases h7:x.s.op=7
 ·rw[hkk h7] at hk
  (repeat' first|simp (disch:=omega) only[go_sem,ac516,enter]|refine pure_of _ (hf) ?_|refine pure_of _ (hk) ?_|refine pure_of _ (hl) ?_|(apply spl<;>intro h<;>try simp (disch:=omega) only[go_sem,h]))
  refine loop_of (α:=Nat) (fun k=>{ tmps:=slots 57 [(3,.ptr 15 0 0 0),(7,outSl 1 1 (((keysP x).take k).map .str)),(8,.int .i64 k)],heap:=[.row 15 [encSch x] false true 0]++outHp 1 1 (((keysP x).take k).map .str),base:=0 }) (fun k=>k≤x.p.length∧dupM (keysP x)=dupGo ((keysP x).take k) ((keysP x).drop k)) (fun k=>x.p.length-k) 0 (by rw[encSch_eq]; rfl) ⟨Nat.zero_le _,rfl⟩ ?_
  rintro k ⟨hk,hd⟩
  rw[encSch_eq]
  obtain ⟨out,hout⟩ : ∃ out,((keysP x).take k).map AV.str=out:=⟨_,rfl⟩
  have hol:out.length=k:=by
   rw[←hout,List.length_map,List.length_take,keysP_len]
   omega
  by_cases hlt:k<x.p.length
  ·obtain ⟨y,hy⟩:=get_some hlt
   have hy2:=map_get (g:=encPr) hy
   have hy3:=keysP_get hy
   rw[encPr_eq] at hy2
   have hr:=has_run ((keysP x).take k) y.1.key (by rw[List.length_take]; omega)
   rw[hout] at hr
   rw[dup_step hy3] at hd
   have hnew:((keysP x).take (k+1)).map AV.str=out++[.str y.1.key]:=by
    rw[List.take_add_one,hy3,←hout]
    simp
   rw[hout]
   cases hc:((keysP x).take k).any (fun z=>z == y.1.key) with
   | true=>
    rw[hc] at hr hd
    rw[Bool.true_or] at hd
    rw[hd,if_pos rfl]
    cases out with
    | nil=>(repeat' first|simp (disch:=omega) only[go_sem,hy2,List.length_map,outSl,outHp]|refine pure_of _ (hr) ?_|(apply spl<;>intro h<;>try simp (disch:=omega) only[go_sem,h]))
    | cons z zs=>
     simp only[List.length_cons] at hol
     (repeat' first|simp (disch:=omega) only[go_sem,hy2,List.length_map,outSl,outHp,List.take_length]|refine pure_of _ (hr) ?_|(apply spl<;>intro h<;>try simp (disch:=omega) only[go_sem,h]))
   | false=>
    rw[hc] at hr hd
    rw[Bool.false_or] at hd
    cases out with
    | nil=>
     (repeat' first|simp (disch:=omega) only[go_sem,hy2,List.length_map,outSl,outHp]|refine pure_of _ (hr) ?_|(apply spl<;>intro h<;>try simp (disch:=omega) only[go_sem,h]))
     all_goals first | omega | skip
     refine ⟨k+1,?_,⟨hlt,hd⟩,by omega⟩
     simp only[hnew]
     first | rfl | (rw[encSch_eq x]; rfl)
    | cons z zs=>
     simp only[List.length_cons] at hol
     (repeat' first|simp (disch:=omega) only[go_sem,hy2,List.length_map,outSl,outHp,List.take_length]|refine pure_of _ (hr) ?_|(apply spl<;>intro h<;>try simp (disch:=omega) only[go_sem,h]))
     all_goals first | omega | skip
     refine ⟨k+1,?_,⟨hlt,hd⟩,by omega⟩
     simp only[hnew,List.cons_append,outSl,outHp,List.length_append,List.length_cons,List.length_nil]
     first | rfl | (rw[encSch_eq x]; rfl)
  ·rw[dup_end (by rw[keysP_len]; omega) hd,if_neg (by simp),hout]
   cases out with
   | nil=>(repeat' first|simp (disch:=omega) only[go_sem,List.length_map,outSl,outHp]|(apply spl<;>intro h<;>try simp (disch:=omega) only[go_sem,h]))
   | cons z zs=>(repeat' first|simp (disch:=omega) only[go_sem,List.length_map,outSl,outHp]|(apply spl<;>intro h<;>try simp (disch:=omega) only[go_sem,h]))
 ·by_cases h14:x.s.op=14
  ·rw[hll h14] at hl
   (repeat' first|simp (disch:=omega) only[go_sem,ac516,enter]|refine pure_of _ (hf) ?_|refine pure_of _ (hk) ?_|refine pure_of _ (hl) ?_|(apply spl<;>intro h<;>try simp (disch:=omega) only[go_sem,h]))
   refine loop_of (α:=Nat) (fun k=>{ tmps:=slots 57 [(3,.ptr 15 0 0 0),(7,outSl 1 1 (((keysP x).take k).map .str)),(8,.int .i64 k)],heap:=[.row 15 [encSch x] false true 0]++outHp 1 1 (((keysP x).take k).map .str),base:=0 }) (fun k=>k≤x.p.length∧dupM (keysP x)=dupGo ((keysP x).take k) ((keysP x).drop k)) (fun k=>x.p.length-k) 0 (by rw[encSch_eq]; rfl) ⟨Nat.zero_le _,rfl⟩ ?_
   rintro k ⟨hk,hd⟩
   rw[encSch_eq]
   obtain ⟨out,hout⟩ : ∃ out,((keysP x).take k).map AV.str=out:=⟨_,rfl⟩
   have hol:out.length=k:=by
    rw[←hout,List.length_map,List.length_take,keysP_len]
    omega
   by_cases hlt:k<x.p.length
   ·obtain ⟨y,hy⟩:=get_some hlt
    have hy2:=map_get (g:=encPr) hy
    have hy3:=keysP_get hy
    rw[encPr_eq] at hy2
    have hr:=has_run ((keysP x).take k) y.1.key (by rw[List.length_take]; omega)
    rw[hout] at hr
    rw[dup_step hy3] at hd
    have hnew:((keysP x).take (k+1)).map AV.str=out++[.str y.1.key]:=by
     rw[List.take_add_one,hy3,←hout]
     simp
    rw[hout]
    cases hc:((keysP x).take k).any (fun z=>z == y.1.key) with
    | true=>
     rw[hc] at hr hd
     rw[Bool.true_or] at hd
     rw[hd,if_pos rfl]
     cases out with
     | nil=>(repeat' first|simp (disch:=omega) only[go_sem,hy2,List.length_map,outSl,outHp]|refine pure_of _ (hr) ?_|(apply spl<;>intro h<;>try simp (disch:=omega) only[go_sem,h]))
     | cons z zs=>
      simp only[List.length_cons] at hol
      (repeat' first|simp (disch:=omega) only[go_sem,hy2,List.length_map,outSl,outHp,List.take_length]|refine pure_of _ (hr) ?_|(apply spl<;>intro h<;>try simp (disch:=omega) only[go_sem,h]))
    | false=>
     rw[hc] at hr hd
     rw[Bool.false_or] at hd
     cases out with
     | nil=>
      (repeat' first|simp (disch:=omega) only[go_sem,hy2,List.length_map,outSl,outHp]|refine pure_of _ (hr) ?_|(apply spl<;>intro h<;>try simp (disch:=omega) only[go_sem,h]))
      all_goals first | omega | skip
      refine ⟨k+1,?_,⟨hlt,hd⟩,by omega⟩
      simp only[hnew]
      first | rfl | (rw[encSch_eq x]; rfl)
     | cons z zs=>
      simp only[List.length_cons] at hol
      (repeat' first|simp (disch:=omega) only[go_sem,hy2,List.length_map,outSl,outHp,List.take_length]|refine pure_of _ (hr) ?_|(apply spl<;>intro h<;>try simp (disch:=omega) only[go_sem,h]))
      all_goals first | omega | skip
      refine ⟨k+1,?_,⟨hlt,hd⟩,by omega⟩
      simp only[hnew,List.cons_append,outSl,outHp,List.length_append,List.length_cons,List.length_nil]
      first | rfl | (rw[encSch_eq x]; rfl)
   ·rw[dup_end (by rw[keysP_len]; omega) hd,if_neg (by simp),hout]
    cases out with
    | nil=>(repeat' first|simp (disch:=omega) only[go_sem,List.length_map,outSl,outHp]|(apply spl<;>intro h<;>try simp (disch:=omega) only[go_sem,h]))
    | cons z zs=>(repeat' first|simp (disch:=omega) only[go_sem,List.length_map,outSl,outHp]|(apply spl<;>intro h<;>try simp (disch:=omega) only[go_sem,h]))
  ·(repeat' first|simp (disch:=omega) only[go_sem,ac516,enter]|refine pure_of _ (hf) ?_|refine pure_of _ (hk) ?_|refine pure_of _ (hl) ?_|(apply spl<;>intro h<;>try simp (disch:=omega) only[go_sem,h]))
   refine loop_of (α:=Nat) (fun k=>{ tmps:=slots 57 [(3,.ptr 15 0 0 0),(7,outSl 1 1 (((keysP x).take k).map .str)),(8,.int .i64 k)],heap:=[.row 15 [encSch x] false true 0]++outHp 1 1 (((keysP x).take k).map .str),base:=0 }) (fun k=>k≤x.p.length∧dupM (keysP x)=dupGo ((keysP x).take k) ((keysP x).drop k)) (fun k=>x.p.length-k) 0 (by rw[encSch_eq]; rfl) ⟨Nat.zero_le _,rfl⟩ ?_
   rintro k ⟨hk,hd⟩
   rw[encSch_eq]
   obtain ⟨out,hout⟩ : ∃ out,((keysP x).take k).map AV.str=out:=⟨_,rfl⟩
   have hol:out.length=k:=by
    rw[←hout,List.length_map,List.length_take,keysP_len]
    omega
   by_cases hlt:k<x.p.length
   ·obtain ⟨y,hy⟩:=get_some hlt
    have hy2:=map_get (g:=encPr) hy
    have hy3:=keysP_get hy
    rw[encPr_eq] at hy2
    have hr:=has_run ((keysP x).take k) y.1.key (by rw[List.length_take]; omega)
    rw[hout] at hr
    rw[dup_step hy3] at hd
    have hnew:((keysP x).take (k+1)).map AV.str=out++[.str y.1.key]:=by
     rw[List.take_add_one,hy3,←hout]
     simp
    rw[hout]
    cases hc:((keysP x).take k).any (fun z=>z == y.1.key) with
    | true=>
     rw[hc] at hr hd
     rw[Bool.true_or] at hd
     rw[hd,if_pos rfl]
     cases out with
     | nil=>(repeat' first|simp (disch:=omega) only[go_sem,hy2,List.length_map,outSl,outHp]|refine pure_of _ (hr) ?_|(apply spl<;>intro h<;>try simp (disch:=omega) only[go_sem,h]))
     | cons z zs=>
      simp only[List.length_cons] at hol
      (repeat' first|simp (disch:=omega) only[go_sem,hy2,List.length_map,outSl,outHp,List.take_length]|refine pure_of _ (hr) ?_|(apply spl<;>intro h<;>try simp (disch:=omega) only[go_sem,h]))
    | false=>
     rw[hc] at hr hd
     rw[Bool.false_or] at hd
     cases out with
     | nil=>
      (repeat' first|simp (disch:=omega) only[go_sem,hy2,List.length_map,outSl,outHp]|refine pure_of _ (hr) ?_|(apply spl<;>intro h<;>try simp (disch:=omega) only[go_sem,h]))
      all_goals first | omega | skip
      refine ⟨k+1,?_,⟨hlt,hd⟩,by omega⟩
      simp only[hnew]
      first | rfl | (rw[encSch_eq x]; rfl)
     | cons z zs=>
      simp only[List.length_cons] at hol
      (repeat' first|simp (disch:=omega) only[go_sem,hy2,List.length_map,outSl,outHp,List.take_length]|refine pure_of _ (hr) ?_|(apply spl<;>intro h<;>try simp (disch:=omega) only[go_sem,h]))
      all_goals first | omega | skip
      refine ⟨k+1,?_,⟨hlt,hd⟩,by omega⟩
      simp only[hnew,List.cons_append,outSl,outHp,List.length_append,List.length_cons,List.length_nil]
      first | rfl | (rw[encSch_eq x]; rfl)
   ·rw[dup_end (by rw[keysP_len]; omega) hd,if_neg (by simp),hout]
    cases out with
    | nil=>(repeat' first|simp (disch:=omega) only[go_sem,List.length_map,outSl,outHp]|(apply spl<;>intro h<;>try simp (disch:=omega) only[go_sem,h]))
    | cons z zs=>(repeat' first|simp (disch:=omega) only[go_sem,List.length_map,outSl,outHp]|(apply spl<;>intro h<;>try simp (disch:=omega) only[go_sem,h]))
end Ago
set_option maxRecDepth 100000
set_option maxHeartbeats 16000000
namespace Ago
open Go (IntKind)
def firstE:List Int→Int
 | []=>0
 | e::l=>if e=0 then firstE l else e
theorem firstE_at {α:Type} {f:α→Int} : ∀ {l:List α} {k:Nat} {y:α},l[k]?=some y→(l.take k).all (fun z=>f z == 0)=true→f y≠0→firstE (l.map f)=f y
 | [],_,_,h,_,_=>by simp at h
 | z::l,0,y,h,_,he=>by
  simp at h
  subst h
  simp [firstE,he]
 | z::l,k+1,y,h,ha,he=>by
  simp only[List.take_succ_cons,List.all_cons,Bool.and_eq_true,beq_iff_eq] at ha
  simp only[List.map_cons,firstE]
  rw[if_pos ha.1]
  exact firstE_at (by simpa using h) ha.2 he
theorem firstE_zero {α:Type} {f:α→Int} : ∀ {l:List α},l.all (fun z=>f z == 0)=true→firstE (l.map f)=0
 | [],_=>rfl
 | z::l,ha=>by
  simp only[List.all_cons,Bool.and_eq_true,beq_iff_eq] at ha
  simp only[List.map_cons,firstE]
  rw[if_pos ha.1]
  exact firstE_zero ha.2
def nodesM (s:Schs):Nat→Sch→Int
 | 0,_=>0
 | d+1,x=>if nodeM s x=0 then firstE (x.kids.map (nodesM s d)) else nodeM s x
theorem nodesM_zero (s:Schs) (x:Sch):nodesM s 0 x=0:=(rfl)
theorem nodesM_succ (s:Schs) (d:Nat) (x:Sch):nodesM s (d+1) x=if nodeM s x=0 then firstE (x.kids.map (nodesM s d)) else nodeM s x:=(rfl)
def deepM:Nat→Sch→Bool
 | 0,_=>true
 | d+1,x=>x.kids.any (deepM d)
theorem deepM_zero (x:Sch):deepM 0 x=true:=(rfl)
theorem deepM_succ (d:Nat) (x:Sch):deepM (d+1) x=x.kids.any (deepM d):=(rfl)
theorem refDeeper_run : ∀ (d:Nat) (D:Int),D=d→d<2^30→∀ x:Sch,x.bulk≤2^24→PRun CS 487 [encSch x,.int .i64 D] (.bool (deepM d x)):=by
 intro d
 induction d with
 | zero=>
  intro D hD hd x hx
  refine prun_of ac487 rfl ?_
  rw[encSch_eq,deepM_zero]
  (repeat' first|simp (disch:=omega) only[go_sem,ac487,enter,List.length_map]|(apply spl<;>intro h<;>try simp (disch:=omega) only[go_sem,h]))
  all_goals omega
 | succ d ih=>
  intro D hD hd x hx
  have hp:=refParts_run x hx
  have hkl:=kids_len x
  rw[deepM_succ]
  refine prun_of ac487 rfl ?_
  rw[encSch_eq] at hp ⊢
  (repeat' first|simp (disch:=omega) only[go_sem,ac487,enter,List.length_map]|refine pure_of _ (hp) ?_|(apply spl<;>intro h<;>try simp (disch:=omega) only[go_sem,h]))
  all_goals try omega
  refine loop_of (α:=Nat) (fun k=>{ tmps:=slots 24 [(1,.int .i64 D),(5,.tsl 15 (x.kids.map encSch)),(6,.int .i64 k)],heap:=[],base:=0 }) (fun k=>k≤x.kids.length∧(x.kids.take k).any (deepM d)=false) (fun k=>x.kids.length-k) 0 rfl ⟨Nat.zero_le _,rfl⟩ ?_
  rintro k ⟨hk,ha⟩
  by_cases hlt:k<x.kids.length
  ·obtain ⟨y,hy⟩:=get_some hlt
   have hym:=List.mem_of_getElem? hy
   have hy2:=map_get (g:=encSch) hy
   have hr:=ih (D-1) (by omega) (by omega) y (by have:=Sch.kids_bulk hym; omega)
   rw[encSch_eq] at hy2 hr
   cases hc:deepM d y with
   | true=>
    rw[hc] at hr
    rw[any_at hy hc]
    (repeat' first|simp (disch:=omega) only[go_sem,hy2,List.length_map]|refine pure_of _ (hr) ?_|(apply spl<;>intro h<;>try simp (disch:=omega) only[go_sem,h]))
    all_goals omega
   | false=>
    rw[hc] at hr
    (repeat' first|simp (disch:=omega) only[go_sem,hy2,List.length_map]|refine pure_of _ (hr) ?_|(apply spl<;>intro h<;>try simp (disch:=omega) only[go_sem,h]))
    all_goals try omega
    exact ⟨k+1,rfl,⟨hlt,take_any hy ha hc⟩,by omega⟩
  ·rw[take_len hlt hk] at ha
   rw[ha]
   (repeat' first|simp (disch:=omega) only[go_sem,List.length_map]|(apply spl<;>intro h<;>try simp (disch:=omega) only[go_sem,h]))
theorem refNodes_run (s:Schs) (hs:s.bulk≤2^24) : ∀ (d:Nat) (D:Int),D=d→d<2^30→∀ x:Sch,x.bulk≤2^24→PRun CS 488 [encSchs s,encSch x,.int .i64 D] (.int .i64 (nodesM s d x)):=by
 intro d
 induction d with
 | zero=>
  intro D hD hd x hx
  refine prun_of ac488 rfl ?_
  rw[encSch_eq,nodesM_zero,encSchs_eq]
  (repeat' first|simp (disch:=omega) only[go_sem,ac488,enter,List.length_map]|(apply spl<;>intro h<;>try simp (disch:=omega) only[go_sem,h]))
  all_goals omega
 | succ d ih=>
  intro D hD hd x hx
  have hn:=refNode_run s x hs hx
  have hp:=refParts_run x hx
  have hkl:=kids_len x
  rw[nodesM_succ]
  refine prun_of ac488 rfl ?_
  have hse:=encSchs_eq s
  rw[encSch_eq] at hp hn ⊢
  rw[encSchs_eq] at hn ⊢
  by_cases he:nodeM s x=0
  ·rw[if_pos he]
   rw[he] at hn
   (repeat' first|simp (disch:=omega) only[go_sem,ac488,enter,List.length_map]|refine pure_of _ (hn) ?_|refine pure_of _ (hp) ?_|(apply spl<;>intro h<;>try simp (disch:=omega) only[go_sem,h]))
   all_goals try omega
   refine loop_of (α:=Nat) (fun k=>{ tmps:=slots 38 [(2,.int .i64 D),(3,.ptr 16 0 0 0),(8,.tsl 15 (x.kids.map encSch)),(9,.int .i64 k)],heap:=[.row 16 [encSchs s] false true 0],base:=0 }) (fun k=>k≤x.kids.length∧(x.kids.take k).all (fun z=>nodesM s d z == 0)=true) (fun k=>x.kids.length-k) 0 (by rw[encSchs_eq]; rfl) ⟨Nat.zero_le _,rfl⟩ ?_
   rintro k ⟨hk,ha⟩
   rw[encSchs_eq]
   by_cases hlt:k<x.kids.length
   ·obtain ⟨y,hy⟩:=get_some hlt
    have hym:=List.mem_of_getElem? hy
    have hy2:=map_get (g:=encSch) hy
    have hr:=ih (D-1) (by omega) (by omega) y (by have:=Sch.kids_bulk hym; omega)
    rw[encSch_eq] at hy2 hr
    rw[encSchs_eq] at hr
    by_cases hc:nodesM s d y=0
    ·rw[hc] at hr
     (repeat' first|simp (disch:=omega) only[go_sem,hy2,List.length_map]|refine pure_of _ (hr) ?_|(apply spl<;>intro h<;>try simp (disch:=omega) only[go_sem,h]))
     all_goals try omega
     refine ⟨k+1,?_,⟨hlt,take_succ_all hy ha (by simp [hc])⟩,by omega⟩
     first | rfl | (rw[hse]; rfl)
    ·rw[firstE_at hy ha hc]
     (repeat' first|simp (disch:=omega) only[go_sem,hy2,List.length_map]|refine pure_of _ (hr) ?_|(apply spl<;>intro h<;>try simp (disch:=omega) only[go_sem,h]))
     all_goals omega
   ·rw[take_len hlt hk] at ha
    rw[firstE_zero ha]
    (repeat' first|simp (disch:=omega) only[go_sem,List.length_map]|(apply spl<;>intro h<;>try simp (disch:=omega) only[go_sem,h]))
  ·rw[if_neg he]
   (repeat' first|simp (disch:=omega) only[go_sem,ac488,enter,List.length_map]|refine pure_of _ (hn) ?_|refine pure_of _ (hp) ?_|(apply spl<;>intro h<;>try simp (disch:=omega) only[go_sem,h]))
   all_goals omega
end Ago
set_option maxRecDepth 100000
set_option maxHeartbeats 16000000
namespace Ago
open Go (IntKind)
def nameOkM (n:List UInt8):Bool:=decide (1≤n.length∧n.length≤64) && utf n
def defsE (s:Schs):List (List UInt8 × Sch)→List (List UInt8 × Sch)→Int
 | _,[]=>0
 | pre,d::l=>if nameOkM d.1=false then 1 else if (pre.any fun e=>e.1 == d.1)=true then 8 else if nodesM s 48 d.2=0 then defsE s (pre++[d]) l else nodesM s 48 d.2
theorem defsE_step {s:Schs} {k:Nat} {d:List UInt8 × Sch} (hd:s.defs[k]?=some d):defsE s (s.defs.take k) (s.defs.drop k)=if nameOkM d.1=false then 1 else if ((s.defs.take k).any fun e=>e.1 == d.1)=true then 8 else if nodesM s 48 d.2=0 then defsE s (s.defs.take (k+1)) (s.defs.drop (k+1)) else nodesM s 48 d.2:=by
 rw[dropS hd]
 have:s.defs.take (k+1)=s.defs.take k++[d]:=by rw[List.take_add_one,hd]; rfl
 rw[this]
 rfl
theorem defsE_end {s:Schs} {k:Nat} (h:s.defs.length≤k):defsE s (s.defs.take k) (s.defs.drop k)=0:=by
 rw[List.drop_of_length_le h]
 rfl
def dSum (l:List (List UInt8 × Sch)):Nat:=(l.map fun d=>cntM 48 d.2).sum
def dDeep (l:List (List UInt8 × Sch)):Bool:=l.any fun d=>deepM 48 d.2
def schkM (s:Schs) (g:Bool):Int:=
 if defsE s [] s.defs=0 then
  (if nodesM s 48 s.root=0 then
   (if (dDeep s.defs || deepM 48 s.root)=true then 9 else if 1024<dSum s.defs+cntM 48 s.root∨64<s.defs.length then 10 else if g=false then 23 else 0)
  else nodesM s 48 s.root)
 else defsE s [] s.defs
theorem dSum_step {s:Schs} {k:Nat} {d:List UInt8 × Sch} (hd:s.defs[k]?=some d):dSum (s.defs.take (k+1))=dSum (s.defs.take k)+cntM 48 d.2:=sum_take _ _ _ _ hd
theorem dDeep_step {s:Schs} {k:Nat} {d:List UInt8 × Sch} (hd:s.defs[k]?=some d):dDeep (s.defs.take (k+1))=(dDeep (s.defs.take k) || deepM 48 d.2):=by
 unfold dDeep
 rw[List.take_add_one,hd]
 simp
theorem dSum_le (s:Schs) (k:Nat):dSum (s.defs.take k)+cntM 48 s.root≤s.bulk:=by
 have h1:dSum (s.defs.take k)≤dSum s.defs:=sum_take_le _ _ _
 have h2:dSum s.defs≤AV.bulks (s.defs.map encDef):=by
  unfold dSum
  have : ∀ l:List (List UInt8 × Sch),(l.map fun d=>cntM 48 d.2).sum≤AV.bulks (l.map encDef):=by
   intro l
   induction l with
   | nil=>simp
   | cons d l ih=>
    have:=cnt_le 48 d.2
    have:=encDef_bulk d
    simp only[List.map_cons,List.sum_cons,AV.bulks]
    omega
  exact this _
 have:=cnt_le 48 s.root
 have:=s.bulk_eq
 omega
end Ago
set_option maxRecDepth 100000
set_option maxHeartbeats 16000000
namespace Ago
open Go (IntKind)
theorem nameOk_f {n:List UInt8} (h : ¬ (1≤n.length∧n.length≤64)∨utf n=false):nameOkM n=false:=by
 unfold nameOkM
 rcases h with h | h
 ·rw[decide_eq_false h]; rfl
 ·rw[h,Bool.and_false]
theorem refCheck_run (s:Schs) (hs:s.bulk≤2^24) (w:List UInt8) (g:Bool) (hg:PRun CS 460 [encSchs s] (.tup [.str w,.bool g])):PRun CS 455 [encSchs s] (.int .i64 (schkM s g)):=by
 obtain ⟨hd1,hd2⟩:=Schs.dlen hs
 have hrb:s.root.bulk≤2^24:=by
  have:=s.bulk_eq
  omega
 have hse:=encSchs_eq s
 have hr1:=refSize_run s.root hrb
 have hr2:=refDeeper_run 48 48 rfl (by decide) s.root hrb
 have hr3:=refNodes_run s hs 48 48 rfl (by decide) s.root hrb
 rw[encSch_eq] at hr1 hr2 hr3
 rw[encSchs_eq] at hr3
 refine prun_of ac455 rfl ?_
 rw[encSchs_eq] at hg ⊢
 (repeat' first|simp (disch:=omega) only[go_sem,ac455,enter,List.length_map]|refine pure_of _ (hr1) ?_|refine pure_of _ (hr2) ?_|(apply spl<;>intro h<;>try simp (disch:=omega) only[go_sem,h]))
 refine loop_of (α:=Nat) (fun k=>{ tmps:=slots 101 [(1,.ptr 16 0 0 0),(3,.int .i64 (dSum (s.defs.take k)+cntM 48 s.root:Nat)),(4,.bool (deepM 48 s.root || dDeep (s.defs.take k))),(5,.int .i64 k)],heap:=[.row 16 [encSchs s] false true 0],base:=0 }) (fun k=>k≤s.defs.length∧defsE s [] s.defs=defsE s (s.defs.take k) (s.defs.drop k)) (fun k=>s.defs.length-k) 0 (by
  rw[hse,show dDeep (s.defs.take 0)=false from rfl,show dSum (s.defs.take 0)=0 from rfl,Bool.or_false,Nat.zero_add]
  rfl) ⟨Nat.zero_le _,rfl⟩ ?_
 rintro k ⟨hk,he⟩
 have hsm:=dSum_le s k
 rw[hse]
 by_cases hlt:k<s.defs.length
 ·obtain ⟨d,hdk⟩:=get_some hlt
  have hdm:=List.mem_of_getElem? hdk
  have hde:=map_get (g:=encDef) hdk
  obtain ⟨hdb,hdn⟩:=hd2 d hdm
  rw[defsE_step hdk] at he
  have hu:=upS (utf_run d.1 (by omega))
  rw[encDef_eq] at hde
  by_cases c1:1≤d.1.length∧d.1.length≤64
  case neg=>
   rw[if_pos (nameOk_f (.inl c1))] at he
   have hR:schkM s g=1:=by unfold schkM; rw[he]; rfl
   rw[hR]
   (repeat' first|simp (disch:=omega) only[go_sem,hde,List.length_map]|refine pure_of _ (hu) ?_|(apply spl<;>intro h<;>try simp (disch:=omega) only[go_sem,h]))
   all_goals omega
  cases c2:utf d.1
  case false=>
   rw[if_pos (nameOk_f (.inr c2))] at he
   have hR:schkM s g=1:=by unfold schkM; rw[he]; rfl
   rw[hR]
   rw[c2] at hu
   (repeat' first|simp (disch:=omega) only[go_sem,hde,List.length_map]|refine pure_of _ (hu) ?_|(apply spl<;>intro h<;>try simp (disch:=omega) only[go_sem,h]))
   all_goals omega
  rw[c2] at hu
  have hnm:nameOkM d.1=true:=by unfold nameOkM; rw[decide_eq_true c1,c2]; rfl
  rw[if_neg (by rw[hnm]; simp)] at he
  obtain ⟨dp,hdp⟩ : ∃ b,(deepM 48 s.root || dDeep (s.defs.take k))=b:=⟨_,rfl⟩
  have hds:=dDeep_step hdk
  rw[hdp]
  (repeat' first|simp (disch:=omega) only[go_sem,hde,List.length_map]|refine pure_of _ (hu) ?_|(apply spl<;>intro h<;>try simp (disch:=omega) only[go_sem,h]))
  all_goals try omega
  refine loop_of (α:=Nat) (fun j=>{ tmps:=slots 101 [(1,.ptr 16 0 0 0),(3,.int .i64 (dSum (s.defs.take k)+cntM 48 s.root:Nat)),(4,.bool dp),(5,.int .i64 k),(6,.ptr 16 1 0 0),(7,.int .i64 j)],heap:=[.row 16 [encSchs s] false true 0,.row 16 [encDef d] false true 1],base:=0 }) (fun j=>j≤k∧((s.defs.take k).take j).any (fun e=>e.1 == d.1)=false) (fun j=>k-j) 0 (by rw[hse,encDef_eq]; rfl) ⟨Nat.zero_le _,rfl⟩ ?_
  rintro j ⟨hj,haj⟩
  have hkl:(s.defs.take k).length=k:=by rw[List.length_take]; omega
  rw[hse,encDef_eq d]
  by_cases hjl:j<k
  ·obtain ⟨e,hej⟩ : ∃ e,(s.defs.take k)[j]?=some e:=get_some (by omega)
   have hej2:s.defs[j]?=some e:=by
    rw[List.getElem?_take_of_lt hjl] at hej
    exact hej
   have hee:=map_get (g:=encDef) hej2
   rw[encDef_eq] at hee
   cases hb:e.1 == d.1 with
   | true=>
    rw[if_pos (any_at hej hb)] at he
    have hR:schkM s g=8:=by unfold schkM; rw[he]; rfl
    rw[hR]
    (repeat' first|simp (disch:=omega) only[go_sem,hee,hb,List.length_map]|(apply spl<;>intro h<;>try simp (disch:=omega) only[go_sem,h]))
    all_goals omega
   | false=>
    (repeat' first|simp (disch:=omega) only[go_sem,hee,hb,List.length_map]|(apply spl<;>intro h<;>try simp (disch:=omega) only[go_sem,h]))
    all_goals try omega
    refine ⟨j+1,?_,⟨hjl,take_any hej haj hb⟩,by omega⟩
    first | rfl | (rw[hse]; rfl)
  ·rw[take_len (by omega) (by omega)] at haj
   rw[if_neg (by rw[haj]; simp)] at he
   have q1:=refSize_run d.2 (by omega)
   have q2:=refDeeper_run 48 48 rfl (by decide) d.2 (by omega)
   have q3:=refNodes_run s hs 48 48 rfl (by decide) d.2 (by omega)
   have hcl:=cnt_le 48 d.2
   rw[encSch_eq] at q1 q2 q3
   rw[encSchs_eq] at q3
   have hss:=dSum_step hdk
   by_cases hz:nodesM s 48 d.2=0
   ·rw[if_pos hz] at he
    rw[hz] at q3
    have e1:((dSum (s.defs.take k)+cntM 48 s.root:Nat):Int)+(cntM 48 d.2:Nat)=((dSum (s.defs.take (k+1))+cntM 48 s.root:Nat):Int):=by rw[hss]; omega
    cases dp
    ·have e2:(deepM 48 s.root || dDeep (s.defs.take (k+1)))=deepM 48 d.2:=by rw[hds,←Bool.or_assoc,hdp,Bool.false_or]
     (repeat' first|simp (disch:=omega) only[go_sem,e1,List.length_map]|refine pure_of _ (q1) ?_|refine pure_of _ (q2) ?_|refine pure_of _ (q3) ?_|(apply spl<;>intro h<;>try simp (disch:=omega) only[go_sem,h]))
     all_goals try omega
     refine ⟨k+1,?_,⟨hlt,he⟩,by omega⟩
     rw[e2]
     first | rfl | (rw[hse]; rfl)
    ·have e2:(deepM 48 s.root || dDeep (s.defs.take (k+1)))=true:=by rw[hds,←Bool.or_assoc,hdp,Bool.true_or]
     (repeat' first|simp (disch:=omega) only[go_sem,e1,List.length_map]|refine pure_of _ (q1) ?_|refine pure_of _ (q2) ?_|refine pure_of _ (q3) ?_|(apply spl<;>intro h<;>try simp (disch:=omega) only[go_sem,h]))
     all_goals try omega
     refine ⟨k+1,?_,⟨hlt,he⟩,by omega⟩
     rw[e2]
     first | rfl | (rw[hse]; rfl)
   ·rw[if_neg hz] at he
    have hR:schkM s g=nodesM s 48 d.2:=by unfold schkM; rw[he,if_neg hz]
    rw[hR]
    (repeat' first|simp (disch:=omega) only[go_sem,List.length_map]|refine pure_of _ (q1) ?_|refine pure_of _ (q2) ?_|refine pure_of _ (q3) ?_|(apply spl<;>intro h<;>try simp (disch:=omega) only[go_sem,h]))
    all_goals omega
 ·have hk2:k=s.defs.length:=by omega
  subst hk2
  rw[defsE_end (Nat.le_refl _)] at he
  rw[List.take_length] at hsm ⊢
  have hR:schkM s g=if nodesM s 48 s.root=0 then (if (dDeep s.defs || deepM 48 s.root)=true then 9 else if 1024<dSum s.defs+cntM 48 s.root∨64<s.defs.length then 10 else if g=false then 23 else 0) else nodesM s 48 s.root:=by
   unfold schkM
   rw[he]
   rfl
  rw[hR,Bool.or_comm (deepM 48 s.root)]
  by_cases hz:nodesM s 48 s.root=0
  ·rw[if_pos hz]
   rw[hz] at hr3
   cases hdp:(dDeep s.defs || deepM 48 s.root)
   ·rw[if_neg (by simp)]
    by_cases hsz:1024<dSum s.defs+cntM 48 s.root∨64<s.defs.length
    ·rw[if_pos hsz]
     (repeat' first|simp (disch:=omega) only[go_sem,List.length_map]|refine pure_of _ (hg) ?_|refine pure_of _ (hr3) ?_|(apply spl<;>intro h<;>try simp (disch:=omega) only[go_sem,h]))
     all_goals omega
    ·rw[if_neg hsz]
     cases g
     ·rw[if_pos rfl]
      (repeat' first|simp (disch:=omega) only[go_sem,List.length_map]|refine pure_of _ (hg) ?_|refine pure_of _ (hr3) ?_|(apply spl<;>intro h<;>try simp (disch:=omega) only[go_sem,h]))
      all_goals omega
     ·rw[if_neg (by simp)]
      (repeat' first|simp (disch:=omega) only[go_sem,List.length_map]|refine pure_of _ (hg) ?_|refine pure_of _ (hr3) ?_|(apply spl<;>intro h<;>try simp (disch:=omega) only[go_sem,h]))
      all_goals omega
   ·rw[if_pos rfl]
    (repeat' first|simp (disch:=omega) only[go_sem,List.length_map]|refine pure_of _ (hg) ?_|refine pure_of _ (hr3) ?_|(apply spl<;>intro h<;>try simp (disch:=omega) only[go_sem,h]))
    all_goals omega
  ·rw[if_neg hz]
   (repeat' first|simp (disch:=omega) only[go_sem,List.length_map]|refine pure_of _ (hg) ?_|refine pure_of _ (hr3) ?_|(apply spl<;>intro h<;>try simp (disch:=omega) only[go_sem,h]))
   all_goals omega
end Ago
