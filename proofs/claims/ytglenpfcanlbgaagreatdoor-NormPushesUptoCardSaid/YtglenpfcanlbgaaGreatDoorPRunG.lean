/- Schemas: the schemas in a node,how many nodes there are. -/
import Derived.Test.YtglenpfcanlbgaaGreatDoorPCode
import Derived.Test.YtglenpfcanlbgaaGreatDoorPRunA
import Derived.Test.YtglenpfcanlbgaaGreatDoorPMachE
import Derived.Test.YtglenpfcanlbgaaGreatDoorPRunF
set_option linter.unusedSimpArgs false
set_option linter.unusedVariables false
set_option maxRecDepth 100000
set_option maxHeartbeats 4000000
namespace Ago
open Go (IntKind)
theorem refParts_run (v:Sch) (hv:v.bulk≤2^24):PRun CS 515 [encSch v] (.tsl 15 (v.kids.map encSch)):=by
 have L:=Sch.lens hv
 refine prun_of ac515 rfl ?_
 rw[encSch_eq]
 (repeat' first|simp (disch:=omega) only[go_sem,ac515,enter,List.length_map]|(apply spl<;>intro h<;>try simp (disch:=omega) only[go_sem,h]))
 refine loop_of (α:=Nat × List AV) (fun a=>{ tmps:=slots 25 [(1,.ptr 15 0 0 0),(3,outSl 15 1 a.2),(4,.int .i64 a.1)],heap:=[.row 15 [encSch v] false true 0]++outHp 15 1 a.2,base:=0 }) (fun a=>a.1≤v.p.length∧a.2=(v.p.take a.1).map fun x=>encSch x.2) (fun a=>v.p.length-a.1) (0,[]) (by rw[encSch_eq]; rfl) (by simp) ?_
 rintro ⟨k,els⟩ ⟨hk,hl⟩
 simp only at hk hl
 rw[encSch_eq]
 by_cases hlt:k<v.p.length
 ·obtain ⟨x,hx⟩:=get_some hlt
  have hx2:=map_get (g:=encPr) hx
  rw[encPr_eq] at hx2
  have hnew:els++[encSch x.2]=(v.p.take (k+1)).map fun x=>encSch x.2:=by rw[hl,List.take_add_one,hx]; simp
  rw[encSch_eq x.2] at hnew
  have hlen:els.length=k:=by rw[hl]; simp; omega
  have hfl:=L.props
  cases els with
  | nil=>
   (repeat' first|simp (disch:=omega) only[go_sem,hx2,List.length_map,outSl,outHp]|(apply spl<;>intro h<;>try simp (disch:=omega) only[go_sem,h]))
   refine ⟨(k+1,(v.p.take (k+1)).map fun x=>encSch x.2),?_,⟨hlt,rfl⟩,by simp only; omega⟩
   simp only[←hnew]
   rfl
  | cons y els=>
   simp only[List.length_cons] at hlen
   (repeat' first|simp (disch:=omega) only[go_sem,hx2,List.length_map,outSl,outHp]|(apply spl<;>intro h<;>try simp (disch:=omega) only[go_sem,h]))
   refine ⟨(k+1,(v.p.take (k+1)).map fun x=>encSch x.2),?_,⟨hlt,rfl⟩,by simp only; omega⟩
   simp only[←hnew,List.cons_append,outSl,outHp,List.length_append,List.length_cons,List.length_nil]
   rfl
 ·have hf:els++v.a.map encSch=v.kids.map encSch:=by
   rw[hl,take_len hlt hk]
   simp [Sch.kids]
  rw[←hf]
  have hal:=L.args
  have hpl:=L.props
  have hlen:els.length=v.p.length:=by rw[hl,take_len hlt hk]; simp
  cases ha:v.a with
  | nil=>
   cases els with
   | nil=>(repeat' first|simp (disch:=omega) only[go_sem,List.length_map,outSl,outHp,List.map_nil,List.append_nil]|(apply spl<;>intro h<;>try simp (disch:=omega) only[go_sem,h]))
   | cons y els=>
    simp only[List.length_cons] at hlen
    (repeat' first|simp (disch:=omega) only[go_sem,List.length_map,outSl,outHp,List.take_length,List.map_nil,List.append_nil,List.length_append,List.length_cons]|(apply spl<;>intro h<;>try simp (disch:=omega) only[go_sem,h]))
    all_goals (simp; try exact List.take_of_length_le (by simp; try omega))
  | cons z zs=>
   rw[ha] at hal
   simp only[List.length_cons] at hal
   cases els with
   | nil=>
    (repeat' first|simp (disch:=omega) only[go_sem,List.length_map,outSl,outHp,List.take_length,List.map_cons,List.nil_append,List.length_cons]|(apply spl<;>intro h<;>try simp (disch:=omega) only[go_sem,h]))
    all_goals (simp; try exact List.take_of_length_le (by simp; try omega))
   | cons y els=>
    simp only[List.length_cons] at hlen
    (repeat' first|simp (disch:=omega) only[go_sem,List.length_map,outSl,outHp,List.take_length,List.map_cons,List.length_append,List.length_cons,List.cons_append]|(apply spl<;>intro h<;>try simp (disch:=omega) only[go_sem,h]))
    all_goals (simp; try exact List.take_of_length_le (by simp; try omega))
def cntM:Nat→Sch→Nat
 | 0,_=>0
 | d+1,x=>1+(x.kids.map (cntM d)).sum
theorem cntM_zero (x:Sch):cntM 0 x=0:=(rfl)
theorem cntM_succ (d:Nat) (x:Sch):cntM (d+1) x=1+(x.kids.map (cntM d)).sum:=(rfl)
theorem sum_le {α:Type} {f g:α→Nat} : ∀ (l:List α),(∀ x,x∈l→f x≤g x)→(l.map f).sum≤(l.map g).sum
 | [],_=>by simp
 | x::l,h=>by
  have:=h x (List.mem_cons_self ..)
  have:=sum_le l fun y hy=>h y (List.mem_cons_of_mem _ hy)
  simp only[List.map_cons,List.sum_cons]
  omega
theorem bulks_sum : ∀ l:List Sch,AV.bulks (l.map encSch)=(l.map Sch.bulk).sum
 | []=>by simp [AV.bulks]
 | x::l=>by simp [AV.bulks,bulks_sum l,Sch.bulk]
theorem kids_lt (x:Sch):(x.kids.map Sch.bulk).sum<x.bulk:=by
 have h1:=x.kids_sum
 have h2:=x.bulk_eq
 have h3:=bulks_sum x.kids
 omega
theorem cnt_le : ∀ (d:Nat) (x:Sch),cntM d x≤x.bulk
 | 0,x=>by simp [cntM_zero]
 | d+1,x=>by
  rw[cntM_succ]
  have:=kids_lt x
  have:=sum_le x.kids (fun y _=>cnt_le d y)
  omega
theorem kids_len (x:Sch):x.kids.length<x.bulk:=by
 have h1:=kids_lt x
 have h2 : ∀ l:List Sch,l.length≤(l.map Sch.bulk).sum:=by
  intro l
  induction l with
  | nil=>simp
  | cons y l ih=>
   have:1≤y.bulk:=bulk_one _
   simp only[List.length_cons,List.map_cons,List.sum_cons]
   omega
 have:=h2 x.kids
 omega
theorem sum_take {α:Type} (f:α→Nat) (l:List α) (k:Nat) (x:α) (hx:l[k]?=some x):((l.take (k+1)).map f).sum=((l.take k).map f).sum+f x:=by
 rw[List.take_add_one,hx]
 simp
theorem sum_take_le {α:Type} (f:α→Nat) (l:List α) (k:Nat):((l.take k).map f).sum≤(l.map f).sum:=by
 have:(l.map f).sum=((l.take k).map f).sum+((l.drop k).map f).sum:=by
  rw[←List.sum_append,←List.map_append,List.take_append_drop]
 omega
theorem refCount_run : ∀ (d:Nat) (D:Int),D=d→d<2^30→∀ x:Sch,x.bulk≤2^24→PRun CS 507 [encSch x,.int .i64 D] (.int .i64 (cntM d x)):=by
 intro d
 induction d with
 | zero=>
  intro D hD hd x hx
  refine prun_of ac507 rfl ?_
  rw[encSch_eq,cntM_zero]
  (repeat' first|simp (disch:=omega) only[go_sem,ac507,enter,List.length_map]|(apply spl<;>intro h<;>try simp (disch:=omega) only[go_sem,h]))
  all_goals omega
 | succ d ih=>
  intro D hD hd x hx
  have L:=Sch.lens hx
  have hp:=refParts_run x hx
  have hkl:=kids_len x
  refine prun_of ac507 rfl ?_
  rw[encSch_eq] at hp ⊢
  (repeat' first|simp (disch:=omega) only[go_sem,ac507,enter,List.length_map]|refine pure_of _ (hp) ?_|(apply spl<;>intro h<;>try simp (disch:=omega) only[go_sem,h]))
  all_goals try omega
  refine loop_of (α:=Nat × Nat) (fun a=>{ tmps:=slots 28 [(1,.int .i64 D),(5,.int .i64 a.2),(6,.tsl 15 (x.kids.map encSch)),(7,.int .i64 a.1)],heap:=[],base:=0 }) (fun a=>a.1≤x.kids.length∧a.2=1+((x.kids.take a.1).map (cntM d)).sum) (fun a=>x.kids.length-a.1) (0,1) rfl ⟨Nat.zero_le _,by simp⟩ ?_
  rintro ⟨k,n⟩ ⟨hk,hn⟩
  simp only at hk hn
  by_cases hlt:k<x.kids.length
  ·obtain ⟨y,hy⟩:=get_some hlt
   have hym:=List.mem_of_getElem? hy
   have hy2:=map_get (g:=encSch) hy
   have hr:=ih (D-1) (by omega) (by omega) y (by have:=Sch.kids_bulk hym; omega)
   have h1:=sum_take_le (cntM d) x.kids (k+1)
   have h2:=sum_take (cntM d) x.kids k y hy
   have h3:=cnt_le (d+1) x
   rw[cntM_succ] at h3
   rw[encSch_eq] at hy2 hr
   (repeat' first|simp (disch:=omega) only[go_sem,hy2,List.length_map]|refine pure_of _ (hr) ?_|(apply spl<;>intro h<;>try simp (disch:=omega) only[go_sem,h]))
   all_goals try omega
   refine ⟨(k+1,n+cntM d y),?_,⟨hlt,by simp only; omega⟩,by simp only; omega⟩
   simp only[Int.natCast_add]
   rfl
  ·have hk2:k=x.kids.length:=by omega
   rw[hk2,List.take_length] at hn
   rw[cntM_succ,←hn]
   (repeat' first|simp (disch:=omega) only[go_sem,List.length_map]|(apply spl<;>intro h<;>try simp (disch:=omega) only[go_sem,h]))
theorem refSize_run (x:Sch) (hx:x.bulk≤2^24):PRun CS 474 [encSch x] (.int .i64 (cntM 48 x)):=by
 have hr:=refCount_run 48 48 rfl (by decide) x hx
 refine prun_of ac474 rfl ?_
 rw[encSch_eq] at hr ⊢
 (repeat' first|simp (disch:=omega) only[go_sem,ac474,enter]|refine pure_of _ (hr) ?_|(apply spl<;>intro h<;>try simp (disch:=omega) only[go_sem,h]))
end Ago
set_option maxRecDepth 100000
set_option maxHeartbeats 4000000
namespace Ago
open Go (IntKind)
theorem upS {f:Nat} {ts:List AV} {v:AV} (h:PRun C0 f ts v):PRun CS f ts v:=
 extCtx_up (bs_ext (C:=C0) (C':=mkCtx codeS clRS clPS) (fun f fn h=>by
  have h:code f=some fn:=h
  show codeS f=some fn
  unfold codeS
  rw[h]) (fun _ _ _ _ _ h=>by
   obtain ⟨p,x,h,h2⟩:=h
   refine ⟨p,x,?_,h2⟩
   unfold clR at h
   split at h
   ·exact h
   ·cases h) (fun f t v h=>by
   obtain ⟨p,l,h,h2⟩:=h
   refine ⟨p,l,?_,h2⟩
   unfold clP at h
   split at h
   ·exact h
   ·cases h) h)
def cntP:Nat→Pat→Nat
 | 0,_=>0
 | d+1,x=>1+(x.a.map (cntP d)).sum
theorem cntP_zero (x:Pat):cntP 0 x=0:=(rfl)
theorem cntP_succ (d:Nat) (x:Pat):cntP (d+1) x=1+(x.a.map (cntP d)).sum:=(rfl)
theorem bulksP_sum : ∀ l:List Pat,AV.bulks (l.map encPat)=(l.map Pat.bulk).sum
 | []=>by simp [AV.bulks]
 | x::l=>by simp [AV.bulks,bulksP_sum l,Pat.bulk]
theorem cntP_le : ∀ (d:Nat) (x:Pat),cntP d x≤x.bulk
 | 0,x=>by simp [cntP_zero]
 | d+1,x=>by
  rw[cntP_succ]
  have h1:=x.bulk_eq
  have h2:=bulksP_sum x.a
  have:=sum_le x.a (fun y _=>cntP_le d y)
  omega
theorem refCountP_run : ∀ (d:Nat) (D:Int),D=d→d<2^30→∀ x:Pat,x.bulk≤2^24→PRun CS 376 [encPat x,.int .i64 D] (.int .i64 (cntP d x)):=by
 intro d
 induction d with
 | zero=>
  intro D hD hd x hx
  refine prun_of ac376 rfl ?_
  rw[encPat_eq,cntP_zero]
  (repeat' first|simp (disch:=omega) only[go_sem,ac376,enter,List.length_map]|(apply spl<;>intro h<;>try simp (disch:=omega) only[go_sem,h]))
  all_goals omega
 | succ d ih=>
  intro D hD hd x hx
  have L:=Pat.lens hx
  have hal:=L.args
  refine prun_of ac376 rfl ?_
  rw[encPat_eq]
  (repeat' first|simp (disch:=omega) only[go_sem,ac376,enter,List.length_map]|(apply spl<;>intro h<;>try simp (disch:=omega) only[go_sem,h]))
  all_goals try omega
  refine loop_of (α:=Nat × Nat) (fun a=>{ tmps:=slots 27 [(1,.int .i64 D),(2,.ptr 6 0 0 0),(5,.int .i64 a.2),(6,.int .i64 a.1)],heap:=[.row 6 [encPat x] false true 0],base:=0 }) (fun a=>a.1≤x.a.length∧a.2=1+((x.a.take a.1).map (cntP d)).sum) (fun a=>x.a.length-a.1) (0,1) (by rw[encPat_eq]; rfl) ⟨Nat.zero_le _,by simp⟩ ?_
  rintro ⟨k,n⟩ ⟨hk,hn⟩
  simp only at hk hn
  try rw[encPat_eq]
  by_cases hlt:k<x.a.length
  ·obtain ⟨y,hy⟩:=get_some hlt
   have hym:=List.mem_of_getElem? hy
   have hy2:=map_get (g:=encPat) hy
   have hr:=ih (D-1) (by omega) (by omega) y (by have:=L.kids y hym; omega)
   have h1:=sum_take_le (cntP d) x.a (k+1)
   have h2:=sum_take (cntP d) x.a k y hy
   have h3:=cntP_le (d+1) x
   rw[cntP_succ] at h3
   rw[encPat_eq] at hy2 hr
   (repeat' first|simp (disch:=omega) only[go_sem,hy2,List.length_map]|refine pure_of _ (hr) ?_|(apply spl<;>intro h<;>try simp (disch:=omega) only[go_sem,h]))
   all_goals try omega
   refine ⟨(k+1,n+cntP d y),?_,⟨hlt,by simp only; omega⟩,by simp only; omega⟩
   simp only[Int.natCast_add,encPat_eq x]
   rfl
  ·have hk2:k=x.a.length:=by omega
   rw[hk2,List.take_length] at hn
   rw[cntP_succ,←hn]
   (repeat' first|simp (disch:=omega) only[go_sem,List.length_map]|(apply spl<;>intro h<;>try simp (disch:=omega) only[go_sem,h]))
theorem refSizeP_run (x:Pat) (hx:x.bulk≤2^24):PRun CS 357 [encPat x] (.int .i64 (cntP 48 x)):=by
 have hr:=refCountP_run 48 48 rfl (by decide) x hx
 refine prun_of ac357 rfl ?_
 rw[encPat_eq] at hr ⊢
 (repeat' first|simp (disch:=omega) only[go_sem,ac357,enter]|refine pure_of _ (hr) ?_|(apply spl<;>intro h<;>try simp (disch:=omega) only[go_sem,h]))
theorem node_ex (x:Sch) (hx:x.bulk≤2^24) : ∃ b,PRun CS 560 [encSch x] (.bool b):=by
 have L:=Sch.lens hx
 have hr:=refSizeP_run x.s.pat (by have:=L.pat; omega)
 have hc:=cntP_le 48 x.s.pat
 have hpb:=L.pat
 have l1:=L.vals
 have l2:=L.props
 have l3:=L.args
 have l4:=L.parts
 have h:=prunE_of (C:=CS) (f:=560) (ts:=[encSch x]) (k:=fun w=>∃ b,w = .bool b) ac560 rfl (by
  rw[encSch_eq]
  rw[encPat_eq] at hr
  (repeat' first|simp (disch:=omega) only[go_sem,ac560,enter,List.length_map]|refine pure_of _ (hr) ?_|(apply spl<;>intro h<;>try simp (disch:=omega) only[go_sem,h]))
  all_goals first | exact ⟨_,rfl⟩ | omega | skip
  refine loop_of (α:=Nat) (fun a=>{ tmps:=slots 47 [(1,.ptr 15 0 0 0),(3,.int .i64 a)],heap:=[.row 15 [encSch x] false true 0],base:=0 }) (fun a=>a≤x.s.vals.length) (fun a=>x.s.vals.length-a) 0 (by rw[encSch_eq]; rfl) (Nat.zero_le _) ?_
  intro k hk
  rw[encSch_eq]
  by_cases hlt:k<x.s.vals.length
  ·obtain ⟨y,hy⟩:=get_some hlt
   have hym:=List.mem_of_getElem? hy
   have hy2:=map_get (g:=encV) hy
   obtain ⟨b,hb⟩:=small_ex y (by have:=L.val y hym; omega) 20 5 (by decide) (by decide) (by decide) (by decide)
   have hb:=upS hb
   rw[encV_eq] at hy2 hb
   cases b with
   | true=>
    (repeat' first|simp (disch:=omega) only[go_sem,hy2,List.length_map]|refine pure_of _ (hb) ?_|(apply spl<;>intro h<;>try simp (disch:=omega) only[go_sem,h]))
    all_goals try omega
    exact ⟨k+1,rfl,hlt,by omega⟩
   | false=>
    (repeat' first|simp (disch:=omega) only[go_sem,hy2,List.length_map]|refine pure_of _ (hb) ?_|(apply spl<;>intro h<;>try simp (disch:=omega) only[go_sem,h]))
    all_goals first | exact ⟨_,rfl⟩ | omega
  ·(repeat' first|simp (disch:=omega) only[go_sem,List.length_map]|(apply spl<;>intro h<;>try simp (disch:=omega) only[go_sem,h]))
   all_goals first | exact ⟨_,rfl⟩ | omega)
 obtain ⟨w,k1,b,rfl⟩:=h
 exact ⟨b,k1⟩
theorem few_ex : ∀ (d:Nat) (D:Int),D≤d→-(2^30)<D→d<2^30→∀ x:Sch,x.bulk≤2^24→∃ b,PRun CS 508 [encSch x,.int .i64 D] (.bool b):=by
 intro d
 induction d with
 | zero=>
  intro D hD hD2 hd x hx
  obtain ⟨b,hb⟩:=node_ex x hx
  have hp:=refParts_run x hx
  have hkl:=kids_len x
  cases b with
  | false=>
   refine ⟨false,prun_of ac508 rfl ?_⟩
   rw[encSch_eq] at hb ⊢
   (repeat' first|simp (disch:=omega) only[go_sem,ac508,enter,List.length_map]|refine pure_of _ (hb) ?_|(apply spl<;>intro h<;>try simp (disch:=omega) only[go_sem,h]))
  | true=>
   refine ⟨true,prun_of ac508 rfl ?_⟩
   rw[encSch_eq] at hb hp ⊢
   (repeat' first|simp (disch:=omega) only[go_sem,ac508,enter,List.length_map]|refine pure_of _ (hb) ?_|refine pure_of _ (hp) ?_|(apply spl<;>intro h<;>try simp (disch:=omega) only[go_sem,h]))
   refine loop_of (α:=Nat) (fun a=>{ tmps:=slots 30 [(1,.int .i64 D),(5,.tsl 15 (x.kids.map encSch)),(6,.int .i64 a)],heap:=[],base:=0 }) (fun a=>a≤x.kids.length) (fun a=>x.kids.length-a) 0 rfl (Nat.zero_le _) ?_
   intro k hk
   by_cases hlt:k<x.kids.length
   ·obtain ⟨y,hy⟩:=get_some hlt
    (repeat' first|simp (disch:=omega) only[go_sem,List.length_map]|(apply spl<;>intro h<;>try simp (disch:=omega) only[go_sem,h]))
    all_goals omega
   ·(repeat' first|simp (disch:=omega) only[go_sem,List.length_map]|(apply spl<;>intro h<;>try simp (disch:=omega) only[go_sem,h]))
    all_goals omega
 | succ d ih=>
  intro D hD hD2 hd x hx
  obtain ⟨b,hb⟩:=node_ex x hx
  have hp:=refParts_run x hx
  have hkl:=kids_len x
  cases b with
  | false=>
   refine ⟨false,prun_of ac508 rfl ?_⟩
   rw[encSch_eq] at hb ⊢
   (repeat' first|simp (disch:=omega) only[go_sem,ac508,enter,List.length_map]|refine pure_of _ (hb) ?_|(apply spl<;>intro h<;>try simp (disch:=omega) only[go_sem,h]))
  | true=>
   have h:=prunE_of (C:=CS) (f:=508) (ts:=[encSch x,.int .i64 D]) (k:=fun w=>∃ b,w = .bool b) ac508 rfl (by
    rw[encSch_eq] at hb hp ⊢
    (repeat' first|simp (disch:=omega) only[go_sem,ac508,enter,List.length_map]|refine pure_of _ (hb) ?_|refine pure_of _ (hp) ?_|(apply spl<;>intro h<;>try simp (disch:=omega) only[go_sem,h]))
    refine loop_of (α:=Nat) (fun a=>{ tmps:=slots 30 [(1,.int .i64 D),(5,.tsl 15 (x.kids.map encSch)),(6,.int .i64 a)],heap:=[],base:=0 }) (fun a=>a≤x.kids.length) (fun a=>x.kids.length-a) 0 rfl (Nat.zero_le _) ?_
    intro k hk
    by_cases hlt:k<x.kids.length∧1<D
    ·obtain ⟨hlt,hD1⟩:=hlt
     obtain ⟨y,hy⟩:=get_some hlt
     have hym:=List.mem_of_getElem? hy
     have hy2:=map_get (g:=encSch) hy
     obtain ⟨c,hc⟩:=ih (D-1) (by omega) (by omega) (by omega) y (by have:=Sch.kids_bulk hym; omega)
     rw[encSch_eq] at hy2 hc
     cases c with
     | true=>
      (repeat' first|simp (disch:=omega) only[go_sem,hy2,List.length_map]|refine pure_of _ (hc) ?_|(apply spl<;>intro h<;>try simp (disch:=omega) only[go_sem,h]))
      all_goals try omega
      exact ⟨k+1,rfl,hlt,by omega⟩
     | false=>
      (repeat' first|simp (disch:=omega) only[go_sem,hy2,List.length_map]|refine pure_of _ (hc) ?_|(apply spl<;>intro h<;>try simp (disch:=omega) only[go_sem,h]))
      all_goals first | exact ⟨_,rfl⟩ | omega
    ·by_cases hlt2:k<x.kids.length
     ·(repeat' first|simp (disch:=omega) only[go_sem,List.length_map]|(apply spl<;>intro h<;>try simp (disch:=omega) only[go_sem,h]))
      all_goals first | exact ⟨_,rfl⟩ | omega
     ·(repeat' first|simp (disch:=omega) only[go_sem,List.length_map]|(apply spl<;>intro h<;>try simp (disch:=omega) only[go_sem,h]))
      all_goals first | exact ⟨_,rfl⟩ | omega)
   obtain ⟨w,k1,c,rfl⟩:=h
   exact ⟨c,k1⟩
theorem Small_ex (x:Sch) (hx:x.bulk≤2^24) : ∃ b,PRun CS 480 [encSch x] (.bool b):=by
 obtain ⟨b,hb⟩:=few_ex 50 50 (by decide) (by decide) (by decide) x hx
 have hr:=refSize_run x hx
 have hc:=cnt_le 48 x
 cases b with
 | false=>
  refine ⟨false,prun_of ac480 rfl ?_⟩
  rw[encSch_eq] at hb ⊢
  (repeat' first|simp (disch:=omega) only[go_sem,ac480,enter]|refine pure_of _ (hb) ?_|(apply spl<;>intro h<;>try simp (disch:=omega) only[go_sem,h]))
 | true=>
  by_cases h:cntM 48 x≤1100
  ·refine ⟨true,prun_of ac480 rfl ?_⟩
   rw[encSch_eq] at hb hr ⊢
   (repeat' first|simp (disch:=omega) only[go_sem,ac480,enter]|refine pure_of _ (hb) ?_|refine pure_of _ (hr) ?_|(apply spl<;>intro h<;>try simp (disch:=omega) only[go_sem,h]))
   all_goals omega
  ·refine ⟨false,prun_of ac480 rfl ?_⟩
   rw[encSch_eq] at hb hr ⊢
   (repeat' first|simp (disch:=omega) only[go_sem,ac480,enter]|refine pure_of _ (hb) ?_|refine pure_of _ (hr) ?_|(apply spl<;>intro h<;>try simp (disch:=omega) only[go_sem,h]))
   all_goals omega
end Ago
set_option maxRecDepth 100000
set_option maxHeartbeats 4000000
namespace Ago
open Go (IntKind)
structure Cl (H:Heap):Prop where
 refs : ∀ b,b∈H→∀ r,r∈b.refs→r<H.length
 ren : ∀ b,b∈H→∀ f g,(∀ r,r<H.length→f r=some r)→(∀ r,r<H.length→g r=r)→Blk.ren f g b=b
theorem Cl.nil:Cl []:=⟨fun b h=>(by cases h),fun b h=>(by cases h)⟩
theorem Cl.push {H:Heap} (h:Cl H) (n:Nat) (els:List AV) (ro:Bool) (fam:Nat) (hf:fam≤H.length):Cl (H++[.row n els ro true fam]):=by
 refine ⟨fun b hb r hr=>?_,fun b hb f g hf2 hg2=>?_⟩
 ·rcases List.mem_append.1 hb with hb | hb
  ·have:=h.refs b hb r hr
   simp
   omega
  ·rw[List.mem_singleton.1 hb] at hr
   simp [Blk.refs] at hr
 ·rcases List.mem_append.1 hb with hb | hb
  ·exact h.ren b hb f g (fun r hr=>hf2 r (by simp; omega)) (fun r hr=>hg2 r (by simp; omega))
  ·rw[List.mem_singleton.1 hb]
   simp [Blk.ren,hg2 fam (by simp; omega)]
end Ago
set_option maxRecDepth 100000
set_option maxHeartbeats 4000000
namespace Ago
open Go (IntKind)
theorem leafF {P:Prop} [Decidable P] (h : ¬ P):some (AV.bool false)=some (AV.bool (decide P)):=by simp [h]
theorem leafT {P:Prop} [Decidable P] (h:P):some (AV.bool true)=some (AV.bool (decide P)):=by simp [h]
theorem leafD {P Q:Prop} [Decidable P] [Decidable Q] (h:Q↔P):some (AV.bool (decide Q))=some (AV.bool (decide P)):=by simp [h]
theorem leafN {P Q:Prop} [Decidable P] [Decidable Q] (h : ¬ Q↔P):some (AV.bool (!decide Q))=some (AV.bool (decide P)):=by
 by_cases q:Q<;>simp [q,←h]
theorem leafE {a b:Int} {P:Prop} [Decidable P] (h:a=b↔P):some (AV.bool (a == b))=some (AV.bool (decide P)):=by
 rw[beq_dec]
 exact leafD h
theorem leafNE {a b:Int} {P:Prop} [Decidable P] (h : ¬ a=b↔P):some (AV.bool (a != b))=some (AV.bool (decide P)):=by
 rw[bne_dec]
 exact leafD h
def patForm (p:Pat):Bool:=decide ((p.s.op=2∨p.s.lo=0∧p.s.hi=0)∧(p.s.op=5∨p.s.min=0∧p.s.max=0) ∧
 ((p.s.op=0∨p.s.op=1)∧p.a.length=0∨p.s.op=2∧p.a.length=0∧0≤p.s.lo∧p.s.lo≤p.s.hi∧p.s.hi≤255∨(p.s.op=3∨p.s.op=4∨p.s.op=6)∧2≤p.a.length∨p.s.op=7∧p.a.length=1 ∨
  p.s.op=5∧p.a.length=1∧0≤p.s.min∧p.s.min≤64∧(p.s.max = -1∨p.s.min≤p.s.max∧p.s.max≤64)))
theorem refPatForm_run (p:Pat) (hp:p.bulk≤2^24):PRun CS 384 [encPat p] (.bool (patForm p)):=by
 have L:=Pat.lens hp
 have hal:=L.args
 refine prun_of ac384 rfl ?_
 rw[encPat_eq]
 unfold patForm
 (repeat' first|simp (disch:=omega) only[go_sem,ac384,enter,List.length_map]|(apply spl<;>intro h<;>try simp (disch:=omega) only[go_sem,h]))
 all_goals first
  | exact leafF (by omega)
  | exact leafT (by omega)
  | exact leafD (by omega)
  | exact leafE (by omega)
  | exact leafNE (by omega)
  | exact leafN (by omega)
  | skip
def patNodes:Nat→Pat→Bool
 | 0,_=>false
 | d+1,x=>patForm x && x.a.all (patNodes d)
theorem patNodes_zero (x:Pat):patNodes 0 x=false:=(rfl)
theorem patNodes_succ (d:Nat) (x:Pat):patNodes (d+1) x=(patForm x && x.a.all (patNodes d)):=(rfl)
theorem refSound_run : ∀ (d:Nat) (D:Int),D=d→d<2^30→∀ x:Pat,x.bulk≤2^24→PRun CS 360 [encPat x,.int .i64 D] (.bool (patNodes d x)):=by
 intro d
 induction d with
 | zero=>
  intro D hD hd x hx
  refine prun_of ac360 rfl ?_
  rw[encPat_eq,patNodes_zero]
  (repeat' first|simp (disch:=omega) only[go_sem,ac360,enter,List.length_map]|(apply spl<;>intro h<;>try simp (disch:=omega) only[go_sem,h]))
  all_goals omega
 | succ d ih=>
  intro D hD hd x hx
  have L:=Pat.lens hx
  have hal:=L.args
  have hf:=refPatForm_run x hx
  rw[patNodes_succ]
  refine prun_of ac360 rfl ?_
  rw[encPat_eq] at hf ⊢
  cases hb:patForm x with
  | false=>
   rw[hb] at hf
   rw[Bool.false_and]
   (repeat' first|simp (disch:=omega) only[go_sem,ac360,enter,List.length_map]|refine pure_of _ (hf) ?_|(apply spl<;>intro h<;>try simp (disch:=omega) only[go_sem,h]))
   all_goals omega
  | true=>
   rw[hb] at hf
   rw[Bool.true_and]
   (repeat' first|simp (disch:=omega) only[go_sem,ac360,enter,List.length_map]|refine pure_of _ (hf) ?_|(apply spl<;>intro h<;>try simp (disch:=omega) only[go_sem,h]))
   all_goals try omega
   refine loop_of (α:=Nat) (fun k=>{ tmps:=slots 29 [(1,.int .i64 D),(2,.ptr 6 0 0 0),(5,.int .i64 k)],heap:=[.row 6 [encPat x] false true 0],base:=0 }) (fun k=>k≤x.a.length∧(x.a.take k).all (patNodes d)=true) (fun k=>x.a.length-k) 0 (by rw[encPat_eq]; rfl) ⟨Nat.zero_le _,rfl⟩ ?_
   rintro k ⟨hk,ha⟩
   try rw[encPat_eq]
   by_cases hlt:k<x.a.length
   ·obtain ⟨y,hy⟩:=get_some hlt
    have hym:=List.mem_of_getElem? hy
    have hy2:=map_get (g:=encPat) hy
    have hr:=ih (D-1) (by omega) (by omega) y (by have:=L.kids y hym; omega)
    rw[encPat_eq] at hy2 hr
    cases hc:patNodes d y with
    | true=>
     rw[hc] at hr
     (repeat' first|simp (disch:=omega) only[go_sem,hy2,List.length_map]|refine pure_of _ (hr) ?_|(apply spl<;>intro h<;>try simp (disch:=omega) only[go_sem,h]))
     all_goals try omega
     refine ⟨k+1,?_,⟨hlt,take_succ_all hy ha hc⟩,by omega⟩
     try rw[encPat_eq x]
     rfl
    | false=>
     rw[hc] at hr
     rw[not_all hy hc]
     (repeat' first|simp (disch:=omega) only[go_sem,hy2,List.length_map]|refine pure_of _ (hr) ?_|(apply spl<;>intro h<;>try simp (disch:=omega) only[go_sem,h]))
     all_goals omega
   ·rw[take_len hlt hk] at ha
    rw[ha]
    (repeat' first|simp (disch:=omega) only[go_sem,List.length_map]|(apply spl<;>intro h<;>try simp (disch:=omega) only[go_sem,h]))
def patOk (p:Pat):Bool:=patNodes 48 p && decide ((cntP 48 p:Int)≤512)
theorem refPatValid_run (x:Pat) (hx:x.bulk≤2^24):PRun CS 340 [encPat x] (.bool (patOk x)):=by
 have h1:=refSound_run 48 48 rfl (by decide) x hx
 have h2:=refSizeP_run x hx
 refine prun_of ac340 rfl ?_
 unfold patOk
 rw[encPat_eq] at h1 h2 ⊢
 cases hb:patNodes 48 x<;>rw[hb] at h1
 ·(repeat' first|simp (disch:=omega) only[go_sem,ac340,enter]|refine pure_of _ (h1) ?_|refine pure_of _ (h2) ?_|(apply spl<;>intro h<;>try simp (disch:=omega) only[go_sem,h]))
 ·(repeat' first|simp (disch:=omega) only[go_sem,ac340,enter]|refine pure_of _ (h1) ?_|refine pure_of _ (h2) ?_|(apply spl<;>intro h<;>try simp (disch:=omega) only[go_sem,h]))
def patNil (p:Pat):Bool:=decide (p.s.op=0∧p.s.lo=0∧p.s.hi=0∧p.s.min=0∧p.s.max=0∧p.a.length=0)
theorem patSameNil_run (x:Pat) (hx:x.bulk≤2^24):PRun CS 523 [encPat x,.agg [.int .i64 0,.int .i64 0,.int .i64 0,.int .i64 0,.int .i64 0,.tsl 6 []]] (.bool (patNil x)):=by
 have L:=Pat.lens hx
 have hal:=L.args
 have h:PRun CS 567 [encPat x,.agg [.int .i64 0,.int .i64 0,.int .i64 0,.int .i64 0,.int .i64 0,.tsl 6 []],.int .i64 48] (.bool (patNil x)):=by
  refine prun_of ac567 rfl ?_
  rw[encPat_eq]
  unfold patNil
  (repeat' first|simp (disch:=omega) only[go_sem,ac567,enter,List.length_map]|(apply spl<;>intro h<;>try simp (disch:=omega) only[go_sem,h]))
  all_goals first
   | exact leafF (by omega)
   | exact leafT (by omega)
   | exact leafD (by omega)
   | exact leafE (by omega)
   | exact leafNE (by omega)
   | exact leafN (by omega)
   | skip
  refine loop_of (α:=Unit) (fun _=>{ tmps:=slots 75 [(2,.int .i64 48),(3,.ptr 6 0 0 0),(4,.ptr 6 1 0 0),(7,.int .i64 0)],heap:=[.row 6 [.agg [.int .i64 0,.int .i64 0,.int .i64 0,.int .i64 0,.int .i64 0,.tsl 6 (x.a.map encPat)]] false true 0,.row 6 [.agg [.int .i64 0,.int .i64 0,.int .i64 0,.int .i64 0,.int .i64 0,.tsl 6 []]] false true 1],base:=0 }) (fun _=>True) (fun _=>0) () rfl trivial ?_
  intro _ _
  (repeat' first|simp (disch:=omega) only[go_sem,List.length_map]|(apply spl<;>intro h<;>try simp (disch:=omega) only[go_sem,h]))
  all_goals first
   | exact leafF (by omega)
   | exact leafT (by omega)
   | exact leafD (by omega)
   | exact leafE (by omega)
   | exact leafNE (by omega)
   | exact leafN (by omega)
   | skip
 refine prun_of ac523 rfl ?_
 rw[encPat_eq] at h ⊢
 (repeat' first|simp (disch:=omega) only[go_sem,ac523,enter]|refine pure_of _ (h) ?_|(apply spl<;>intro h<;>try simp (disch:=omega) only[go_sem,h]))
end Ago
set_option maxRecDepth 100000
set_option maxHeartbeats 4000000
namespace Ago
open Go (IntKind)
def bndOk (b:Bnd):Bool:=if b.set=true then decOk b.num else !b.num.neg && b.num.digits == [] && b.num.exp == 0 && !b.opn
def prtOk (p:Prt):Bool:=bndOk p.lo && bndOk p.hi && decide (0≤p.sort) && decide (p.sort≤2)
def setOk (l:List Prt):Bool:=decide (l.length≤256) && l.all prtOk
theorem bnd_run (b:Bnd) (hs:b.num.digits.length<2^31):PRun CS 638 [encBnd b] (.bool (bndOk b)):=by
 have hd:=upS (decOk_run b.num hs)
 refine prun_of ac638 rfl ?_
 obtain ⟨set,⟨neg,ds,exp⟩,opn⟩:=b
 simp only[encBnd,encDec] at *
 cases set
 ·(repeat' first|simp (disch:=omega) only[go_sem,ac638,enter]|(apply spl<;>intro h<;>try simp (disch:=omega) only[go_sem,h]))
  all_goals (try simp [bndOk,Bool.and_assoc])
 ·(repeat' first|simp (disch:=omega) only[go_sem,ac638,enter]|refine pure_of _ (hd) ?_|(apply spl<;>intro h<;>try simp (disch:=omega) only[go_sem,h]))
  all_goals (try simp [bndOk,Bool.and_assoc])
theorem prt_run (p:Prt) (h1:p.lo.num.digits.length<2^31) (h2:p.hi.num.digits.length<2^31):PRun CS 625 [encPrt p] (.bool (prtOk p)):=by
 have h1:=bnd_run p.lo h1
 have h2:=bnd_run p.hi h2
 refine prun_of ac625 rfl ?_
 obtain ⟨⟨s1,⟨n1,d1,e1⟩,o1⟩,⟨s2,⟨n2,d2,e2⟩,o2⟩,sort⟩:=p
 simp only[encBnd,encPrt] at *
 unfold prtOk
 cases hb1:bndOk ⟨s1,⟨n1,d1,e1⟩,o1⟩
 ·rw[hb1] at h1
  (repeat' first|simp (disch:=omega) only[go_sem,ac625,enter]|refine pure_of _ (h1) ?_|(apply spl<;>intro h<;>try simp (disch:=omega) only[go_sem,h]))
 ·rw[hb1] at h1
  cases hb2:bndOk ⟨s2,⟨n2,d2,e2⟩,o2⟩
  ·rw[hb2] at h2
   (repeat' first|simp (disch:=omega) only[go_sem,ac625,enter]|refine pure_of _ (h1) ?_|refine pure_of _ (h2) ?_|(apply spl<;>intro h<;>try simp (disch:=omega) only[go_sem,h]))
  ·rw[hb2] at h2
   (repeat' first|simp (disch:=omega) only[go_sem,ac625,enter]|refine pure_of _ (h1) ?_|refine pure_of _ (h2) ?_|(apply spl<;>intro h<;>try simp (disch:=omega) only[go_sem,h]))
   all_goals (simp; try omega)
def slimP (l:List Prt):Prop:=l.length<2^24∧∀ p,p∈l→p.lo.num.digits.length<2^31∧p.hi.num.digits.length<2^31
theorem set_run (l:List Prt) (hl:slimP l):PRun CS 600 [encNS l] (.bool (setOk l)):=by
 obtain ⟨hl1,hl2⟩:=hl
 refine prun_of ac600 rfl ?_
 unfold encNS setOk
 (repeat' first|simp (disch:=omega) only[go_sem,ac600,enter,List.length_map]|(apply spl<;>intro h<;>try simp (disch:=omega) only[go_sem,h]))
 refine loop_of (α:=Nat) (fun k=>{ tmps:=slots 22 [(1,.ptr 1 0 0 0),(3,.int .i64 k)],heap:=[.row 1 [.agg [.tsl 11 (l.map encPrt)]] false true 0],base:=0 }) (fun k=>k≤l.length∧(l.take k).all prtOk=true) (fun k=>l.length-k) 0 rfl ⟨Nat.zero_le _,rfl⟩ ?_
 rintro k ⟨hk,hd⟩
 by_cases hlt:k<l.length
 ·obtain ⟨p,hp⟩:=get_some hlt
  have hp2:=map_get (g:=encPrt) hp
  obtain ⟨q1,q2⟩:=hl2 p (List.mem_of_getElem? hp)
  have hr:=prt_run p q1 q2
  simp only[encPrt] at hp2 hr
  cases hb:prtOk p with
  | true=>
   rw[hb] at hr
   (repeat' first|simp (disch:=omega) only[go_sem,hp2,List.length_map]|refine pure_of _ (hr) ?_|(apply spl<;>intro h<;>try simp (disch:=omega) only[go_sem,h]))
   all_goals try omega
   exact ⟨k+1,rfl,⟨hlt,take_succ_all hp hd hb⟩,by omega⟩
  | false=>
   rw[hb] at hr
   have hn:l.all prtOk=false:=not_all hp hb
   rw[hn,Bool.and_false]
   (repeat' first|simp (disch:=omega) only[go_sem,hp2,List.length_map]|refine pure_of _ (hr) ?_|(apply spl<;>intro h<;>try simp (disch:=omega) only[go_sem,h]))
   all_goals omega
 ·rw[take_len hlt hk] at hd
  rw[hd,Bool.and_true]
  (repeat' first|simp (disch:=omega) only[go_sem,List.length_map]|(apply spl<;>intro h<;>try simp (disch:=omega) only[go_sem,h]))
  all_goals (first | omega | (simp; omega))
end Ago
