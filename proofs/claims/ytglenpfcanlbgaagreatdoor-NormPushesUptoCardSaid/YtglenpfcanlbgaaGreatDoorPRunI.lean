/- Copies of schemas whose parts a function of the program replaces. -/
import Derived.Test.YtglenpfcanlbgaaGreatDoorPCodeN
import Derived.Test.YtglenpfcanlbgaaGreatDoorPMachD
import Derived.Test.YtglenpfcanlbgaaGreatDoorPRunC
set_option linter.unusedSimpArgs false
set_option linter.unusedVariables false
set_option maxRecDepth 100000
set_option maxHeartbeats 32000000
namespace Ago
open Go (IntKind)
def pkU:Nat→Nat
 | 910=>2
 | 911=>1
 | 918=>1
 | 934=>1
 | _=>0
theorem pk_cases (f:Nat):pkU f=0∨f=910∨f=911∨f=918∨f=934:=by
 unfold pkU
 split<;>simp
abbrev CP (m:Nat):Ctx:=lv CU pkU m
theorem upP {m f:Nat} {ts:List AV} {v:AV} (h:PRun CS f ts v):PRun (CP m) f ts v:=by
 refine lv_up (C:=CS) (C':=CU) ?_ ?_ ?_ h
 ·intro f fn h
  rcases pk_cases f with h0 | rfl | rfl | rfl | rfl
  ·refine ⟨h0,?_⟩
   have h:codeS f=some fn:=h
   show codeU f=some fn
   unfold codeU
   rw[h]
  all_goals
   exfalso
   revert h
   exact fun h=>by cases h
 ·intro f a H v H' h
  rcases pk_cases f with h0 | rfl | rfl | rfl | rfl
  ·exact ⟨h0,h⟩
  all_goals
   exfalso
   rcases h with ⟨p,y,h,_⟩ | ⟨h,_⟩
   ·cases h
   ·cases h
 ·intro f t v h
  rcases pk_cases f with h0 | rfl | rfl | rfl | rfl
  ·exact ⟨h0,h⟩
  all_goals
   exfalso
   rcases h with ⟨p,y,h,_⟩ | ⟨h,_⟩ | ⟨h,_⟩
   ·cases h
   ·cases h
   ·cases h
theorem clonU {m f n b:Nat} (hk:pkU f=0) (h:clRS f=some (n,b)) (hb:b≤232) (H:Heap) (y:AV) (l:List AV) (hl:l.length<2^24):RunOf (CP m) f [.tsl n (y::l)] H (.sref n (H.length+1) 0 (l.length+1)) (H++[.gone,.row n (y::l) false true (H.length+1)]):=by
 refine .prim (Or.inl ⟨hk,Or.inl ⟨(n,b),_,h,rfl,?_⟩⟩)
 have:(l.length+1) * b≤2^24 * 232:=Nat.mul_le_mul (by omega) hb
 simp [xAppend,Heap.elems,Heap.append,lim,freshRow,Heap.flatOf]
 omega
theorem clonU0 {m f n b:Nat} (hk:pkU f=0) (h:clRS f=some (n,b)) (H:Heap):RunOf (CP m) f [.tsl n []] H (.snil n) (H++[.gone]):=by
 refine .prim (Or.inl ⟨hk,Or.inl ⟨(n,b),_,h,rfl,?_⟩⟩)
 simp [xAppend,Heap.elems,Heap.append,lim,freshRow]
section
variable {R:Nat→List AV→Heap→AV→Heap→Prop} {PR:Nat→List AV→AV→Prop}
def drawAll (R:Nat→List AV→Heap→AV→Heap→Prop) (PR:Nat→List AV→AV→Prop) (s s':St):List (List AOper)→Prop
 | []=>True
 | l::ls=>(@withStI s ⟨awOps R PR l fun t=>t=s'⟩)∧drawAll R PR s s' ls
theorem drawAll_mem {s s':St} {x:List AOper} : ∀ {ls:List (List AOper)},drawAll R PR s s' ls→x∈ls→awOps R PR x (fun t=>t=s') s
 | [],_,hx=>by cases hx
 | y::ls,⟨k1,k2⟩,hx=>by
  unfold withStI at k1
  rcases List.mem_cons.1 hx with rfl | hx
  ·exact k1
  ·exact drawAll_mem k2 hx
theorem drawE {k:Nat} {l:List AOper} {ls:List (List AOper)} {Q:Ex→St→Prop} {s:St} (h : ∃ s',(@withStI (s.keep k) ⟨awOps R PR l fun t=>t=s'⟩)∧drawAll R PR (s.keep k) s' ls∧@withStI { s' with rb:=0 } ⟨Q .normal⟩):aw R PR (.draw k (l::ls)) Q s:=by
 obtain ⟨s',h1,h2,h3⟩:=h
 unfold withStI at h1 h3
 refine ⟨s',by simp,fun x hx=>?_,h3⟩
 rcases List.mem_cons.1 hx with rfl | hx
 ·exact h1
 ·exact drawAll_mem h2 hx
end
theorem patternU_run (m:Nat) : ∀ (n:Nat) (p:Pat),p.bulk≤n→n≤2^24→PRun (CP m) 938 [encPat p] (encPat p):=by
 intro n
 induction n with
 | zero=>
  intro p h1 h2
  have:=pat_bulk_pos p
  omega
 | succ n ih=>
  intro p h1 h2
  have L:=Pat.lens (p:=p) (N:=2^24) (by omega)
  have hal:=L.args
  refine prun_of ac938 rfl ?_
  rw[encPat_eq]
  (repeat' first|simp (disch:=omega) only[go_sem,ac938,enter,List.length_map]|(apply spl<;>intro h<;>try simp (disch:=omega) only[go_sem,h]))
  refine loop_of (α:=Nat) (fun k=>{ tmps:=slots 24 [(2,.ptr 6 0 0 0),(3,.ptr 6 1 0 0),(9,.tsl 6 (p.a.map encPat)),(10,.int .i64 p.a.length),(11,.int .i64 k)],heap:=[.row 6 [zeroP] false true 0,.row 6 [.agg [.int .i64 p.s.op,.int .i64 p.s.lo,.int .i64 p.s.hi,.int .i64 p.s.min,.int .i64 p.s.max,outSl 6 2 ((p.a.take k).map encPat)]] false ((p.a.take k).map encPat).isEmpty 1]++outHp 6 2 ((p.a.take k).map encPat),base:=0 }) (fun k=>k≤p.a.length) (fun k=>p.a.length-k) 0 rfl (Nat.zero_le _) ?_
  intro k hk
  obtain ⟨els,hels⟩ : ∃ els,(p.a.take k).map encPat=els:=⟨_,rfl⟩
  have hlen:els.length=k:=by rw[←hels]; simp; omega
  rw[hels]
  by_cases hlt:k<p.a.length
  ·obtain ⟨y,hy⟩:=get_some hlt
   have hym:=List.mem_of_getElem? hy
   have hy2:=map_get (g:=encPat) hy
   have hr:=ih y (by have:=L.kids y hym; omega) (by omega)
   have hnew:(p.a.take (k+1)).map encPat=els++[encPat y]:=by rw[←hels,List.take_add_one,hy]; simp
   rw[encPat_eq] at hy2 hr hnew
   cases els with
   | nil=>
    (repeat' first|simp (disch:=omega) only[go_sem,keep_mk,hy2,List.length_map,outSl,outHp,zeroP,List.isEmpty_nil]|refine pure_of _ (hr) ?_|(apply spl<;>intro h<;>try simp (disch:=omega) only[go_sem,h]))
    all_goals first | omega | skip
    refine ⟨k+1,?_,hlt,by omega⟩
    simp only[hnew]
    rfl
   | cons z zs=>
    simp only[List.length_cons] at hlen
    (repeat' first|simp (disch:=omega) only[go_sem,keep_mk,hy2,List.length_map,outSl,outHp,zeroP,List.isEmpty_cons]|refine pure_of _ (hr) ?_|(apply spl<;>intro h<;>try simp (disch:=omega) only[go_sem,h]))
    all_goals first | omega | skip
    refine ⟨k+1,?_,hlt,by omega⟩
    simp only[hnew,List.cons_append,outSl,outHp,List.length_append,List.length_cons,List.length_nil,List.isEmpty_cons]
    rfl
  ·rw[take_len hlt hk] at hels
   rw[hels]
   cases els with
   | nil=>
    (repeat' first|simp (disch:=omega) only[go_sem,List.length_map,outSl,outHp,zeroP,List.isEmpty_nil]|(apply spl<;>intro h<;>try simp (disch:=omega) only[go_sem,h]))
    all_goals first | omega | skip
   | cons z zs=>
    simp only[List.length_cons] at hlen
    (repeat' first|simp (disch:=omega) only[go_sem,List.length_map,outSl,outHp,zeroP,List.isEmpty_cons,List.take_length]|(apply spl<;>intro h<;>try simp (disch:=omega) only[go_sem,h]))
    all_goals first | omega | skip
end Ago
set_option maxRecDepth 100000
set_option maxHeartbeats 64000000
namespace Ago
open Go (IntKind)
def eachM (M:Sch→Sch) (x:Sch):Sch:=.mk x.s (x.p.map fun k=>(k.1,M k.2)) (x.a.map M)
def eaX (M:Sch→Sch) (y:Sch):AV:=encSch (M y)
def eaP (M:Sch→Sch) (k:PK × Sch):AV:=encPr (k.1,M k.2)
theorem each_eq (M:Sch→Sch) (x:Sch):encSch (eachM M x) = .agg (clCells x (.tsl 11 (x.s.parts.map encPrt)) (.tsl 13 (x.s.vals.map encV)) (.tsl 17 (x.p.map (eaP M))) (.tsl 15 (x.a.map (eaX M)))):=by
 rw[encSch_eq]
 simp only[eachM,Sch.s,Sch.p,Sch.a,List.map_map]
 rfl
def eaSt (nf:Nat) (x:Sch) (t:List (Nat × AV)) (pre:List (Nat × Bool × List AV)) (cells:List AV→List AV):St:=
 { tmps:=slots 85 ([(1,.fn nf []),(2,.ptr 15 0 0 0),(4,.ptr 15 1 0 0),(5,.ptr 15 2 0 0)]++t),heap:=.row 15 [encSch x] false true 0 :: .row 15 [zeroQ] false true 1 :: .row 15 [.agg (cells (layR 3 pre).1)] false (pre.all fun p=>p.2.1) 2::(layR 3 pre).2,base:=0 }
def eaSt3 (nf:Nat) (t:List (Nat × AV)) (pre:List (Nat × Bool × List AV)) (cells:List AV→List AV):St:=
 { tmps:=slots 85 ([(1,.fn nf []),(4,.ptr 15 0 0 0),(5,.ptr 15 1 0 0)]++t),heap:=.row 15 [zeroQ] false true 0 :: .row 15 [.agg (cells (layR 2 pre).1)] false (pre.all fun p=>p.2.1) 1::(layR 2 pre).2,base:=0 }
theorem each_run (m nf:Nat) (hk1:pkU nf=1) (M:Sch→Sch) (x:Sch) (hx:x.bulk≤2^24) (hM : ∀ y,y∈x.kids→PRun (CP m) nf [encSch y] (encSch (M y))):PRun (CP m) 926 [encSch x,.fn nf []] (encSch (eachM M x)):=by
 have L:=Sch.lens (v:=x) (N:=2^24) (by omega)
 have l1:=L.parts
 have l2:=L.vals
 have l3:=L.props
 have l4:=L.args
 have hpat:=patternU_run m (2^24) x.s.pat (by have:=L.pat; omega) (Nat.le_refl _)
 have c1:=fun (H:Heap) (z:AV) (zs:List AV) (h:zs.length<2^24)=>clonU (m:=m) (f:=216) (n:=11) (b:=104) rfl rfl (by decide) H z zs h
 have c2:=fun (H:Heap) (z:AV) (zs:List AV) (h:zs.length<2^24)=>clonU (m:=m) (f:=518) (n:=13) (b:=168) rfl rfl (by decide) H z zs h
 have d1:=fun (H:Heap)=>clonU0 (m:=m) (f:=216) (n:=11) (b:=104) rfl rfl H
 have d2:=fun (H:Heap)=>clonU0 (m:=m) (f:=518) (n:=13) (b:=168) rfl rfl H
 have ml1:(x.s.parts.map encPrt).length=x.s.parts.length:=List.length_map ..
 have ml2:(x.s.vals.map encV).length=x.s.vals.length:=List.length_map ..
 have tq:(x.p.map (eaP M)).take x.p.length=x.p.map (eaP M):=List.take_of_length_le (by simp)
 have ta:(x.a.map (eaX M)).take x.a.length=x.a.map (eaX M):=List.take_of_length_le (by simp)
 have hxe:=encSch_eq x
 rw[encPat_eq] at hpat
 rw[each_eq]
 unfold clCells
 refine prun_of ac926 rfl ?_
 rw[encSch_eq]
 rcases emp_cases encPrt x.s.parts with ⟨hp,ep,np⟩ | ⟨p0,ps,hp,ep,np⟩<;>rcases emp_cases encV x.s.vals with ⟨hv,ev,nv⟩ | ⟨v0,vs,hv,ev,nv⟩
 all_goals
  rw[hp,hv]
  (repeat' first|simp (disch:=omega) only[go_sem,ac926,enter]|refine pure_of _ (hpat) ?_|(refine call_of _ _ (d1 _) ?_)|(refine call_of _ _ (d2 _) ?_)|(refine call_of _ _ (c1 _ _ _ (by omega)) ?_)|(refine call_of _ _ (c2 _ _ _ (by omega)) ?_)|(apply spl<;>intro h<;>try simp (disch:=omega) only[go_sem,h]))
  refine loop_of (α:=Nat) (fun k=>eaSt nf x [(28,(layR 3 [(11,(x.s.parts.map encPrt).isEmpty,x.s.parts.map encPrt),(13,(x.s.vals.map encV).isEmpty,x.s.vals.map encV)]).1.getD 1 .dead),(29,.int .i64 x.s.vals.length),(30,.int .i64 k)] [(11,(x.s.parts.map encPrt).isEmpty,x.s.parts.map encPrt),(13,(x.s.vals.map encV).isEmpty,x.s.vals.map encV)] fun c=>clCells x (c.getD 0 .dead) (c.getD 1 .dead) (.tsl 17 (x.p.map encPr)) (.tsl 15 (x.a.map encSch))) (fun k=>k≤x.s.vals.length) (fun k=>x.s.vals.length-k) 0 (by
   simp only[eaSt,clCells,hp,hv,ep,ev,hxe,nv,List.isEmpty_nil,List.isEmpty_cons,layR_nil,layR_t,layR_f,List.length_cons,List.length_nil,List.getD_cons_zero,List.getD_cons_succ]
   rfl) (Nat.zero_le _) ?_
  intro k hk
  simp only[eaSt,clCells,hp,hv,ep,ev,hxe,List.isEmpty_nil,List.isEmpty_cons,layR_nil,layR_t,layR_f,List.length_cons,List.length_nil,List.getD_cons_zero,List.getD_cons_succ,List.all_cons,List.all_nil,Bool.and_true,Bool.and_false,Bool.true_and,List.cons_append,List.nil_append]
  by_cases hlt:k<x.s.vals.length
  ·first
    | (exfalso; omega)
    | (
     obtain ⟨y,hy⟩:=get_some hlt
     have hym:=List.mem_of_getElem? hy
     have hy2:=map_get (g:=encV) hy
     rw[hv] at hy2
     have hst:(v0::vs).set k (encV y)=v0::vs:=by
      obtain ⟨q1,q2⟩:=List.getElem?_eq_some_iff.1 hy2
      rw[←q2]
      exact List.set_getElem_self q1
     have hcl:=upP (m:=m) (upS (cloneP (code:=code) (clR:=clR) (clP:=clP) (f:=62) rfl (encB y.s.bytes) (by have:=(V.lens (N:=2^24) (v:=y) (by have:=L.val y hym; omega)).bytes; rw[encB_len]; unfold lim; omega) (by have:=(V.lens (N:=2^24) (v:=y) (by have:=L.val y hym; omega)).bytes; rw[encB_len]; omega)))
     rw[encV_eq] at hy2 hst
     (repeat' first|simp (disch:=omega) only[go_sem,hy2,hst,zeroQ]|refine pure_of _ (hcl) ?_|(apply spl<;>intro h<;>try simp (disch:=omega) only[go_sem,h]))
     all_goals first | omega | skip
     exact ⟨k+1,rfl,hlt,by omega⟩)
  ·have hk2:k=x.s.vals.length:=by omega
   subst hk2
   (repeat' first|simp (disch:=omega) only[go_sem,zeroQ,List.length_map]|(apply spl<;>intro h<;>try simp (disch:=omega) only[go_sem,h]))
   refine loop_of (α:=Nat) (fun k=>eaSt nf x [(47,.tsl 17 (x.p.map encPr)),(48,.int .i64 x.p.length),(49,.int .i64 k)] [(11,(x.s.parts.map encPrt).isEmpty,x.s.parts.map encPrt),(13,(x.s.vals.map encV).isEmpty,x.s.vals.map encV),(17,((x.p.take k).map (eaP M)).isEmpty,(x.p.take k).map (eaP M))] fun c=>clCells x (c.getD 0 .dead) (c.getD 1 .dead) (c.getD 2 .dead) (.snil 15)) (fun k=>k≤x.p.length) (fun k=>x.p.length-k) 0 (by
    simp only[eaSt,clCells,hxe,hp,hv,ep,ev,List.isEmpty_nil,List.isEmpty_cons,layR_nil,layR_t,layR_f,List.length_cons,List.length_nil,List.getD_cons_zero,List.getD_cons_succ,List.all_cons,List.all_nil,Bool.and_true,Bool.and_false,Bool.true_and,Bool.false_and,List.cons_append,List.nil_append,List.take_zero,List.map_nil]
    rfl) (Nat.zero_le _) ?_
   clear hlt hk
   intro k hk
   obtain ⟨els,hels⟩ : ∃ els,(x.p.take k).map (eaP M)=els:=⟨_,rfl⟩
   have hlen:els.length=k:=by rw[←hels]; simp; omega
   rw[hels]
   by_cases hlt:k<x.p.length
   ·obtain ⟨y,hy⟩:=get_some hlt
    have hym:=List.mem_of_getElem? hy
    have hy2:=map_get (g:=encPr) hy
    have hr:=hM y.2 (List.mem_append.2 (.inl (List.mem_map.2 ⟨y,hym,rfl⟩)))
    have hnew:(x.p.take (k+1)).map (eaP M)=els++[eaP M y]:=by rw[←hels,List.take_add_one,hy]; simp
    obtain ⟨w,hw⟩ : ∃ w,M y.2=w:=⟨_,rfl⟩
    have he:eaP M y=encPr (y.1,w):=by rw[←hw]; rfl
    rw[he,encPr_eq] at hnew
    rw[hw,encSch_eq,encSch_eq] at hr
    rw[encPr_eq] at hy2
    cases els with
    | nil=>
     simp only[List.length_nil] at hlen
     simp only[eaSt,clCells,hp,hv,ep,ev,List.isEmpty_nil,List.isEmpty_cons,layR_nil,layR_t,layR_f,List.length_cons,List.length_nil,List.getD_cons_zero,List.getD_cons_succ,List.all_cons,List.all_nil,Bool.and_true,Bool.and_false,Bool.true_and,Bool.false_and,List.cons_append,List.nil_append]
     (repeat' first|simp (disch:=omega) only[go_sem,keep_mk,hy2,List.length_map,zeroQ]|(apply spl<;>intro h<;>try simp (disch:=omega) only[go_sem,h]))
     refine drawE ?_
     apply Exists.intro
     refine And.intro ?_ (And.intro ?_ ?_)
     ·(repeat' first|simp (disch:=omega) only[go_sem,keep_mk,hy2,List.length_map,zeroQ]|(refine call_of _ _ (lv_call hk1 hr rfl) ?_)|(apply spl<;>intro h<;>try simp (disch:=omega) only[go_sem,h]))
      all_goals first | omega | exact rfl
     ·(repeat' first|exact trivial|refine And.intro ?_ ?_)
      all_goals
       (repeat' first|simp (disch:=omega) only[go_sem,keep_mk,hy2,List.length_map,zeroQ]|(refine call_of _ _ (lv_call hk1 hr rfl) ?_)|(apply spl<;>intro h<;>try simp (disch:=omega) only[go_sem,h]))
       all_goals first | omega | exact rfl
     ·(repeat' first|simp (disch:=omega) only[go_sem,List.length_map,zeroQ]|(apply spl<;>intro h<;>try simp (disch:=omega) only[go_sem,h]))
      all_goals first | omega | skip
      refine ⟨k+1,?_,hlt,by omega⟩
      simp only[eaSt,clCells,hnew,List.length_append,hp,hv,ep,ev,List.isEmpty_nil,List.isEmpty_cons,layR_nil,layR_t,layR_f,List.length_cons,List.length_nil,List.getD_cons_zero,List.getD_cons_succ,List.all_cons,List.all_nil,Bool.and_true,Bool.and_false,Bool.true_and,Bool.false_and,List.cons_append,List.nil_append]
      rfl
    | cons z zs=>
     simp only[List.length_cons] at hlen
     simp only[eaSt,clCells,hp,hv,ep,ev,List.isEmpty_nil,List.isEmpty_cons,layR_nil,layR_t,layR_f,List.length_cons,List.length_nil,List.getD_cons_zero,List.getD_cons_succ,List.all_cons,List.all_nil,Bool.and_true,Bool.and_false,Bool.true_and,Bool.false_and,List.cons_append,List.nil_append]
     (repeat' first|simp (disch:=omega) only[go_sem,keep_mk,hy2,List.length_map,zeroQ]|(apply spl<;>intro h<;>try simp (disch:=omega) only[go_sem,h]))
     refine drawE ?_
     apply Exists.intro
     refine And.intro ?_ (And.intro ?_ ?_)
     ·(repeat' first|simp (disch:=omega) only[go_sem,keep_mk,hy2,List.length_map,zeroQ]|(refine call_of _ _ (lv_call hk1 hr rfl) ?_)|(apply spl<;>intro h<;>try simp (disch:=omega) only[go_sem,h]))
      all_goals first | omega | exact rfl
     ·(repeat' first|exact trivial|refine And.intro ?_ ?_)
      all_goals
       (repeat' first|simp (disch:=omega) only[go_sem,keep_mk,hy2,List.length_map,zeroQ]|(refine call_of _ _ (lv_call hk1 hr rfl) ?_)|(apply spl<;>intro h<;>try simp (disch:=omega) only[go_sem,h]))
       all_goals first | omega | exact rfl
     ·(repeat' first|simp (disch:=omega) only[go_sem,List.length_map,zeroQ]|(apply spl<;>intro h<;>try simp (disch:=omega) only[go_sem,h]))
      all_goals first | omega | skip
      refine ⟨k+1,?_,hlt,by omega⟩
      simp only[eaSt,clCells,hnew,List.length_append,hp,hv,ep,ev,List.isEmpty_nil,List.isEmpty_cons,layR_nil,layR_t,layR_f,List.length_cons,List.length_nil,List.getD_cons_zero,List.getD_cons_succ,List.all_cons,List.all_nil,Bool.and_true,Bool.and_false,Bool.true_and,Bool.false_and,List.cons_append,List.nil_append]
      rfl
   ·have hk2:k=x.p.length:=by omega
    rw[hk2,List.take_length] at hels
    clear hk
    rw[hels]
    have hql:els.length=x.p.length:=by rw[←hels,List.length_map]
    cases els with
    | nil=>
     simp only[eaSt,clCells,hxe,hp,hv,ep,ev,List.isEmpty_nil,List.isEmpty_cons,layR_nil,layR_t,layR_f,List.length_cons,List.length_nil,List.getD_cons_zero,List.getD_cons_succ,List.all_cons,List.all_nil,Bool.and_true,Bool.and_false,Bool.true_and,Bool.false_and,List.cons_append,List.nil_append]
     (repeat' first|simp (disch:=omega) only[go_sem,zeroQ,List.length_map]|(apply spl<;>intro h<;>try simp (disch:=omega) only[go_sem,h]))
     all_goals first | omega | skip
     clear hlt hlen
     refine loop_of (α:=Nat) (fun k=>eaSt3 nf [(69,.tsl 15 (x.a.map encSch)),(70,.int .i64 x.a.length),(71,.int .i64 k)] [(11,(x.s.parts.map encPrt).isEmpty,x.s.parts.map encPrt),(13,(x.s.vals.map encV).isEmpty,x.s.vals.map encV),(17,true,[]),(15,((x.a.take k).map (eaX M)).isEmpty,(x.a.take k).map (eaX M))] fun c=>clCells x (c.getD 0 .dead) (c.getD 1 .dead) (c.getD 2 .dead) (c.getD 3 .dead)) (fun k=>k≤x.a.length) (fun k=>x.a.length-k) 0 (by
      simp only[eaSt3,clCells,hp,hv,ep,ev,List.isEmpty_nil,List.isEmpty_cons,layR_nil,layR_t,layR_f,List.length_cons,List.length_nil,List.getD_cons_zero,List.getD_cons_succ,List.all_cons,List.all_nil,Bool.and_true,Bool.and_false,Bool.true_and,Bool.false_and,List.cons_append,List.nil_append,List.take_zero,List.map_nil]
      rfl) (Nat.zero_le _) ?_
     intro k hk
     obtain ⟨els,hels⟩ : ∃ els,(x.a.take k).map (eaX M)=els:=⟨_,rfl⟩
     have hlen:els.length=k:=by rw[←hels]; simp; omega
     rw[hels]
     by_cases hlt:k<x.a.length
     ·obtain ⟨y,hy⟩:=get_some hlt
      have hym:=List.mem_of_getElem? hy
      have hy2:=map_get (g:=encSch) hy
      have hr:=hM y (List.mem_append.2 (.inr hym))
      have hnew:(x.a.take (k+1)).map (eaX M)=els++[eaX M y]:=by rw[←hels,List.take_add_one,hy]; simp
      obtain ⟨w,hw⟩ : ∃ w,M y=w:=⟨_,rfl⟩
      have he:eaX M y=encSch w:=by rw[←hw]; rfl
      rw[he,encSch_eq] at hnew
      rw[hw,encSch_eq,encSch_eq] at hr
      rw[encSch_eq] at hy2
      cases els with
      | nil=>
       simp only[List.length_nil] at hlen
       simp only[eaSt3,clCells,hp,hv,ep,ev,List.isEmpty_nil,List.isEmpty_cons,layR_nil,layR_t,layR_f,List.length_cons,List.length_nil,List.getD_cons_zero,List.getD_cons_succ,List.all_cons,List.all_nil,Bool.and_true,Bool.and_false,Bool.true_and,Bool.false_and,List.cons_append,List.nil_append]
       (repeat' first|simp (disch:=omega) only[go_sem,keep_mk,hy2,List.length_map,zeroQ]|(apply spl<;>intro h<;>try simp (disch:=omega) only[go_sem,h]))
       refine drawE ?_
       apply Exists.intro
       refine And.intro ?_ (And.intro ?_ ?_)
       ·(repeat' first|simp (disch:=omega) only[go_sem,keep_mk,hy2,List.length_map,zeroQ]|(refine call_of _ _ (lv_call hk1 hr rfl) ?_)|(apply spl<;>intro h<;>try simp (disch:=omega) only[go_sem,h]))
        all_goals first | omega | exact rfl
       ·(repeat' first|exact trivial|refine And.intro ?_ ?_)
        all_goals
         (repeat' first|simp (disch:=omega) only[go_sem,keep_mk,hy2,List.length_map,zeroQ]|(refine call_of _ _ (lv_call hk1 hr rfl) ?_)|(apply spl<;>intro h<;>try simp (disch:=omega) only[go_sem,h]))
         all_goals first | omega | exact rfl
       ·(repeat' first|simp (disch:=omega) only[go_sem,List.length_map,zeroQ]|(apply spl<;>intro h<;>try simp (disch:=omega) only[go_sem,h]))
        all_goals first | omega | skip
        refine ⟨k+1,?_,hlt,by omega⟩
        simp only[eaSt3,clCells,hnew,List.length_append,hp,hv,ep,ev,List.isEmpty_nil,List.isEmpty_cons,layR_nil,layR_t,layR_f,List.length_cons,List.length_nil,List.getD_cons_zero,List.getD_cons_succ,List.all_cons,List.all_nil,Bool.and_true,Bool.and_false,Bool.true_and,Bool.false_and,List.cons_append,List.nil_append]
        rfl
      | cons z zs=>
       simp only[List.length_cons] at hlen
       simp only[eaSt3,clCells,hp,hv,ep,ev,List.isEmpty_nil,List.isEmpty_cons,layR_nil,layR_t,layR_f,List.length_cons,List.length_nil,List.getD_cons_zero,List.getD_cons_succ,List.all_cons,List.all_nil,Bool.and_true,Bool.and_false,Bool.true_and,Bool.false_and,List.cons_append,List.nil_append]
       (repeat' first|simp (disch:=omega) only[go_sem,keep_mk,hy2,List.length_map,zeroQ]|(apply spl<;>intro h<;>try simp (disch:=omega) only[go_sem,h]))
       refine drawE ?_
       apply Exists.intro
       refine And.intro ?_ (And.intro ?_ ?_)
       ·(repeat' first|simp (disch:=omega) only[go_sem,keep_mk,hy2,List.length_map,zeroQ]|(refine call_of _ _ (lv_call hk1 hr rfl) ?_)|(apply spl<;>intro h<;>try simp (disch:=omega) only[go_sem,h]))
        all_goals first | omega | exact rfl
       ·(repeat' first|exact trivial|refine And.intro ?_ ?_)
        all_goals
         (repeat' first|simp (disch:=omega) only[go_sem,keep_mk,hy2,List.length_map,zeroQ]|(refine call_of _ _ (lv_call hk1 hr rfl) ?_)|(apply spl<;>intro h<;>try simp (disch:=omega) only[go_sem,h]))
         all_goals first | omega | exact rfl
       ·(repeat' first|simp (disch:=omega) only[go_sem,List.length_map,zeroQ]|(apply spl<;>intro h<;>try simp (disch:=omega) only[go_sem,h]))
        all_goals first | omega | skip
        refine ⟨k+1,?_,hlt,by omega⟩
        simp only[eaSt3,clCells,hnew,List.length_append,hp,hv,ep,ev,List.isEmpty_nil,List.isEmpty_cons,layR_nil,layR_t,layR_f,List.length_cons,List.length_nil,List.getD_cons_zero,List.getD_cons_succ,List.all_cons,List.all_nil,Bool.and_true,Bool.and_false,Bool.true_and,Bool.false_and,List.cons_append,List.nil_append]
        rfl
     ·have hk2:k=x.a.length:=by omega
      rw[hk2,List.take_length] at hels
      rw[hels]
      cases els with
      | nil=>
       simp only[eaSt3,clCells,hp,hv,ep,ev,List.isEmpty_nil,List.isEmpty_cons,layR_nil,layR_t,layR_f,List.length_cons,List.length_nil,List.getD_cons_zero,List.getD_cons_succ,List.all_cons,List.all_nil,Bool.and_true,Bool.and_false,Bool.true_and,Bool.false_and,List.cons_append,List.nil_append]
       (repeat' first|simp (disch:=omega) only[go_sem,zeroQ,List.length_map,List.take_length]|(apply spl<;>intro h<;>try simp (disch:=omega) only[go_sem,h]))
       all_goals first | omega | skip
      | cons a as_=>
       simp only[List.length_cons] at hlen
       simp only[eaSt3,clCells,hp,hv,ep,ev,List.isEmpty_nil,List.isEmpty_cons,layR_nil,layR_t,layR_f,List.length_cons,List.length_nil,List.getD_cons_zero,List.getD_cons_succ,List.all_cons,List.all_nil,Bool.and_true,Bool.and_false,Bool.true_and,Bool.false_and,List.cons_append,List.nil_append]
       (repeat' first|simp (disch:=omega) only[go_sem,zeroQ,List.length_map,List.take_length]|(apply spl<;>intro h<;>try simp (disch:=omega) only[go_sem,h]))
       all_goals first | omega | skip
    | cons z zs=>
     simp only[List.length_cons] at hql
     simp only[eaSt,clCells,hxe,hp,hv,ep,ev,List.isEmpty_nil,List.isEmpty_cons,layR_nil,layR_t,layR_f,List.length_cons,List.length_nil,List.getD_cons_zero,List.getD_cons_succ,List.all_cons,List.all_nil,Bool.and_true,Bool.and_false,Bool.true_and,Bool.false_and,List.cons_append,List.nil_append]
     (repeat' first|simp (disch:=omega) only[go_sem,zeroQ,List.length_map]|(apply spl<;>intro h<;>try simp (disch:=omega) only[go_sem,h]))
     all_goals first | omega | skip
     clear hlt hlen
     refine loop_of (α:=Nat) (fun k=>eaSt3 nf [(69,.tsl 15 (x.a.map encSch)),(70,.int .i64 x.a.length),(71,.int .i64 k)] [(11,(x.s.parts.map encPrt).isEmpty,x.s.parts.map encPrt),(13,(x.s.vals.map encV).isEmpty,x.s.vals.map encV),(17,false,z::zs),(15,((x.a.take k).map (eaX M)).isEmpty,(x.a.take k).map (eaX M))] fun c=>clCells x (c.getD 0 .dead) (c.getD 1 .dead) (c.getD 2 .dead) (c.getD 3 .dead)) (fun k=>k≤x.a.length) (fun k=>x.a.length-k) 0 (by
      simp only[eaSt3,clCells,hp,hv,ep,ev,List.isEmpty_nil,List.isEmpty_cons,layR_nil,layR_t,layR_f,List.length_cons,List.length_nil,List.getD_cons_zero,List.getD_cons_succ,List.all_cons,List.all_nil,Bool.and_true,Bool.and_false,Bool.true_and,Bool.false_and,List.cons_append,List.nil_append,List.take_zero,List.map_nil]
      rfl) (Nat.zero_le _) ?_
     intro k hk
     obtain ⟨els,hels⟩ : ∃ els,(x.a.take k).map (eaX M)=els:=⟨_,rfl⟩
     have hlen:els.length=k:=by rw[←hels]; simp; omega
     rw[hels]
     by_cases hlt:k<x.a.length
     ·obtain ⟨y,hy⟩:=get_some hlt
      have hym:=List.mem_of_getElem? hy
      have hy2:=map_get (g:=encSch) hy
      have hr:=hM y (List.mem_append.2 (.inr hym))
      have hnew:(x.a.take (k+1)).map (eaX M)=els++[eaX M y]:=by rw[←hels,List.take_add_one,hy]; simp
      obtain ⟨w,hw⟩ : ∃ w,M y=w:=⟨_,rfl⟩
      have he:eaX M y=encSch w:=by rw[←hw]; rfl
      rw[he,encSch_eq] at hnew
      rw[hw,encSch_eq,encSch_eq] at hr
      rw[encSch_eq] at hy2
      cases els with
      | nil=>
       simp only[List.length_nil] at hlen
       simp only[eaSt3,clCells,hp,hv,ep,ev,List.isEmpty_nil,List.isEmpty_cons,layR_nil,layR_t,layR_f,List.length_cons,List.length_nil,List.getD_cons_zero,List.getD_cons_succ,List.all_cons,List.all_nil,Bool.and_true,Bool.and_false,Bool.true_and,Bool.false_and,List.cons_append,List.nil_append]
       (repeat' first|simp (disch:=omega) only[go_sem,keep_mk,hy2,List.length_map,zeroQ]|(apply spl<;>intro h<;>try simp (disch:=omega) only[go_sem,h]))
       refine drawE ?_
       apply Exists.intro
       refine And.intro ?_ (And.intro ?_ ?_)
       ·(repeat' first|simp (disch:=omega) only[go_sem,keep_mk,hy2,List.length_map,zeroQ]|(refine call_of _ _ (lv_call hk1 hr rfl) ?_)|(apply spl<;>intro h<;>try simp (disch:=omega) only[go_sem,h]))
        all_goals first | omega | exact rfl
       ·(repeat' first|exact trivial|refine And.intro ?_ ?_)
        all_goals
         (repeat' first|simp (disch:=omega) only[go_sem,keep_mk,hy2,List.length_map,zeroQ]|(refine call_of _ _ (lv_call hk1 hr rfl) ?_)|(apply spl<;>intro h<;>try simp (disch:=omega) only[go_sem,h]))
         all_goals first | omega | exact rfl
       ·(repeat' first|simp (disch:=omega) only[go_sem,List.length_map,zeroQ]|(apply spl<;>intro h<;>try simp (disch:=omega) only[go_sem,h]))
        all_goals first | omega | skip
        refine ⟨k+1,?_,hlt,by omega⟩
        simp only[eaSt3,clCells,hnew,List.length_append,hp,hv,ep,ev,List.isEmpty_nil,List.isEmpty_cons,layR_nil,layR_t,layR_f,List.length_cons,List.length_nil,List.getD_cons_zero,List.getD_cons_succ,List.all_cons,List.all_nil,Bool.and_true,Bool.and_false,Bool.true_and,Bool.false_and,List.cons_append,List.nil_append]
        rfl
      | cons a as_=>
       simp only[List.length_cons] at hlen
       simp only[eaSt3,clCells,hp,hv,ep,ev,List.isEmpty_nil,List.isEmpty_cons,layR_nil,layR_t,layR_f,List.length_cons,List.length_nil,List.getD_cons_zero,List.getD_cons_succ,List.all_cons,List.all_nil,Bool.and_true,Bool.and_false,Bool.true_and,Bool.false_and,List.cons_append,List.nil_append]
       (repeat' first|simp (disch:=omega) only[go_sem,keep_mk,hy2,List.length_map,zeroQ]|(apply spl<;>intro h<;>try simp (disch:=omega) only[go_sem,h]))
       refine drawE ?_
       apply Exists.intro
       refine And.intro ?_ (And.intro ?_ ?_)
       ·(repeat' first|simp (disch:=omega) only[go_sem,keep_mk,hy2,List.length_map,zeroQ]|(refine call_of _ _ (lv_call hk1 hr rfl) ?_)|(apply spl<;>intro h<;>try simp (disch:=omega) only[go_sem,h]))
        all_goals first | omega | exact rfl
       ·(repeat' first|exact trivial|refine And.intro ?_ ?_)
        all_goals
         (repeat' first|simp (disch:=omega) only[go_sem,keep_mk,hy2,List.length_map,zeroQ]|(refine call_of _ _ (lv_call hk1 hr rfl) ?_)|(apply spl<;>intro h<;>try simp (disch:=omega) only[go_sem,h]))
         all_goals first | omega | exact rfl
       ·(repeat' first|simp (disch:=omega) only[go_sem,List.length_map,zeroQ]|(apply spl<;>intro h<;>try simp (disch:=omega) only[go_sem,h]))
        all_goals first | omega | skip
        refine ⟨k+1,?_,hlt,by omega⟩
        simp only[eaSt3,clCells,hnew,List.length_append,hp,hv,ep,ev,List.isEmpty_nil,List.isEmpty_cons,layR_nil,layR_t,layR_f,List.length_cons,List.length_nil,List.getD_cons_zero,List.getD_cons_succ,List.all_cons,List.all_nil,Bool.and_true,Bool.and_false,Bool.true_and,Bool.false_and,List.cons_append,List.nil_append]
        rfl
     ·have hk2:k=x.a.length:=by omega
      rw[hk2,List.take_length] at hels
      rw[hels]
      cases els with
      | nil=>
       simp only[eaSt3,clCells,hp,hv,ep,ev,List.isEmpty_nil,List.isEmpty_cons,layR_nil,layR_t,layR_f,List.length_cons,List.length_nil,List.getD_cons_zero,List.getD_cons_succ,List.all_cons,List.all_nil,Bool.and_true,Bool.and_false,Bool.true_and,Bool.false_and,List.cons_append,List.nil_append]
       (repeat' first|simp (disch:=omega) only[go_sem,zeroQ,List.length_map,List.take_length]|(apply spl<;>intro h<;>try simp (disch:=omega) only[go_sem,h]))
       all_goals first | omega | skip
      | cons a as_=>
       simp only[List.length_cons] at hlen
       simp only[eaSt3,clCells,hp,hv,ep,ev,List.isEmpty_nil,List.isEmpty_cons,layR_nil,layR_t,layR_f,List.length_cons,List.length_nil,List.getD_cons_zero,List.getD_cons_succ,List.all_cons,List.all_nil,Bool.and_true,Bool.and_false,Bool.true_and,Bool.false_and,List.cons_append,List.nil_append]
       (repeat' first|simp (disch:=omega) only[go_sem,zeroQ,List.length_map,List.take_length]|(apply spl<;>intro h<;>try simp (disch:=omega) only[go_sem,h]))
       all_goals first | omega | skip
end Ago
