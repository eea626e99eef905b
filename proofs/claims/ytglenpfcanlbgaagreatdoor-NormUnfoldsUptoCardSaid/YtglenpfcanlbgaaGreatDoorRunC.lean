/- Copies of patterns and schemas; Lookup. -/
import Derived.Test.YtglenpfcanlbgaaGreatDoorRunF
import Derived.Test.YtglenpfcanlbgaaGreatDoorRunG
set_option linter.unusedSimpArgs false
set_option linter.unusedVariables false
set_option maxRecDepth 100000
set_option maxHeartbeats 8000000
namespace Ago
open Go (IntKind)
theorem cloneS {f n b:Nat} (h:clRS f=some (n,b)) (hb:b≤232) (H:Heap) (y:AV) (l:List AV) (hl:l.length<2^24):RunOf CS f [.tsl n (y::l)] H (.sref n (H.length+1) 0 (l.length+1)) (H++[.gone,.row n (y::l) false true (H.length+1)]):=by
 refine .prim (Or.inl ⟨(n,b),_,h,rfl,?_⟩)
 have:(l.length+1) * b≤2^24 * 232:=Nat.mul_le_mul (by omega) hb
 simp [xAppend,Heap.elems,Heap.append,lim,freshRow,Heap.flatOf]
 omega
theorem cloneS0 {f n b:Nat} (h:clRS f=some (n,b)) (H:Heap):RunOf CS f [.tsl n []] H (.snil n) (H++[.gone]):=by
 refine .prim (Or.inl ⟨(n,b),_,h,rfl,?_⟩)
 simp [xAppend,Heap.elems,Heap.append,lim,freshRow]
def mixL {α:Type} (f g:α→AV) (l:List α) (k:Nat):List AV:=(l.take k).map g++(l.drop k).map f
section
variable {α:Type} {f g:α→AV} {l:List α}
theorem mix_len (k:Nat):(mixL f g l k).length=l.length:=by
 simp [mixL]
 omega
theorem mix_zero:mixL f g l 0=l.map f:=by simp [mixL]
theorem mix_all {k:Nat} (h:l.length≤k):mixL f g l k=l.map g:=by
 unfold mixL
 rw[List.take_of_length_le h,List.drop_of_length_le h]
 simp
theorem mix_get {k:Nat} {y:α} (h:l[k]?=some y):(mixL f g l k)[k]?=some (f y):=by
 obtain ⟨h1,h2⟩:=List.getElem?_eq_some_iff.1 h
 unfold mixL
 rw[List.getElem?_append_right (by simp; omega)]
 have:k-((l.take k).map g).length=0:=by simp; omega
 rw[this,dropS h]
 rfl
theorem mix_set {k:Nat} {y:α} (h:l[k]?=some y):(mixL f g l k).set k (g y)=mixL f g l (k+1):=by
 obtain ⟨h1,h2⟩:=List.getElem?_eq_some_iff.1 h
 unfold mixL
 rw[dropS h,List.take_add_one,h]
 have e:((l.take k).map g).length=k:=by simp; omega
 rw[List.set_append_right _ _ (by omega),e]
 simp
end
theorem pat_bulk_pos (p:Pat):1≤p.bulk:=by
 have:=p.bulk_eq
 omega
def zeroP:AV:=.agg [.int .i64 0,.int .i64 0,.int .i64 0,.int .i64 0,.int .i64 0,.snil 6]
theorem clonePat_run : ∀ (n:Nat) (p:Pat),p.bulk≤n→n≤2^24→PRun CS 517 [encPat p] (encPat p):=by
 intro n
 induction n with
 | zero=>
  intro p h1 h2
  have:=pat_bulk_pos p
  omega
 | succ n ih=>
  intro p h1 h2
  have L:=Pat.lens (p:=p) (N:=2^24) (by omega)
  have hal:=L.args
  refine prun_of ac517 rfl ?_
  rw[encPat_eq]
  by_cases ha:p.a=[]
  ·rw[ha,List.map_nil]
   (repeat' first|simp (disch:=omega) only[go_sem,ac517,enter]|(refine call_of _ _ (cloneS0 (b:=64) rfl _) ?_)|(apply spl<;>intro h<;>try simp (disch:=omega) only[go_sem,h]))
   refine loop_of (α:=Unit) (fun _=>{ tmps:=slots 26 [(1,.ptr 6 0 0 0),(2,.ptr 6 1 0 0),(10,.int .i64 0),(11,.int .i64 0)],heap:=[.row 6 [.agg [.int .i64 p.s.op,.int .i64 p.s.lo,.int .i64 p.s.hi,.int .i64 p.s.min,.int .i64 p.s.max,.snil 6]] false true 0,.row 6 [zeroP] false true 1],base:=0 }) (fun _=>True) (fun _=>0) () rfl trivial ?_
   intro _ _
   (repeat' first|simp (disch:=omega) only[go_sem,zeroP]|(apply spl<;>intro h<;>try simp (disch:=omega) only[go_sem,h]))
  ·obtain ⟨z,zs,hz⟩ : ∃ z zs,p.a.map encPat=z::zs:=by
    cases h:p.a with
    | nil=>exact (ha h).elim
    | cons a b=>exact ⟨_,_,rfl⟩
   have hzl:zs.length+1=p.a.length:=by
    have:=congrArg List.length hz
    simp at this
    omega
   rw[hz]
   (repeat' first|simp (disch:=omega) only[go_sem,ac517,enter]|(refine call_of _ _ (cloneS (b:=64) rfl (by decide) _ _ _ (by omega)) ?_)|(apply spl<;>intro h<;>try simp (disch:=omega) only[go_sem,h]))
   refine loop_of (α:=Nat) (fun k=>{ tmps:=slots 26 [(1,.ptr 6 0 0 0),(2,.ptr 6 2 0 0),(10,.int .i64 (zs.length+1)),(11,.int .i64 k)],heap:=[.row 6 [.agg [.int .i64 p.s.op,.int .i64 p.s.lo,.int .i64 p.s.hi,.int .i64 p.s.min,.int .i64 p.s.max,.sref 6 1 0 (zs.length+1)]] false false 0,.row 6 (z::zs) false true 1,.row 6 [zeroP] false true 2],base:=0 }) (fun k=>k≤p.a.length) (fun k=>p.a.length-k) 0 rfl (Nat.zero_le _) ?_
   intro k hk
   by_cases hlt:k<p.a.length
   ·obtain ⟨y,hy⟩:=get_some hlt
    have hym:=List.mem_of_getElem? hy
    have hy2:=map_get (g:=encPat) hy
    have hr:=ih y (by have:=L.kids y hym; omega) (by omega)
    have hst:(z::zs).set k (encPat y)=z::zs:=by
     rw[←hz]
     obtain ⟨q1,q2⟩:=List.getElem?_eq_some_iff.1 hy2
     rw[←q2]
     exact List.set_getElem_self q1
    rw[hz] at hy2
    rw[encPat_eq] at hy2 hr hst
    (repeat' first|simp (disch:=omega) only[go_sem,hy2,hst,zeroP]|refine pure_of _ (hr) ?_|(apply spl<;>intro h<;>try simp (disch:=omega) only[go_sem,h]))
    all_goals first | omega | skip
    refine ⟨k+1,?_,hlt,by omega⟩
    rfl
   ·(repeat' first|simp (disch:=omega) only[go_sem,zeroP,List.take_length]|(apply spl<;>intro h<;>try simp (disch:=omega) only[go_sem,h]))
    all_goals first | omega | skip

def layR:Nat→List (Nat × Bool × List AV)→List AV × Heap
 | _,[]=>([],[])
 | b,(n,true,_)::l=>(.snil n::(layR b l).1,(layR b l).2)
 | b,(n,false,els)::l=>(.sref n b 0 els.length::(layR (b+1) l).1,.row n els false true b::(layR (b+1) l).2)
theorem layR_nil (b:Nat):layR b []=([],[]):=(rfl)
theorem layR_t (b n:Nat) (e:List AV) (l:List (Nat × Bool × List AV)):layR b ((n,true,e)::l)=(.snil n::(layR b l).1,(layR b l).2):=(rfl)
theorem layR_f (b n:Nat) (e:List AV) (l:List (Nat × Bool × List AV)):layR b ((n,false,e)::l)=(.sref n b 0 e.length::(layR (b+1) l).1,.row n e false true b::(layR (b+1) l).2):=(rfl)
def zeroQ:AV:=.agg [.int .i64 0,.int .i64 0,.int .i64 0,.int .i64 0,.str [],.snil 11,.int .i64 0,.int .i64 0,.int .i64 0,.int .i64 0,.int .i64 0,.snil 6,.snil 13,.snil 17,.snil 15]
def clCells (x:Sch) (p v q a:AV):List AV:=[.int .i64 x.s.op,.int .i64 x.s.mask,.int .i64 x.s.min,.int .i64 x.s.max,.str x.s.name,p,.int .i64 x.s.pat.s.op,.int .i64 x.s.pat.s.lo,.int .i64 x.s.pat.s.hi,.int .i64 x.s.pat.s.min,.int .i64 x.s.pat.s.max,.tsl 6 (x.s.pat.a.map encPat),v,q,a]
def cloneM:Nat→Sch→Sch
 | 0,x=>x
 | n+1,x=>.mk { x.s with vals:=x.s.vals.map (cutV 65536) } (x.p.map fun k=>(k.1,cloneM n k.2)) (x.a.map (cloneM n))
def clX (n:Nat) (x:Sch):AV:=encSch (cloneM n x)
def clPr (n:Nat) (k:PK × Sch):AV:=encPr (k.1,cloneM n k.2)
theorem clP_eq (n:Nat) (k:PK × Sch):clPr n k = .agg (.str k.1.key :: .bool k.1.req::(clX n k.2).cells):=(rfl)
theorem clone_eq (n:Nat) (x:Sch):encSch (cloneM (n+1) x) = .agg (clCells x (.tsl 11 (x.s.parts.map encPrt)) (.tsl 13 (x.s.vals.map (cutL 65536))) (.tsl 17 (x.p.map (clPr n))) (.tsl 15 (x.a.map (clX n)))):=by
 rw[encSch_eq]
 simp only[cloneM,Sch.s,Sch.p,Sch.a,List.map_map]
 rfl
def clSt (t:List (Nat × AV)) (pre:List (Nat × Bool × List AV)) (cells:List AV→List AV):St:=
 { tmps:=slots 82 ([(1,.ptr 15 0 0 0),(2,.ptr 15 ((layR 1 pre).2.length+1) 0 0)]++t),heap:=.row 15 [.agg (cells (layR 1 pre).1)] false (pre.all fun p=>p.2.1) 0::(layR 1 pre).2++[.row 15 [zeroQ] false true ((layR 1 pre).2.length+1)],base:=0 }
end Ago
set_option maxRecDepth 100000
set_option maxHeartbeats 32000000
namespace Ago
open Go (IntKind)
theorem emp_cases {α:Type} (f:α→AV) (l:List α):(l.map f=[]∧(l.map f).isEmpty=true∧l.length=0)∨∃ z zs,l.map f=z::zs∧(l.map f).isEmpty=false∧l.length=zs.length+1:=by
 cases l with
 | nil=>exact .inl ⟨rfl,rfl,rfl⟩
 | cons z zs=>exact .inr ⟨f z,zs.map f,rfl,rfl,by simp⟩
theorem cloneX_run : ∀ (n:Nat) (x:Sch),x.bulk≤n→n≤2^24→PRun CS 490 [encSch x] (encSch (cloneM n x)):=by
 intro n
 induction n with
 | zero=>
  intro x h1 h2
  have:1≤x.bulk:=bulk_one _
  omega
 | succ n ih=>
  intro x h1 h2
  have L:=Sch.lens (v:=x) (N:=2^24) (by omega)
  have l1:=L.parts
  have l2:=L.vals
  have l3:=L.props
  have l4:=L.args
  have hpat:=clonePat_run (2^24) x.s.pat (by have:=L.pat; omega) (Nat.le_refl _)
  have tv:(x.s.vals.map (cutL 65536)).take x.s.vals.length=x.s.vals.map (cutL 65536):=List.take_of_length_le (by simp)
  have tq:(x.p.map (clPr n)).take x.p.length=x.p.map (clPr n):=List.take_of_length_le (by simp)
  have ta:(x.a.map (clX n)).take x.a.length=x.a.map (clX n):=List.take_of_length_le (by simp)
  have c1:=fun (H:Heap) (z:AV) (zs:List AV) (h:zs.length<2^24)=>cloneS (f:=216) (n:=11) (b:=104) rfl (by decide) H z zs h
  have c2:=fun (H:Heap) (z:AV) (zs:List AV) (h:zs.length<2^24)=>cloneS (f:=518) (n:=13) (b:=168) rfl (by decide) H z zs h
  have c3:=fun (H:Heap) (z:AV) (zs:List AV) (h:zs.length<2^24)=>cloneS (f:=519) (n:=17) (b:=232) rfl (by decide) H z zs h
  have c4:=fun (H:Heap) (z:AV) (zs:List AV) (h:zs.length<2^24)=>cloneS (f:=520) (n:=15) (b:=208) rfl (by decide) H z zs h
  have d1:=fun (H:Heap)=>cloneS0 (f:=216) (n:=11) (b:=104) rfl H
  have d2:=fun (H:Heap)=>cloneS0 (f:=518) (n:=13) (b:=168) rfl H
  have d3:=fun (H:Heap)=>cloneS0 (f:=519) (n:=17) (b:=232) rfl H
  have d4:=fun (H:Heap)=>cloneS0 (f:=520) (n:=15) (b:=208) rfl H
  have ml1:(x.s.parts.map encPrt).length=x.s.parts.length:=List.length_map ..
  have ml2:(x.s.vals.map encV).length=x.s.vals.length:=List.length_map ..
  have ml3:(x.p.map encPr).length=x.p.length:=List.length_map ..
  have ml4:(x.a.map encSch).length=x.a.length:=List.length_map ..
  rw[encPat_eq] at hpat
  rw[clone_eq]
  unfold clCells
  refine prun_of ac490 rfl ?_
  rw[encSch_eq]
  rcases emp_cases encPrt x.s.parts with ⟨hp,ep,np⟩ | ⟨p0,ps,hp,ep,np⟩<;>rcases emp_cases encV x.s.vals with ⟨hv,ev,nv⟩ | ⟨v0,vs,hv,ev,nv⟩
  all_goals
   rw[hp,hv]
   (repeat' first|simp (disch:=omega) only[go_sem,ac490,enter]|refine pure_of _ (hpat) ?_|(refine call_of _ _ (d1 _) ?_)|(refine call_of _ _ (d2 _) ?_)|(refine call_of _ _ (c1 _ _ _ (by omega)) ?_)|(refine call_of _ _ (c2 _ _ _ (by omega)) ?_)|(apply spl<;>intro h<;>try simp (disch:=omega) only[go_sem,h]))
   refine loop_of (α:=Nat) (fun k=>clSt [(22,.int .i64 x.s.vals.length),(23,.int .i64 k)] [(11,(x.s.parts.map encPrt).isEmpty,x.s.parts.map encPrt),(13,(x.s.vals.map encV).isEmpty,mixL encV (cutL 65536) x.s.vals k)] fun c=>clCells x (c.getD 0 .dead) (c.getD 1 .dead) (.tsl 17 (x.p.map encPr)) (.tsl 15 (x.a.map encSch))) (fun k=>k≤x.s.vals.length) (fun k=>x.s.vals.length-k) 0 (by
    simp only[clSt,mix_zero,hp,hv,List.isEmpty_nil,List.isEmpty_cons,layR_nil,layR_t,layR_f,List.length_cons,List.length_nil,nv]
    rfl) (Nat.zero_le _) ?_
   intro k hk
   simp only[clSt,clCells,hp,ev,List.isEmpty_nil,List.isEmpty_cons,layR_nil,layR_t,layR_f,mix_len,List.length_cons,List.length_nil,List.getD_cons_zero,List.getD_cons_succ,List.all_cons,List.all_nil,Bool.and_true,Bool.and_false,Bool.true_and,List.cons_append,List.nil_append]
   by_cases hlt:k<x.s.vals.length
   ·first
     | (exfalso; omega)
     | (
      obtain ⟨y,hy⟩:=get_some hlt
      have hym:=List.mem_of_getElem? hy
      have hy2:=mix_get (f:=encV) (g:=cutL 65536) hy
      have hst:=mix_set (f:=encV) (g:=cutL 65536) hy
      have hr:PRun CS 26 [encV y] (cutL 65536 y):=upS (cutCopy_run y (by have:=L.val y hym; omega))
      rw[cutL_eq] at hr hst
      rw[encV_eq] at hy2 hr
      (repeat' first|simp (disch:=omega) only[go_sem,hy2,hst,mix_len,zeroQ]|refine pure_of _ (hr) ?_|(apply spl<;>intro h<;>try simp (disch:=omega) only[go_sem,h]))
      all_goals first | omega | skip
      exact ⟨k+1,rfl,hlt,by omega⟩)
   ·have hk2:k=x.s.vals.length:=by omega
    subst hk2
    try rw[mix_all (Nat.le_refl _)]
    rcases emp_cases encPr x.p with ⟨hq,eq,nq⟩ | ⟨q0,qs,hq,eq,nq⟩
    all_goals
     rw[hq]
     (repeat' first|simp (disch:=omega) only[go_sem,zeroQ]|(refine call_of _ _ (d3 _) ?_)|(refine call_of _ _ (c3 _ _ _ (by omega)) ?_)|(apply spl<;>intro h<;>try simp (disch:=omega) only[go_sem,h]))
     refine loop_of (α:=Nat) (fun k=>clSt [(43,.int .i64 x.p.length),(44,.int .i64 k)] [(11,(x.s.parts.map encPrt).isEmpty,x.s.parts.map encPrt),(13,(x.s.vals.map encV).isEmpty,x.s.vals.map (cutL 65536)),(17,(x.p.map encPr).isEmpty,mixL encPr (clPr n) x.p k)] fun c=>clCells x (c.getD 0 .dead) (c.getD 1 .dead) (c.getD 2 .dead) (.tsl 15 (x.a.map encSch))) (fun k=>k≤x.p.length) (fun k=>x.p.length-k) 0 (by
      simp only[clSt,mix_zero,hp,ev,hq,List.isEmpty_nil,List.isEmpty_cons,layR_nil,layR_t,layR_f,List.length_cons,List.length_nil,List.length_map,nq]
      rfl) (Nat.zero_le _) ?_
     clear hlt hk
     intro k hk
     simp only[clSt,clCells,eq,hp,ep,ev,List.isEmpty_nil,List.isEmpty_cons,layR_nil,layR_t,layR_f,mix_len,List.length_cons,List.length_nil,List.length_map,List.getD_cons_zero,List.getD_cons_succ,List.all_cons,List.all_nil,Bool.and_true,Bool.and_false,Bool.true_and,Bool.false_and,List.cons_append,List.nil_append]
     by_cases hlt:k<x.p.length
     ·first
       | (exfalso; omega)
       | (
        obtain ⟨y,hy⟩:=get_some hlt
        have hym:=List.mem_of_getElem? hy
        have hy2:=mix_get (f:=encPr) (g:=clPr n) hy
        have hst:=mix_set (f:=encPr) (g:=clPr n) hy
        have hr:PRun CS 490 [encSch y.2] (clX n y.2):=ih y.2 (by have:=(L.pkids y hym).1; omega) (by omega)
        rw[clP_eq] at hst
        obtain ⟨cs,hcs⟩ : ∃ cs,clX n y.2=encSch cs:=⟨_,rfl⟩
        rw[hcs,encSch_eq] at hst hr
        simp only[AV.cells] at hst
        rw[encPr_eq] at hy2
        rw[encSch_eq] at hr
        (repeat' first|simp (disch:=omega) only[go_sem,hy2,hst,mix_len,zeroQ]|refine pure_of _ (hr) ?_|(apply spl<;>intro h<;>try simp (disch:=omega) only[go_sem,h]))
        all_goals first | omega | skip
        exact ⟨k+1,rfl,hlt,by omega⟩)
     ·have hk2:k=x.p.length:=by omega
      subst hk2
      try rw[mix_all (Nat.le_refl _)]
      rcases emp_cases encSch x.a with ⟨ha,ea,na⟩ | ⟨a0,as_,ha,ea,na⟩
      all_goals
       rw[ha]
       (repeat' first|simp (disch:=omega) only[go_sem,zeroQ]|(refine call_of _ _ (d4 _) ?_)|(refine call_of _ _ (c4 _ _ _ (by omega)) ?_)|(apply spl<;>intro h<;>try simp (disch:=omega) only[go_sem,h]))
       refine loop_of (α:=Nat) (fun k=>clSt [(66,.int .i64 x.a.length),(67,.int .i64 k)] [(11,(x.s.parts.map encPrt).isEmpty,x.s.parts.map encPrt),(13,(x.s.vals.map encV).isEmpty,x.s.vals.map (cutL 65536)),(17,(x.p.map encPr).isEmpty,x.p.map (clPr n)),(15,(x.a.map encSch).isEmpty,mixL encSch (clX n) x.a k)] fun c=>clCells x (c.getD 0 .dead) (c.getD 1 .dead) (c.getD 2 .dead) (c.getD 3 .dead)) (fun k=>k≤x.a.length) (fun k=>x.a.length-k) 0 (by
        simp only[clSt,mix_zero,hp,ev,eq,ha,List.isEmpty_nil,List.isEmpty_cons,layR_nil,layR_t,layR_f,List.length_cons,List.length_nil,List.length_map,na]
        rfl) (Nat.zero_le _) ?_
       clear hlt hk
       intro k hk
       simp only[clSt,clCells,eq,ea,hp,ep,ev,List.isEmpty_nil,List.isEmpty_cons,layR_nil,layR_t,layR_f,mix_len,List.length_cons,List.length_nil,List.length_map,List.getD_cons_zero,List.getD_cons_succ,List.all_cons,List.all_nil,Bool.and_true,Bool.and_false,Bool.true_and,Bool.false_and,List.cons_append,List.nil_append]
       by_cases hlt:k<x.a.length
       ·first
         | (exfalso; omega)
         | (
          obtain ⟨y,hy⟩:=get_some hlt
          have hym:=List.mem_of_getElem? hy
          have hy2:=mix_get (f:=encSch) (g:=clX n) hy
          have hst:=mix_set (f:=encSch) (g:=clX n) hy
          have hr:PRun CS 490 [encSch y] (clX n y):=ih y (by have:=L.kids y hym; omega) (by omega)
          obtain ⟨cs,hcs⟩ : ∃ cs,clX n y=encSch cs:=⟨_,rfl⟩
          rw[hcs,encSch_eq] at hst hr
          rw[encSch_eq] at hy2 hr
          (repeat' first|simp (disch:=omega) only[go_sem,hy2,hst,mix_len,zeroQ]|refine pure_of _ (hr) ?_|(apply spl<;>intro h<;>try simp (disch:=omega) only[go_sem,h]))
          all_goals first | omega | skip
          exact ⟨k+1,rfl,hlt,by omega⟩)
       ·have hk2:k=x.a.length:=by omega
        subst hk2
        try rw[mix_all (Nat.le_refl _)]
        try rw[show x.s.vals.map (cutL 65536)=[] from List.map_eq_nil_iff.2 (List.length_eq_zero_iff.1 (by omega))]
        try rw[show x.p.map (clPr n)=[] from List.map_eq_nil_iff.2 (List.length_eq_zero_iff.1 (by omega))]
        try rw[show x.a.map (clX n)=[] from List.map_eq_nil_iff.2 (List.length_eq_zero_iff.1 (by omega))]
        (repeat' first|simp (disch:=omega) only[go_sem,zeroQ,tv,tq,ta,List.take_length,List.length_map]|(apply spl<;>intro h<;>try simp (disch:=omega) only[go_sem,h]))
def zeroX:Sch:=.mk ⟨0,0,0,0,[],[],.mk ⟨0,0,0,0,0⟩ [],[]⟩ [] []
theorem zeroX_eq:encSch zeroX = .agg [.int .i64 0,.int .i64 0,.int .i64 0,.int .i64 0,.str [],.tsl 11 [],.int .i64 0,.int .i64 0,.int .i64 0,.int .i64 0,.int .i64 0,.tsl 6 [],.tsl 13 [],.tsl 17 [],.tsl 15 []]:=by
 rw[encSch_eq]
 rfl
end Ago
