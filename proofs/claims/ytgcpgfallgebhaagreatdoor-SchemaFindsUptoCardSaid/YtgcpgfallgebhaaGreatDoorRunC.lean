/- Copies of patterns and schemas; Lookup. -/
import Derived.Test.YtgcpgfallgebhaaGreatDoorRunF
import Derived.Test.YtgcpgfallgebhaaGreatDoorRunG
import Derived.Test.YtgcpgfallgebhaaGreatDoorRunB
import Derived.Test.YtgcpgfallgebhaaGreatDoorRunA
set_option linter.unusedSimpArgs false
set_option linter.unusedVariables false
set_option maxRecDepth 100000
set_option maxHeartbeats 8000000
namespace Ago
open Go (IntKind)
theorem cloneS {f n b : Nat} (h : clRS f = some (n,b)) (hb : b ≤ 232) (H : Heap) (y : AV) (l : List AV) (hl : l.length < 2 ^ 24) : RunOf CS f [.tsl n (y :: l)] H (.sref n (H.length + 1) 0 (l.length + 1)) (H ++ [.gone,.row n (y :: l) false true (H.length + 1)]) := by
 refine .prim (Or.inl ⟨(n,b),_,h,rfl,?_⟩)
 have : (l.length + 1) * b ≤ 2 ^ 24 * 232 := Nat.mul_le_mul (by omega) hb
 simp [xAppend,Heap.elems,Heap.append,lim,freshRow,Heap.flatOf]
 omega
theorem cloneS0 {f n b : Nat} (h : clRS f = some (n,b)) (H : Heap) : RunOf CS f [.tsl n []] H (.snil n) (H ++ [.gone]) := by
 refine .prim (Or.inl ⟨(n,b),_,h,rfl,?_⟩)
 simp [xAppend,Heap.elems,Heap.append,lim,freshRow]
def mixL {α : Type} (f g : α → AV) (l : List α) (k : Nat) : List AV := (l.take k).map g ++ (l.drop k).map f
section
variable {α : Type} {f g : α → AV} {l : List α}
theorem mix_len (k : Nat) : (mixL f g l k).length = l.length := by
 simp [mixL]
 omega
theorem mix_zero : mixL f g l 0 = l.map f := by simp [mixL]
theorem mix_all {k : Nat} (h : l.length ≤ k) : mixL f g l k = l.map g := by
 unfold mixL
 rw [List.take_of_length_le h,List.drop_of_length_le h]
 simp
theorem mix_get {k : Nat} {y : α} (h : l[k]? = some y) : (mixL f g l k)[k]? = some (f y) := by
 obtain ⟨h1,h2⟩ := List.getElem?_eq_some_iff.1 h
 unfold mixL
 rw [List.getElem?_append_right (by simp; omega)]
 have : k - ((l.take k).map g).length = 0 := by simp; omega
 rw [this,dropS h]
 rfl
theorem mix_set {k : Nat} {y : α} (h : l[k]? = some y) : (mixL f g l k).set k (g y) = mixL f g l (k + 1) := by
 obtain ⟨h1,h2⟩ := List.getElem?_eq_some_iff.1 h
 unfold mixL
 rw [dropS h,List.take_add_one,h]
 have e : ((l.take k).map g).length = k := by simp; omega
 rw [List.set_append_right _ _ (by omega),e]
 simp
end
theorem pat_bulk_pos (p : Pat) : 1 ≤ p.bulk := by
 have := p.bulk_eq
 omega
def zeroP : AV := .agg [.int .i64 0,.int .i64 0,.int .i64 0,.int .i64 0,.int .i64 0,.snil 6]
theorem clonePat_run : ∀ (n : Nat) (p : Pat),p.bulk ≤ n → n ≤ 2 ^ 24 → PRun CS 517 [encPat p] (encPat p) := by
 intro n
 induction n with
 | zero =>
  intro p h1 h2
  have := pat_bulk_pos p
  omega
 | succ n ih =>
  intro p h1 h2
  have L := Pat.lens (p := p) (N := 2 ^ 24) (by omega)
  have hal := L.args
  refine prun_of ac517 rfl ?_
  rw [encPat_eq]
  by_cases ha : p.a = []
  ·rw [ha,List.map_nil]
   (repeat' first | simp (disch := omega) only [go_sem,ac517,enter] | (refine call_of _ _ (cloneS0 (b := 64) rfl _) ?_) | (apply spl <;> intro h <;> try simp (disch := omega) only [go_sem,h]) | fail)
   refine loop_of (α := Unit) (fun _ => { tmps := slots 26 [(1,.ptr 6 0 0 0),(2,.ptr 6 1 0 0),(10,.int .i64 0),(11,.int .i64 0)],heap := [.row 6 [.agg [.int .i64 p.s.op,.int .i64 p.s.lo,.int .i64 p.s.hi,.int .i64 p.s.min,.int .i64 p.s.max,.snil 6]] false true 0,.row 6 [zeroP] false true 1],base := 0 }) (fun _ => True) (fun _ => 0) () rfl trivial ?_
   intro _ _
   (repeat' first | simp (disch := omega) only [go_sem,zeroP] | (apply spl <;> intro h <;> try simp (disch := omega) only [go_sem,h]) | fail)
  ·obtain ⟨z,zs,hz⟩ : ∃ z zs,p.a.map encPat = z :: zs := by
    cases h : p.a with
    | nil => exact (ha h).elim
    | cons a b => exact ⟨_,_,rfl⟩
   have hzl : zs.length + 1 = p.a.length := by
    have := congrArg List.length hz
    simp at this
    omega
   rw [hz]
   (repeat' first | simp (disch := omega) only [go_sem,ac517,enter] | (refine call_of _ _ (cloneS (b := 64) rfl (by decide) _ _ _ (by omega)) ?_) | (apply spl <;> intro h <;> try simp (disch := omega) only [go_sem,h]) | fail)
   refine loop_of (α := Nat) (fun k => { tmps := slots 26 [(1,.ptr 6 0 0 0),(2,.ptr 6 2 0 0),(10,.int .i64 (zs.length + 1)),(11,.int .i64 k)],heap := [.row 6 [.agg [.int .i64 p.s.op,.int .i64 p.s.lo,.int .i64 p.s.hi,.int .i64 p.s.min,.int .i64 p.s.max,.sref 6 1 0 (zs.length + 1)]] false false 0,.row 6 (z :: zs) false true 1,.row 6 [zeroP] false true 2],base := 0 }) (fun k => k ≤ p.a.length) (fun k => p.a.length - k) 0 rfl (Nat.zero_le _) ?_
   intro k hk
   by_cases hlt : k < p.a.length
   ·obtain ⟨y,hy⟩ := get_some hlt
    have hym := List.mem_of_getElem? hy
    have hy2 := map_get (g := encPat) hy
    have hr := ih y (by have := L.kids y hym; omega) (by omega)
    have hst : (z :: zs).set k (encPat y) = z :: zs := by
     rw [← hz]
     obtain ⟨q1,q2⟩ := List.getElem?_eq_some_iff.1 hy2
     rw [← q2]
     exact List.set_getElem_self q1
    rw [hz] at hy2
    rw [encPat_eq] at hy2 hr hst
    (repeat' first | simp (disch := omega) only [go_sem,hy2,hst,zeroP] | refine pure_of _ (hr) ?_ | (apply spl <;> intro h <;> try simp (disch := omega) only [go_sem,h]) | fail)
    all_goals first | omega | skip
    refine ⟨k + 1,?_,hlt,by omega⟩
    rfl
   ·(repeat' first | simp (disch := omega) only [go_sem,zeroP,List.take_length] | (apply spl <;> intro h <;> try simp (disch := omega) only [go_sem,h]) | fail)
    all_goals first | omega | skip

def layR : Nat → List (Nat × Bool × List AV) → List AV × Heap
 | _,[] => ([],[])
 | b,(n,true,_) :: l => (.snil n :: (layR b l).1,(layR b l).2)
 | b,(n,false,els) :: l => (.sref n b 0 els.length :: (layR (b + 1) l).1,.row n els false true b :: (layR (b + 1) l).2)
theorem layR_nil (b : Nat) : layR b [] = ([],[]) := (rfl)
theorem layR_t (b n : Nat) (e : List AV) (l : List (Nat × Bool × List AV)) : layR b ((n,true,e) :: l) = (.snil n :: (layR b l).1,(layR b l).2) := (rfl)
theorem layR_f (b n : Nat) (e : List AV) (l : List (Nat × Bool × List AV)) : layR b ((n,false,e) :: l) = (.sref n b 0 e.length :: (layR (b + 1) l).1,.row n e false true b :: (layR (b + 1) l).2) := (rfl)
def zeroQ : AV := .agg [.int .i64 0,.int .i64 0,.int .i64 0,.int .i64 0,.str [],.snil 11,.int .i64 0,.int .i64 0,.int .i64 0,.int .i64 0,.int .i64 0,.snil 6,.snil 13,.snil 17,.snil 15]
def clCells (x : Sch) (p v q a : AV) : List AV := [.int .i64 x.s.op,.int .i64 x.s.mask,.int .i64 x.s.min,.int .i64 x.s.max,.str x.s.name,p,.int .i64 x.s.pat.s.op,.int .i64 x.s.pat.s.lo,.int .i64 x.s.pat.s.hi,.int .i64 x.s.pat.s.min,.int .i64 x.s.pat.s.max,.tsl 6 (x.s.pat.a.map encPat),v,q,a]
def cloneM : Nat → Sch → Sch
 | 0,x => x
 | n + 1,x => .mk { x.s with vals := x.s.vals.map (cutV 65536) } (x.p.map fun k => (k.1,cloneM n k.2)) (x.a.map (cloneM n))
def clX (n : Nat) (x : Sch) : AV := encSch (cloneM n x)
def clPr (n : Nat) (k : PK × Sch) : AV := encPr (k.1,cloneM n k.2)
theorem clP_eq (n : Nat) (k : PK × Sch) : clPr n k = .agg (.str k.1.key :: .bool k.1.req :: (clX n k.2).cells) := (rfl)
theorem clone_eq (n : Nat) (x : Sch) : encSch (cloneM (n + 1) x) = .agg (clCells x (.tsl 11 (x.s.parts.map encPrt)) (.tsl 13 (x.s.vals.map (cutL 65536))) (.tsl 17 (x.p.map (clPr n))) (.tsl 15 (x.a.map (clX n)))) := by
 rw [encSch_eq]
 simp only [cloneM,Sch.s,Sch.p,Sch.a,List.map_map]
 rfl
def clSt (t : List (Nat × AV)) (pre : List (Nat × Bool × List AV)) (cells : List AV → List AV) : St :=
 { tmps := slots 82 ([(1,.ptr 15 0 0 0),(2,.ptr 15 ((layR 1 pre).2.length + 1) 0 0)] ++ t),heap := .row 15 [.agg (cells (layR 1 pre).1)] false (pre.all fun p => p.2.1) 0 :: (layR 1 pre).2 ++ [.row 15 [zeroQ] false true ((layR 1 pre).2.length + 1)],base := 0 }
end Ago
set_option maxRecDepth 100000
set_option maxHeartbeats 32000000
namespace Ago
open Go (IntKind)
theorem emp_cases {α : Type} (f : α → AV) (l : List α) : (l.map f = [] ∧ (l.map f).isEmpty = true ∧ l.length = 0) ∨ ∃ z zs,l.map f = z :: zs ∧ (l.map f).isEmpty = false ∧ l.length = zs.length + 1 := by
 cases l with
 | nil => exact .inl ⟨rfl,rfl,rfl⟩
 | cons z zs => exact .inr ⟨f z,zs.map f,rfl,rfl,by simp⟩
theorem cloneX_run : ∀ (n : Nat) (x : Sch),x.bulk ≤ n → n ≤ 2 ^ 24 → PRun CS 490 [encSch x] (encSch (cloneM n x)) := by
 intro n
 induction n with
 | zero =>
  intro x h1 h2
  have : 1 ≤ x.bulk := bulk_one _
  omega
 | succ n ih =>
  intro x h1 h2
  have L := Sch.lens (v := x) (N := 2 ^ 24) (by omega)
  have l1 := L.parts
  have l2 := L.vals
  have l3 := L.props
  have l4 := L.args
  have hpat := clonePat_run (2 ^ 24) x.s.pat (by have := L.pat; omega) (Nat.le_refl _)
  have tv : (x.s.vals.map (cutL 65536)).take x.s.vals.length = x.s.vals.map (cutL 65536) := List.take_of_length_le (by simp)
  have tq : (x.p.map (clPr n)).take x.p.length = x.p.map (clPr n) := List.take_of_length_le (by simp)
  have ta : (x.a.map (clX n)).take x.a.length = x.a.map (clX n) := List.take_of_length_le (by simp)
  have c1 := fun (H : Heap) (z : AV) (zs : List AV) (h : zs.length < 2 ^ 24) => cloneS (f := 216) (n := 11) (b := 104) rfl (by decide) H z zs h
  have c2 := fun (H : Heap) (z : AV) (zs : List AV) (h : zs.length < 2 ^ 24) => cloneS (f := 518) (n := 13) (b := 168) rfl (by decide) H z zs h
  have c3 := fun (H : Heap) (z : AV) (zs : List AV) (h : zs.length < 2 ^ 24) => cloneS (f := 519) (n := 17) (b := 232) rfl (by decide) H z zs h
  have c4 := fun (H : Heap) (z : AV) (zs : List AV) (h : zs.length < 2 ^ 24) => cloneS (f := 520) (n := 15) (b := 208) rfl (by decide) H z zs h
  have d1 := fun (H : Heap) => cloneS0 (f := 216) (n := 11) (b := 104) rfl H
  have d2 := fun (H : Heap) => cloneS0 (f := 518) (n := 13) (b := 168) rfl H
  have d3 := fun (H : Heap) => cloneS0 (f := 519) (n := 17) (b := 232) rfl H
  have d4 := fun (H : Heap) => cloneS0 (f := 520) (n := 15) (b := 208) rfl H
  have ml1 : (x.s.parts.map encPrt).length = x.s.parts.length := List.length_map ..
  have ml2 : (x.s.vals.map encV).length = x.s.vals.length := List.length_map ..
  have ml3 : (x.p.map encPr).length = x.p.length := List.length_map ..
  have ml4 : (x.a.map encSch).length = x.a.length := List.length_map ..
  rw [encPat_eq] at hpat
  rw [clone_eq]
  unfold clCells
  refine prun_of ac490 rfl ?_
  rw [encSch_eq]
  rcases emp_cases encPrt x.s.parts with ⟨hp,ep,np⟩ | ⟨p0,ps,hp,ep,np⟩ <;> rcases emp_cases encV x.s.vals with ⟨hv,ev,nv⟩ | ⟨v0,vs,hv,ev,nv⟩
  all_goals
   rw [hp,hv]
   (repeat' first | simp (disch := omega) only [go_sem,ac490,enter] | refine pure_of _ (hpat) ?_ | (refine call_of _ _ (d1 _) ?_) | (refine call_of _ _ (d2 _) ?_) | (refine call_of _ _ (c1 _ _ _ (by omega)) ?_) | (refine call_of _ _ (c2 _ _ _ (by omega)) ?_) | (apply spl <;> intro h <;> try simp (disch := omega) only [go_sem,h]) | fail)
   refine loop_of (α := Nat) (fun k => clSt [(22,.int .i64 x.s.vals.length),(23,.int .i64 k)] [(11,(x.s.parts.map encPrt).isEmpty,x.s.parts.map encPrt),(13,(x.s.vals.map encV).isEmpty,mixL encV (cutL 65536) x.s.vals k)] fun c => clCells x (c.getD 0 .dead) (c.getD 1 .dead) (.tsl 17 (x.p.map encPr)) (.tsl 15 (x.a.map encSch))) (fun k => k ≤ x.s.vals.length) (fun k => x.s.vals.length - k) 0 (by
    simp only [clSt,mix_zero,hp,hv,List.isEmpty_nil,List.isEmpty_cons,layR_nil,layR_t,layR_f,List.length_cons,List.length_nil,nv]
    rfl) (Nat.zero_le _) ?_
   intro k hk
   simp only [clSt,clCells,hp,ev,List.isEmpty_nil,List.isEmpty_cons,layR_nil,layR_t,layR_f,mix_len,List.length_cons,List.length_nil,List.getD_cons_zero,List.getD_cons_succ,List.all_cons,List.all_nil,Bool.and_true,Bool.and_false,Bool.true_and,List.cons_append,List.nil_append]
   by_cases hlt : k < x.s.vals.length
   ·first
     | (exfalso; omega)
     | (
      obtain ⟨y,hy⟩ := get_some hlt
      have hym := List.mem_of_getElem? hy
      have hy2 := mix_get (f := encV) (g := cutL 65536) hy
      have hst := mix_set (f := encV) (g := cutL 65536) hy
      have hr : PRun CS 26 [encV y] (cutL 65536 y) := upS (cutCopy_run y (by have := L.val y hym; omega))
      rw [cutL_eq] at hr hst
      rw [encV_eq] at hy2 hr
      (repeat' first | simp (disch := omega) only [go_sem,hy2,hst,mix_len,zeroQ] | refine pure_of _ (hr) ?_ | (apply spl <;> intro h <;> try simp (disch := omega) only [go_sem,h]) | fail)
      all_goals first | omega | skip
      exact ⟨k + 1,rfl,hlt,by omega⟩)
   ·have hk2 : k = x.s.vals.length := by omega
    subst hk2
    try rw [mix_all (Nat.le_refl _)]
    rcases emp_cases encPr x.p with ⟨hq,eq,nq⟩ | ⟨q0,qs,hq,eq,nq⟩
    all_goals
     rw [hq]
     (repeat' first | simp (disch := omega) only [go_sem,zeroQ] | (refine call_of _ _ (d3 _) ?_) | (refine call_of _ _ (c3 _ _ _ (by omega)) ?_) | (apply spl <;> intro h <;> try simp (disch := omega) only [go_sem,h]) | fail)
     refine loop_of (α := Nat) (fun k => clSt [(43,.int .i64 x.p.length),(44,.int .i64 k)] [(11,(x.s.parts.map encPrt).isEmpty,x.s.parts.map encPrt),(13,(x.s.vals.map encV).isEmpty,x.s.vals.map (cutL 65536)),(17,(x.p.map encPr).isEmpty,mixL encPr (clPr n) x.p k)] fun c => clCells x (c.getD 0 .dead) (c.getD 1 .dead) (c.getD 2 .dead) (.tsl 15 (x.a.map encSch))) (fun k => k ≤ x.p.length) (fun k => x.p.length - k) 0 (by
      simp only [clSt,mix_zero,hp,ev,hq,List.isEmpty_nil,List.isEmpty_cons,layR_nil,layR_t,layR_f,List.length_cons,List.length_nil,List.length_map,nq]
      rfl) (Nat.zero_le _) ?_
     clear hlt hk
     intro k hk
     simp only [clSt,clCells,eq,hp,ep,ev,List.isEmpty_nil,List.isEmpty_cons,layR_nil,layR_t,layR_f,mix_len,List.length_cons,List.length_nil,List.length_map,List.getD_cons_zero,List.getD_cons_succ,List.all_cons,List.all_nil,Bool.and_true,Bool.and_false,Bool.true_and,Bool.false_and,List.cons_append,List.nil_append]
     by_cases hlt : k < x.p.length
     ·first
       | (exfalso; omega)
       | (
        obtain ⟨y,hy⟩ := get_some hlt
        have hym := List.mem_of_getElem? hy
        have hy2 := mix_get (f := encPr) (g := clPr n) hy
        have hst := mix_set (f := encPr) (g := clPr n) hy
        have hr : PRun CS 490 [encSch y.2] (clX n y.2) := ih y.2 (by have := (L.pkids y hym).1; omega) (by omega)
        rw [clP_eq] at hst
        obtain ⟨cs,hcs⟩ : ∃ cs,clX n y.2 = encSch cs := ⟨_,rfl⟩
        rw [hcs,encSch_eq] at hst hr
        simp only [AV.cells] at hst
        rw [encPr_eq] at hy2
        rw [encSch_eq] at hr
        (repeat' first | simp (disch := omega) only [go_sem,hy2,hst,mix_len,zeroQ] | refine pure_of _ (hr) ?_ | (apply spl <;> intro h <;> try simp (disch := omega) only [go_sem,h]) | fail)
        all_goals first | omega | skip
        exact ⟨k + 1,rfl,hlt,by omega⟩)
     ·have hk2 : k = x.p.length := by omega
      subst hk2
      try rw [mix_all (Nat.le_refl _)]
      rcases emp_cases encSch x.a with ⟨ha,ea,na⟩ | ⟨a0,as_,ha,ea,na⟩
      all_goals
       rw [ha]
       (repeat' first | simp (disch := omega) only [go_sem,zeroQ] | (refine call_of _ _ (d4 _) ?_) | (refine call_of _ _ (c4 _ _ _ (by omega)) ?_) | (apply spl <;> intro h <;> try simp (disch := omega) only [go_sem,h]) | fail)
       refine loop_of (α := Nat) (fun k => clSt [(66,.int .i64 x.a.length),(67,.int .i64 k)] [(11,(x.s.parts.map encPrt).isEmpty,x.s.parts.map encPrt),(13,(x.s.vals.map encV).isEmpty,x.s.vals.map (cutL 65536)),(17,(x.p.map encPr).isEmpty,x.p.map (clPr n)),(15,(x.a.map encSch).isEmpty,mixL encSch (clX n) x.a k)] fun c => clCells x (c.getD 0 .dead) (c.getD 1 .dead) (c.getD 2 .dead) (c.getD 3 .dead)) (fun k => k ≤ x.a.length) (fun k => x.a.length - k) 0 (by
        simp only [clSt,mix_zero,hp,ev,eq,ha,List.isEmpty_nil,List.isEmpty_cons,layR_nil,layR_t,layR_f,List.length_cons,List.length_nil,List.length_map,na]
        rfl) (Nat.zero_le _) ?_
       clear hlt hk
       intro k hk
       simp only [clSt,clCells,eq,ea,hp,ep,ev,List.isEmpty_nil,List.isEmpty_cons,layR_nil,layR_t,layR_f,mix_len,List.length_cons,List.length_nil,List.length_map,List.getD_cons_zero,List.getD_cons_succ,List.all_cons,List.all_nil,Bool.and_true,Bool.and_false,Bool.true_and,Bool.false_and,List.cons_append,List.nil_append]
       by_cases hlt : k < x.a.length
       ·first
         | (exfalso; omega)
         | (
          obtain ⟨y,hy⟩ := get_some hlt
          have hym := List.mem_of_getElem? hy
          have hy2 := mix_get (f := encSch) (g := clX n) hy
          have hst := mix_set (f := encSch) (g := clX n) hy
          have hr : PRun CS 490 [encSch y] (clX n y) := ih y (by have := L.kids y hym; omega) (by omega)
          obtain ⟨cs,hcs⟩ : ∃ cs,clX n y = encSch cs := ⟨_,rfl⟩
          rw [hcs,encSch_eq] at hst hr
          rw [encSch_eq] at hy2 hr
          (repeat' first | simp (disch := omega) only [go_sem,hy2,hst,mix_len,zeroQ] | refine pure_of _ (hr) ?_ | (apply spl <;> intro h <;> try simp (disch := omega) only [go_sem,h]) | fail)
          all_goals first | omega | skip
          exact ⟨k + 1,rfl,hlt,by omega⟩)
       ·have hk2 : k = x.a.length := by omega
        subst hk2
        try rw [mix_all (Nat.le_refl _)]
        try rw [show x.s.vals.map (cutL 65536) = [] from List.map_eq_nil_iff.2 (List.length_eq_zero_iff.1 (by omega))]
        try rw [show x.p.map (clPr n) = [] from List.map_eq_nil_iff.2 (List.length_eq_zero_iff.1 (by omega))]
        try rw [show x.a.map (clX n) = [] from List.map_eq_nil_iff.2 (List.length_eq_zero_iff.1 (by omega))]
        (repeat' first | simp (disch := omega) only [go_sem,zeroQ,tv,tq,ta,List.take_length,List.length_map] | (apply spl <;> intro h <;> try simp (disch := omega) only [go_sem,h]) | fail)
def zeroX : Sch := .mk ⟨0,0,0,0,[],[],.mk ⟨0,0,0,0,0⟩ [],[]⟩ [] []
theorem zeroX_eq : encSch zeroX = .agg [.int .i64 0,.int .i64 0,.int .i64 0,.int .i64 0,.str [],.tsl 11 [],.int .i64 0,.int .i64 0,.int .i64 0,.int .i64 0,.int .i64 0,.tsl 6 [],.tsl 13 [],.tsl 17 [],.tsl 15 []] := by
 rw [encSch_eq]
 rfl
end Ago
set_option maxRecDepth 100000
set_option maxHeartbeats 8000000
namespace Ago
open Go (IntKind)
theorem Schs.dlen {s : Schs} {N : Nat} (hs : s.bulk ≤ N) : s.defs.length < N ∧ ∀ d,d ∈ s.defs → d.2.bulk < s.bulk ∧ d.1.length < N := by
 have e := s.bulk_eq
 have h1 := bulks_len (s.defs.map encDef)
 rw [List.length_map] at h1
 have : 1 ≤ s.root.bulk := bulk_one _
 refine ⟨by omega,fun d hd => ?_⟩
 have := bulks_mem (List.mem_map_of_mem (f := encDef) hd)
 rw [encDef_bulk] at this
 have : 1 ≤ d.2.bulk := bulk_one _
 omega
def zeroSl : AV := .agg [.int .i64 0,.int .i64 0,.int .i64 0,.int .i64 0,.str [],.snil 11,.int .i64 0,.int .i64 0,.int .i64 0,.int .i64 0,.int .i64 0,.snil 6,.snil 13,.snil 17,.snil 15]
def lkM (s : Schs) (name : List UInt8) : Sch × Bool := match s.defs.find? fun d => d.1 == name with
 | some d => (d.2,true)
 | none => (zeroX,false)
theorem find_at {α : Type} {p : α → Bool} {l : List α} {k : Nat} {y : α} (hy : l[k]? = some y) (ha : (l.take k).any p = false) (hp : p y = true) : l.find? p = some y := by
 have h1 : l = l.take k ++ y :: l.drop (k + 1) := by rw [← dropS hy,List.take_append_drop]
 rw [h1,List.find?_append]
 have h2 : (l.take k).find? p = none := by
  rw [List.find?_eq_none]
  intro x hx hpx
  have := List.any_eq_true.2 ⟨x,hx,hpx⟩
  rw [ha] at this
  cases this
 rw [h2]
 simp [hp]
theorem find_none {α : Type} {p : α → Bool} {l : List α} (ha : l.any p = false) : l.find? p = none := by
 rw [List.find?_eq_none]
 intro x hx hpx
 have := List.any_eq_true.2 ⟨x,hx,hpx⟩
 rw [ha] at this
 cases this
theorem refLookup_run (s : Schs) (name : List UInt8) (hs : s.bulk ≤ 2 ^ 24) : PRun CS 458 [encSchs s,.str name] (.tup [encSch (lkM s name).1,.bool (lkM s name).2]) := by
 have hd := (Schs.dlen hs).1
 refine prun_of ac458 rfl ?_
 rw [encSchs_eq]
 (repeat' first | simp (disch := omega) only [go_sem,ac458,enter,List.length_map] | (apply spl <;> intro h <;> try simp (disch := omega) only [go_sem,h]) | fail)
 refine loop_of (α := Nat) (fun k => { tmps := slots 29 [(1,.str name),(2,.ptr 16 0 0 0),(4,.ptr 15 1 0 0),(6,.int .i64 k)],heap := [.row 16 [encSchs s] false true 0,.row 15 [zeroSl] false true 1],base := 0 }) (fun k => k ≤ s.defs.length ∧ (s.defs.take k).any (fun d => d.1 == name) = false) (fun k => s.defs.length - k) 0 (by rw [encSchs_eq]; rfl) ⟨Nat.zero_le _,rfl⟩ ?_
 rintro k ⟨hk,ha⟩
 rw [encSchs_eq]
 by_cases hlt : k < s.defs.length
 ·obtain ⟨d,hdk⟩ := get_some hlt
  have hd2 := map_get (g := encDef) hdk
  rw [encDef_eq] at hd2
  cases hb : d.1 == name with
  | true =>
   have hf := find_at hdk ha hb
   have hl : lkM s name = (d.2,true) := by unfold lkM; rw [hf]
   rw [hl,encSch_eq]
   (repeat' first | simp (disch := omega) only [go_sem,hd2,hb,List.length_map,zeroSl] | (apply spl <;> intro h <;> try simp (disch := omega) only [go_sem,h]) | fail)
  | false =>
   (repeat' first | simp (disch := omega) only [go_sem,hd2,hb,List.length_map,zeroSl] | (apply spl <;> intro h <;> try simp (disch := omega) only [go_sem,h]) | fail)
   all_goals try omega
   refine ⟨k + 1,?_,⟨hlt,take_any hdk ha hb⟩,by omega⟩
   first | rfl | (rw [encSchs_eq s]; rfl)
 ·rw [take_len hlt hk] at ha
  have hf := find_none ha
  have hl : lkM s name = (zeroX,false) := by unfold lkM; rw [hf]
  rw [hl,zeroX_eq]
  (repeat' first | simp (disch := omega) only [go_sem,List.length_map,zeroSl] | (apply spl <;> intro h <;> try simp (disch := omega) only [go_sem,h]) | fail)
theorem has_run (l : List (List UInt8)) (s : List UInt8) (hl : l.length < 2 ^ 30) : PRun CS 492 [.tsl 1 (l.map .str),.str s] (.bool (l.any fun x => x == s)) := by
 refine prun_of ac492 rfl ?_
 (repeat' first | simp (disch := omega) only [go_sem,ac492,enter,List.length_map] | (apply spl <;> intro h <;> try simp (disch := omega) only [go_sem,h]) | fail)
 refine loop_of (α := Nat) (fun k => { tmps := slots 18 [(0,.tsl 1 (l.map .str)),(1,.str s),(5,.int .i64 k)],heap := [],base := 0 }) (fun k => k ≤ l.length ∧ (l.take k).any (fun x => x == s) = false) (fun k => l.length - k) 0 rfl ⟨Nat.zero_le _,rfl⟩ ?_
 rintro k ⟨hk,ha⟩
 by_cases hlt : k < l.length
 ·obtain ⟨y,hy⟩ := get_some hlt
  have hy2 := map_get (g := AV.str) hy
  cases hb : y == s with
  | true =>
   rw [any_at hy hb]
   (repeat' first | simp (disch := omega) only [go_sem,hy2,hb,List.length_map] | (apply spl <;> intro h <;> try simp (disch := omega) only [go_sem,h]) | fail)
   all_goals omega
  | false =>
   (repeat' first | simp (disch := omega) only [go_sem,hy2,hb,List.length_map] | (apply spl <;> intro h <;> try simp (disch := omega) only [go_sem,h]) | fail)
   all_goals try omega
   exact ⟨k + 1,rfl,⟨hlt,take_any hy ha hb⟩,by omega⟩
 ·rw [take_len hlt hk] at ha
  rw [ha]
  (repeat' first | simp (disch := omega) only [go_sem,List.length_map] | (apply spl <;> intro h <;> try simp (disch := omega) only [go_sem,h]) | fail)
def dupGo : List (List UInt8) → List (List UInt8) → Bool
 | _,[] => false
 | seen,y :: l => seen.any (fun x => x == y) || dupGo (seen ++ [y]) l
def dupM (l : List (List UInt8)) : Bool := dupGo [] l
theorem dup_step {l : List (List UInt8)} {k : Nat} {y : List UInt8} (hy : l[k]? = some y) : dupGo (l.take k) (l.drop k) = ((l.take k).any (fun x => x == y) || dupGo (l.take (k + 1)) (l.drop (k + 1))) := by
 rw [dropS hy]
 have : l.take (k + 1) = l.take k ++ [y] := by rw [List.take_add_one,hy]; rfl
 rw [this]
 rfl
def nodeM (s : Schs) (x : Sch) : Int :=
 if formM x = false then 1 else if x.s.op = 7 ∧ knownM x.s.name = false then 7 else if x.s.op = 14 ∧ (lkM s x.s.name).2 = false then 7 else if dupM (x.p.map fun p => p.1.key) = true then 8 else 0
def keysP (x : Sch) : List (List UInt8) := x.p.map fun p => p.1.key
theorem Lookup_run (s : Schs) (name : List UInt8) (hs : s.bulk ≤ 2 ^ 24) : PRun CS 457 [encSchs s,.str name] (.tup [encSch (if (lkM s name).2 = true then cloneM (2 ^ 24) (lkM s name).1 else zeroX),.bool (lkM s name).2]) := by
 have hd := Schs.dlen hs
 obtain ⟨hd,hd2⟩ := hd
 refine prun_of ac457 rfl ?_
 rw [encSchs_eq]
 (repeat' first | simp (disch := omega) only [go_sem,ac457,enter,List.length_map] | (apply spl <;> intro h <;> try simp (disch := omega) only [go_sem,h]) | fail)
 refine loop_of (α := Nat) (fun k => { tmps := slots 24 [(1,.str name),(4,.ptr 15 0 0 0),(9,.tsl 16 (s.defs.map encDef)),(10,.int .i64 s.defs.length),(11,.int .i64 k)],heap := [.row 15 [zeroSl] false true 0],base := 0 }) (fun k => k ≤ s.defs.length ∧ (s.defs.take k).any (fun d => d.1 == name) = false) (fun k => s.defs.length - k) 0 rfl ⟨Nat.zero_le _,rfl⟩ ?_
 rintro k ⟨hk,ha⟩
 by_cases hlt : k < s.defs.length
 ·obtain ⟨d,hdk⟩ := get_some hlt
  have hdm := List.mem_of_getElem? hdk
  have hde := map_get (g := encDef) hdk
  have hr := cloneX_run (2 ^ 24) d.2 (by have := (hd2 d hdm).1; omega) (Nat.le_refl _)
  rw [encDef_eq] at hde
  cases hb : d.1 == name with
  | true =>
   have hf := find_at hdk ha hb
   have hl : lkM s name = (d.2,true) := by unfold lkM; rw [hf]
   rw [hl,if_pos rfl]
   rw [encSch_eq (cloneM _ _)] at hr ⊢
   rw [encSch_eq] at hr
   (repeat' first | simp (disch := omega) only [go_sem,hde,hb,List.length_map,zeroSl] | refine pure_of _ (hr) ?_ | (apply spl <;> intro h <;> try simp (disch := omega) only [go_sem,h]) | fail)
  | false =>
   (repeat' first | simp (disch := omega) only [go_sem,hde,hb,List.length_map,zeroSl] | (apply spl <;> intro h <;> try simp (disch := omega) only [go_sem,h]) | fail)
   all_goals try omega
   exact ⟨k + 1,rfl,⟨hlt,take_any hdk ha hb⟩,by omega⟩
 ·rw [take_len hlt hk] at ha
  have hf := find_none ha
  have hl : lkM s name = (zeroX,false) := by unfold lkM; rw [hf]
  rw [hl,if_neg (by simp),zeroX_eq]
  (repeat' first | simp (disch := omega) only [go_sem,List.length_map,zeroSl] | (apply spl <;> intro h <;> try simp (disch := omega) only [go_sem,h]) | fail)
end Ago
set_option maxRecDepth 100000
set_option maxHeartbeats 16000000
namespace Ago
open Go (IntKind)
theorem keysP_len (x : Sch) : (keysP x).length = x.p.length := List.length_map ..
theorem keysP_get {x : Sch} {k : Nat} {y : PK × Sch} (hy : x.p[k]? = some y) : (keysP x)[k]? = some y.1.key := map_get (g := fun p : PK × Sch => p.1.key) hy
theorem dup_end {l : List (List UInt8)} {k : Nat} (h : l.length ≤ k) (hd : dupM l = dupGo (l.take k) (l.drop k)) : dupM l = false := by
 rw [hd,List.drop_of_length_le h]
 rfl
theorem refNode_run (s : Schs) (x : Sch) (hs : s.bulk ≤ 2 ^ 24) (hx : x.bulk ≤ 2 ^ 24) : PRun CS 516 [encSchs s,encSch x] (.int .i64 (nodeM s x)) := by
 have L := Sch.lens (N := 2 ^ 24) hx
 have l3 := L.props
 have hkn : nodeM s x = if formM x = false then 1 else if x.s.op = 7 ∧ knownM x.s.name = false then 7 else if x.s.op = 14 ∧ (lkM s x.s.name).2 = false then 7 else if dupM (keysP x) = true then 8 else 0 := rfl
 have hf := refForm_run x hx
 have hk := refKnown_run x.s.name
 have hl := refLookup_run s x.s.name hs
 refine prun_of ac516 rfl ?_
 rw [encSch_eq (lkM s x.s.name).1] at hl
 rw [encSchs_eq] at hl ⊢
 cases hb : formM x
 ·rw [hb] at hf
  rw [hkn,if_pos hb]
  rw [encSch_eq] at hf ⊢
  (repeat' first | simp (disch := omega) only [go_sem,ac516,enter] | refine pure_of _ (hf) ?_ | (apply spl <;> intro h <;> try simp (disch := omega) only [go_sem,h]) | fail)
 rw [hb] at hf
 rw [if_neg (by rw [hb]; simp)] at hkn
 rw [encSch_eq] at hf ⊢
 by_cases c7 : x.s.op = 7 ∧ knownM x.s.name = false
 ·rw [hkn,if_pos c7]
  obtain ⟨c7,c7'⟩ := c7
  rw [c7'] at hk
  (repeat' first | simp (disch := omega) only [go_sem,ac516,enter] | refine pure_of _ (hf) ?_ | refine pure_of _ (hk) ?_ | (apply spl <;> intro h <;> try simp (disch := omega) only [go_sem,h]) | fail)
 rw [if_neg c7] at hkn
 by_cases c14 : x.s.op = 14 ∧ (lkM s x.s.name).2 = false
 ·rw [hkn,if_pos c14]
  obtain ⟨c14,c14'⟩ := c14
  rw [c14'] at hl
  (repeat' first | simp (disch := omega) only [go_sem,ac516,enter] | refine pure_of _ (hf) ?_ | refine pure_of _ (hk) ?_ | refine pure_of _ (hl) ?_ | (apply spl <;> intro h <;> try simp (disch := omega) only [go_sem,h]) | fail)
 rw [if_neg c14] at hkn
 rw [hkn]
 have hkk : x.s.op = 7 → knownM x.s.name = true := fun h => by
  cases q : knownM x.s.name with
  | true => rfl
  | false => exact (c7 ⟨h,q⟩).elim
 have hll : x.s.op = 14 → (lkM s x.s.name).2 = true := fun h => by
  cases q : (lkM s x.s.name).2 with
  | true => rfl
  | false => exact (c14 ⟨h,q⟩).elim
 by_cases h7 : x.s.op = 7
 ·rw [hkk h7] at hk
  (repeat' first | simp (disch := omega) only [go_sem,ac516,enter] | refine pure_of _ (hf) ?_ | refine pure_of _ (hk) ?_ | refine pure_of _ (hl) ?_ | (apply spl <;> intro h <;> try simp (disch := omega) only [go_sem,h]) | fail)
  refine loop_of (α := Nat) (fun k => { tmps := slots 57 [(3,.ptr 15 0 0 0),(7,outSl 1 1 (((keysP x).take k).map .str)),(8,.int .i64 k)],heap := [.row 15 [encSch x] false true 0] ++ outHp 1 1 (((keysP x).take k).map .str),base := 0 }) (fun k => k ≤ x.p.length ∧ dupM (keysP x) = dupGo ((keysP x).take k) ((keysP x).drop k)) (fun k => x.p.length - k) 0 (by rw [encSch_eq]; rfl) ⟨Nat.zero_le _,rfl⟩ ?_
  rintro k ⟨hk,hd⟩
  rw [encSch_eq]
  obtain ⟨out,hout⟩ : ∃ out,((keysP x).take k).map AV.str = out := ⟨_,rfl⟩
  have hol : out.length = k := by
   rw [← hout,List.length_map,List.length_take,keysP_len]
   omega
  by_cases hlt : k < x.p.length
  ·obtain ⟨y,hy⟩ := get_some hlt
   have hy2 := map_get (g := encPr) hy
   have hy3 := keysP_get hy
   rw [encPr_eq] at hy2
   have hr := has_run ((keysP x).take k) y.1.key (by rw [List.length_take]; omega)
   rw [hout] at hr
   rw [dup_step hy3] at hd
   have hnew : ((keysP x).take (k + 1)).map AV.str = out ++ [.str y.1.key] := by
    rw [List.take_add_one,hy3,← hout]
    simp
   rw [hout]
   cases hc : ((keysP x).take k).any (fun z => z == y.1.key) with
   | true =>
    rw [hc] at hr hd
    rw [Bool.true_or] at hd
    rw [hd,if_pos rfl]
    cases out with
    | nil => (repeat' first | simp (disch := omega) only [go_sem,hy2,List.length_map,outSl,outHp] | refine pure_of _ (hr) ?_ | (apply spl <;> intro h <;> try simp (disch := omega) only [go_sem,h]) | fail)
    | cons z zs =>
     simp only [List.length_cons] at hol
     (repeat' first | simp (disch := omega) only [go_sem,hy2,List.length_map,outSl,outHp,List.take_length] | refine pure_of _ (hr) ?_ | (apply spl <;> intro h <;> try simp (disch := omega) only [go_sem,h]) | fail)
   | false =>
    rw [hc] at hr hd
    rw [Bool.false_or] at hd
    cases out with
    | nil =>
     (repeat' first | simp (disch := omega) only [go_sem,hy2,List.length_map,outSl,outHp] | refine pure_of _ (hr) ?_ | (apply spl <;> intro h <;> try simp (disch := omega) only [go_sem,h]) | fail)
     all_goals first | omega | skip
     refine ⟨k + 1,?_,⟨hlt,hd⟩,by omega⟩
     simp only [hnew]
     first | rfl | (rw [encSch_eq x]; rfl)
    | cons z zs =>
     simp only [List.length_cons] at hol
     (repeat' first | simp (disch := omega) only [go_sem,hy2,List.length_map,outSl,outHp,List.take_length] | refine pure_of _ (hr) ?_ | (apply spl <;> intro h <;> try simp (disch := omega) only [go_sem,h]) | fail)
     all_goals first | omega | skip
     refine ⟨k + 1,?_,⟨hlt,hd⟩,by omega⟩
     simp only [hnew,List.cons_append,outSl,outHp,List.length_append,List.length_cons,List.length_nil]
     first | rfl | (rw [encSch_eq x]; rfl)
  ·rw [dup_end (by rw [keysP_len]; omega) hd,if_neg (by simp),hout]
   cases out with
   | nil => (repeat' first | simp (disch := omega) only [go_sem,List.length_map,outSl,outHp] | (apply spl <;> intro h <;> try simp (disch := omega) only [go_sem,h]) | fail)
   | cons z zs => (repeat' first | simp (disch := omega) only [go_sem,List.length_map,outSl,outHp] | (apply spl <;> intro h <;> try simp (disch := omega) only [go_sem,h]) | fail)
 ·by_cases h14 : x.s.op = 14
  ·rw [hll h14] at hl
   (repeat' first | simp (disch := omega) only [go_sem,ac516,enter] | refine pure_of _ (hf) ?_ | refine pure_of _ (hk) ?_ | refine pure_of _ (hl) ?_ | (apply spl <;> intro h <;> try simp (disch := omega) only [go_sem,h]) | fail)
   refine loop_of (α := Nat) (fun k => { tmps := slots 57 [(3,.ptr 15 0 0 0),(7,outSl 1 1 (((keysP x).take k).map .str)),(8,.int .i64 k)],heap := [.row 15 [encSch x] false true 0] ++ outHp 1 1 (((keysP x).take k).map .str),base := 0 }) (fun k => k ≤ x.p.length ∧ dupM (keysP x) = dupGo ((keysP x).take k) ((keysP x).drop k)) (fun k => x.p.length - k) 0 (by rw [encSch_eq]; rfl) ⟨Nat.zero_le _,rfl⟩ ?_
   rintro k ⟨hk,hd⟩
   rw [encSch_eq]
   obtain ⟨out,hout⟩ : ∃ out,((keysP x).take k).map AV.str = out := ⟨_,rfl⟩
   have hol : out.length = k := by
    rw [← hout,List.length_map,List.length_take,keysP_len]
    omega
   by_cases hlt : k < x.p.length
   ·obtain ⟨y,hy⟩ := get_some hlt
    have hy2 := map_get (g := encPr) hy
    have hy3 := keysP_get hy
    rw [encPr_eq] at hy2
    have hr := has_run ((keysP x).take k) y.1.key (by rw [List.length_take]; omega)
    rw [hout] at hr
    rw [dup_step hy3] at hd
    have hnew : ((keysP x).take (k + 1)).map AV.str = out ++ [.str y.1.key] := by
     rw [List.take_add_one,hy3,← hout]
     simp
    rw [hout]
    cases hc : ((keysP x).take k).any (fun z => z == y.1.key) with
    | true =>
     rw [hc] at hr hd
     rw [Bool.true_or] at hd
     rw [hd,if_pos rfl]
     cases out with
     | nil => (repeat' first | simp (disch := omega) only [go_sem,hy2,List.length_map,outSl,outHp] | refine pure_of _ (hr) ?_ | (apply spl <;> intro h <;> try simp (disch := omega) only [go_sem,h]) | fail)
     | cons z zs =>
      simp only [List.length_cons] at hol
      (repeat' first | simp (disch := omega) only [go_sem,hy2,List.length_map,outSl,outHp,List.take_length] | refine pure_of _ (hr) ?_ | (apply spl <;> intro h <;> try simp (disch := omega) only [go_sem,h]) | fail)
    | false =>
     rw [hc] at hr hd
     rw [Bool.false_or] at hd
     cases out with
     | nil =>
      (repeat' first | simp (disch := omega) only [go_sem,hy2,List.length_map,outSl,outHp] | refine pure_of _ (hr) ?_ | (apply spl <;> intro h <;> try simp (disch := omega) only [go_sem,h]) | fail)
      all_goals first | omega | skip
      refine ⟨k + 1,?_,⟨hlt,hd⟩,by omega⟩
      simp only [hnew]
      first | rfl | (rw [encSch_eq x]; rfl)
     | cons z zs =>
      simp only [List.length_cons] at hol
      (repeat' first | simp (disch := omega) only [go_sem,hy2,List.length_map,outSl,outHp,List.take_length] | refine pure_of _ (hr) ?_ | (apply spl <;> intro h <;> try simp (disch := omega) only [go_sem,h]) | fail)
      all_goals first | omega | skip
      refine ⟨k + 1,?_,⟨hlt,hd⟩,by omega⟩
      simp only [hnew,List.cons_append,outSl,outHp,List.length_append,List.length_cons,List.length_nil]
      first | rfl | (rw [encSch_eq x]; rfl)
   ·rw [dup_end (by rw [keysP_len]; omega) hd,if_neg (by simp),hout]
    cases out with
    | nil => (repeat' first | simp (disch := omega) only [go_sem,List.length_map,outSl,outHp] | (apply spl <;> intro h <;> try simp (disch := omega) only [go_sem,h]) | fail)
    | cons z zs => (repeat' first | simp (disch := omega) only [go_sem,List.length_map,outSl,outHp] | (apply spl <;> intro h <;> try simp (disch := omega) only [go_sem,h]) | fail)
  ·(repeat' first | simp (disch := omega) only [go_sem,ac516,enter] | refine pure_of _ (hf) ?_ | refine pure_of _ (hk) ?_ | refine pure_of _ (hl) ?_ | (apply spl <;> intro h <;> try simp (disch := omega) only [go_sem,h]) | fail)
   refine loop_of (α := Nat) (fun k => { tmps := slots 57 [(3,.ptr 15 0 0 0),(7,outSl 1 1 (((keysP x).take k).map .str)),(8,.int .i64 k)],heap := [.row 15 [encSch x] false true 0] ++ outHp 1 1 (((keysP x).take k).map .str),base := 0 }) (fun k => k ≤ x.p.length ∧ dupM (keysP x) = dupGo ((keysP x).take k) ((keysP x).drop k)) (fun k => x.p.length - k) 0 (by rw [encSch_eq]; rfl) ⟨Nat.zero_le _,rfl⟩ ?_
   rintro k ⟨hk,hd⟩
   rw [encSch_eq]
   obtain ⟨out,hout⟩ : ∃ out,((keysP x).take k).map AV.str = out := ⟨_,rfl⟩
   have hol : out.length = k := by
    rw [← hout,List.length_map,List.length_take,keysP_len]
    omega
   by_cases hlt : k < x.p.length
   ·obtain ⟨y,hy⟩ := get_some hlt
    have hy2 := map_get (g := encPr) hy
    have hy3 := keysP_get hy
    rw [encPr_eq] at hy2
    have hr := has_run ((keysP x).take k) y.1.key (by rw [List.length_take]; omega)
    rw [hout] at hr
    rw [dup_step hy3] at hd
    have hnew : ((keysP x).take (k + 1)).map AV.str = out ++ [.str y.1.key] := by
     rw [List.take_add_one,hy3,← hout]
     simp
    rw [hout]
    cases hc : ((keysP x).take k).any (fun z => z == y.1.key) with
    | true =>
     rw [hc] at hr hd
     rw [Bool.true_or] at hd
     rw [hd,if_pos rfl]
     cases out with
     | nil => (repeat' first | simp (disch := omega) only [go_sem,hy2,List.length_map,outSl,outHp] | refine pure_of _ (hr) ?_ | (apply spl <;> intro h <;> try simp (disch := omega) only [go_sem,h]) | fail)
     | cons z zs =>
      simp only [List.length_cons] at hol
      (repeat' first | simp (disch := omega) only [go_sem,hy2,List.length_map,outSl,outHp,List.take_length] | refine pure_of _ (hr) ?_ | (apply spl <;> intro h <;> try simp (disch := omega) only [go_sem,h]) | fail)
    | false =>
     rw [hc] at hr hd
     rw [Bool.false_or] at hd
     cases out with
     | nil =>
      (repeat' first | simp (disch := omega) only [go_sem,hy2,List.length_map,outSl,outHp] | refine pure_of _ (hr) ?_ | (apply spl <;> intro h <;> try simp (disch := omega) only [go_sem,h]) | fail)
      all_goals first | omega | skip
      refine ⟨k + 1,?_,⟨hlt,hd⟩,by omega⟩
      simp only [hnew]
      first | rfl | (rw [encSch_eq x]; rfl)
     | cons z zs =>
      simp only [List.length_cons] at hol
      (repeat' first | simp (disch := omega) only [go_sem,hy2,List.length_map,outSl,outHp,List.take_length] | refine pure_of _ (hr) ?_ | (apply spl <;> intro h <;> try simp (disch := omega) only [go_sem,h]) | fail)
      all_goals first | omega | skip
      refine ⟨k + 1,?_,⟨hlt,hd⟩,by omega⟩
      simp only [hnew,List.cons_append,outSl,outHp,List.length_append,List.length_cons,List.length_nil]
      first | rfl | (rw [encSch_eq x]; rfl)
   ·rw [dup_end (by rw [keysP_len]; omega) hd,if_neg (by simp),hout]
    cases out with
    | nil => (repeat' first | simp (disch := omega) only [go_sem,List.length_map,outSl,outHp] | (apply spl <;> intro h <;> try simp (disch := omega) only [go_sem,h]) | fail)
    | cons z zs => (repeat' first | simp (disch := omega) only [go_sem,List.length_map,outSl,outHp] | (apply spl <;> intro h <;> try simp (disch := omega) only [go_sem,h]) | fail)
end Ago
set_option maxRecDepth 100000
set_option maxHeartbeats 16000000
namespace Ago
open Go (IntKind)
def firstE : List Int → Int
 | [] => 0
 | e :: l => if e = 0 then firstE l else e
theorem firstE_at {α : Type} {f : α → Int} : ∀ {l : List α} {k : Nat} {y : α},l[k]? = some y → (l.take k).all (fun z => f z == 0) = true → f y ≠ 0 → firstE (l.map f) = f y
 | [],_,_,h,_,_ => by simp at h
 | z :: l,0,y,h,_,he => by
  simp at h
  subst h
  simp [firstE,he]
 | z :: l,k + 1,y,h,ha,he => by
  simp only [List.take_succ_cons,List.all_cons,Bool.and_eq_true,beq_iff_eq] at ha
  simp only [List.map_cons,firstE]
  rw [if_pos ha.1]
  exact firstE_at (by simpa using h) ha.2 he
theorem firstE_zero {α : Type} {f : α → Int} : ∀ {l : List α},l.all (fun z => f z == 0) = true → firstE (l.map f) = 0
 | [],_ => rfl
 | z :: l,ha => by
  simp only [List.all_cons,Bool.and_eq_true,beq_iff_eq] at ha
  simp only [List.map_cons,firstE]
  rw [if_pos ha.1]
  exact firstE_zero ha.2
def nodesM (s : Schs) : Nat → Sch → Int
 | 0,_ => 0
 | d + 1,x => if nodeM s x = 0 then firstE (x.kids.map (nodesM s d)) else nodeM s x
theorem nodesM_zero (s : Schs) (x : Sch) : nodesM s 0 x = 0 := (rfl)
theorem nodesM_succ (s : Schs) (d : Nat) (x : Sch) : nodesM s (d + 1) x = if nodeM s x = 0 then firstE (x.kids.map (nodesM s d)) else nodeM s x := (rfl)
def deepM : Nat → Sch → Bool
 | 0,_ => true
 | d + 1,x => x.kids.any (deepM d)
theorem deepM_zero (x : Sch) : deepM 0 x = true := (rfl)
theorem deepM_succ (d : Nat) (x : Sch) : deepM (d + 1) x = x.kids.any (deepM d) := (rfl)
theorem refDeeper_run : ∀ (d : Nat) (D : Int),D = d → d < 2 ^ 30 → ∀ x : Sch,x.bulk ≤ 2 ^ 24 → PRun CS 487 [encSch x,.int .i64 D] (.bool (deepM d x)) := by
 intro d
 induction d with
 | zero =>
  intro D hD hd x hx
  refine prun_of ac487 rfl ?_
  rw [encSch_eq,deepM_zero]
  (repeat' first | simp (disch := omega) only [go_sem,ac487,enter,List.length_map] | (apply spl <;> intro h <;> try simp (disch := omega) only [go_sem,h]) | fail)
  all_goals omega
 | succ d ih =>
  intro D hD hd x hx
  have hp := refParts_run x hx
  have hkl := kids_len x
  rw [deepM_succ]
  refine prun_of ac487 rfl ?_
  rw [encSch_eq] at hp ⊢
  (repeat' first | simp (disch := omega) only [go_sem,ac487,enter,List.length_map] | refine pure_of _ (hp) ?_ | (apply spl <;> intro h <;> try simp (disch := omega) only [go_sem,h]) | fail)
  all_goals try omega
  refine loop_of (α := Nat) (fun k => { tmps := slots 24 [(1,.int .i64 D),(5,.tsl 15 (x.kids.map encSch)),(6,.int .i64 k)],heap := [],base := 0 }) (fun k => k ≤ x.kids.length ∧ (x.kids.take k).any (deepM d) = false) (fun k => x.kids.length - k) 0 rfl ⟨Nat.zero_le _,rfl⟩ ?_
  rintro k ⟨hk,ha⟩
  by_cases hlt : k < x.kids.length
  ·obtain ⟨y,hy⟩ := get_some hlt
   have hym := List.mem_of_getElem? hy
   have hy2 := map_get (g := encSch) hy
   have hr := ih (D - 1) (by omega) (by omega) y (by have := Sch.kids_bulk hym; omega)
   rw [encSch_eq] at hy2 hr
   cases hc : deepM d y with
   | true =>
    rw [hc] at hr
    rw [any_at hy hc]
    (repeat' first | simp (disch := omega) only [go_sem,hy2,List.length_map] | refine pure_of _ (hr) ?_ | (apply spl <;> intro h <;> try simp (disch := omega) only [go_sem,h]) | fail)
    all_goals omega
   | false =>
    rw [hc] at hr
    (repeat' first | simp (disch := omega) only [go_sem,hy2,List.length_map] | refine pure_of _ (hr) ?_ | (apply spl <;> intro h <;> try simp (disch := omega) only [go_sem,h]) | fail)
    all_goals try omega
    exact ⟨k + 1,rfl,⟨hlt,take_any hy ha hc⟩,by omega⟩
  ·rw [take_len hlt hk] at ha
   rw [ha]
   (repeat' first | simp (disch := omega) only [go_sem,List.length_map] | (apply spl <;> intro h <;> try simp (disch := omega) only [go_sem,h]) | fail)
theorem refNodes_run (s : Schs) (hs : s.bulk ≤ 2 ^ 24) : ∀ (d : Nat) (D : Int),D = d → d < 2 ^ 30 → ∀ x : Sch,x.bulk ≤ 2 ^ 24 → PRun CS 488 [encSchs s,encSch x,.int .i64 D] (.int .i64 (nodesM s d x)) := by
 intro d
 induction d with
 | zero =>
  intro D hD hd x hx
  refine prun_of ac488 rfl ?_
  rw [encSch_eq,nodesM_zero,encSchs_eq]
  (repeat' first | simp (disch := omega) only [go_sem,ac488,enter,List.length_map] | (apply spl <;> intro h <;> try simp (disch := omega) only [go_sem,h]) | fail)
  all_goals omega
 | succ d ih =>
  intro D hD hd x hx
  have hn := refNode_run s x hs hx
  have hp := refParts_run x hx
  have hkl := kids_len x
  rw [nodesM_succ]
  refine prun_of ac488 rfl ?_
  have hse := encSchs_eq s
  rw [encSch_eq] at hp hn ⊢
  rw [encSchs_eq] at hn ⊢
  by_cases he : nodeM s x = 0
  ·rw [if_pos he]
   rw [he] at hn
   (repeat' first | simp (disch := omega) only [go_sem,ac488,enter,List.length_map] | refine pure_of _ (hn) ?_ | refine pure_of _ (hp) ?_ | (apply spl <;> intro h <;> try simp (disch := omega) only [go_sem,h]) | fail)
   all_goals try omega
   refine loop_of (α := Nat) (fun k => { tmps := slots 38 [(2,.int .i64 D),(3,.ptr 16 0 0 0),(8,.tsl 15 (x.kids.map encSch)),(9,.int .i64 k)],heap := [.row 16 [encSchs s] false true 0],base := 0 }) (fun k => k ≤ x.kids.length ∧ (x.kids.take k).all (fun z => nodesM s d z == 0) = true) (fun k => x.kids.length - k) 0 (by rw [encSchs_eq]; rfl) ⟨Nat.zero_le _,rfl⟩ ?_
   rintro k ⟨hk,ha⟩
   rw [encSchs_eq]
   by_cases hlt : k < x.kids.length
   ·obtain ⟨y,hy⟩ := get_some hlt
    have hym := List.mem_of_getElem? hy
    have hy2 := map_get (g := encSch) hy
    have hr := ih (D - 1) (by omega) (by omega) y (by have := Sch.kids_bulk hym; omega)
    rw [encSch_eq] at hy2 hr
    rw [encSchs_eq] at hr
    by_cases hc : nodesM s d y = 0
    ·rw [hc] at hr
     (repeat' first | simp (disch := omega) only [go_sem,hy2,List.length_map] | refine pure_of _ (hr) ?_ | (apply spl <;> intro h <;> try simp (disch := omega) only [go_sem,h]) | fail)
     all_goals try omega
     refine ⟨k + 1,?_,⟨hlt,take_succ_all hy ha (by simp [hc])⟩,by omega⟩
     first | rfl | (rw [hse]; rfl)
    ·rw [firstE_at hy ha hc]
     (repeat' first | simp (disch := omega) only [go_sem,hy2,List.length_map] | refine pure_of _ (hr) ?_ | (apply spl <;> intro h <;> try simp (disch := omega) only [go_sem,h]) | fail)
     all_goals omega
   ·rw [take_len hlt hk] at ha
    rw [firstE_zero ha]
    (repeat' first | simp (disch := omega) only [go_sem,List.length_map] | (apply spl <;> intro h <;> try simp (disch := omega) only [go_sem,h]) | fail)
  ·rw [if_neg he]
   (repeat' first | simp (disch := omega) only [go_sem,ac488,enter,List.length_map] | refine pure_of _ (hn) ?_ | refine pure_of _ (hp) ?_ | (apply spl <;> intro h <;> try simp (disch := omega) only [go_sem,h]) | fail)
   all_goals omega
end Ago
set_option maxRecDepth 100000
set_option maxHeartbeats 16000000
namespace Ago
open Go (IntKind)
def nameOkM (n : List UInt8) : Bool := decide (1 ≤ n.length ∧ n.length ≤ 64) && utf n
def defsE (s : Schs) : List (List UInt8 × Sch) → List (List UInt8 × Sch) → Int
 | _,[] => 0
 | pre,d :: l => if nameOkM d.1 = false then 1 else if (pre.any fun e => e.1 == d.1) = true then 8 else if nodesM s 48 d.2 = 0 then defsE s (pre ++ [d]) l else nodesM s 48 d.2
theorem defsE_step {s : Schs} {k : Nat} {d : List UInt8 × Sch} (hd : s.defs[k]? = some d) : defsE s (s.defs.take k) (s.defs.drop k) = if nameOkM d.1 = false then 1 else if ((s.defs.take k).any fun e => e.1 == d.1) = true then 8 else if nodesM s 48 d.2 = 0 then defsE s (s.defs.take (k + 1)) (s.defs.drop (k + 1)) else nodesM s 48 d.2 := by
 rw [dropS hd]
 have : s.defs.take (k + 1) = s.defs.take k ++ [d] := by rw [List.take_add_one,hd]; rfl
 rw [this]
 rfl
theorem defsE_end {s : Schs} {k : Nat} (h : s.defs.length ≤ k) : defsE s (s.defs.take k) (s.defs.drop k) = 0 := by
 rw [List.drop_of_length_le h]
 rfl
def dSum (l : List (List UInt8 × Sch)) : Nat := (l.map fun d => cntM 48 d.2).sum
def dDeep (l : List (List UInt8 × Sch)) : Bool := l.any fun d => deepM 48 d.2
def schkM (s : Schs) (g : Bool) : Int :=
 if defsE s [] s.defs = 0 then
  (if nodesM s 48 s.root = 0 then
   (if (dDeep s.defs || deepM 48 s.root) = true then 9 else if 1024 < dSum s.defs + cntM 48 s.root ∨ 64 < s.defs.length then 10 else if g = false then 23 else 0)
  else nodesM s 48 s.root)
 else defsE s [] s.defs
theorem dSum_step {s : Schs} {k : Nat} {d : List UInt8 × Sch} (hd : s.defs[k]? = some d) : dSum (s.defs.take (k + 1)) = dSum (s.defs.take k) + cntM 48 d.2 := sum_take _ _ _ _ hd
theorem dDeep_step {s : Schs} {k : Nat} {d : List UInt8 × Sch} (hd : s.defs[k]? = some d) : dDeep (s.defs.take (k + 1)) = (dDeep (s.defs.take k) || deepM 48 d.2) := by
 unfold dDeep
 rw [List.take_add_one,hd]
 simp
theorem dSum_le (s : Schs) (k : Nat) : dSum (s.defs.take k) + cntM 48 s.root ≤ s.bulk := by
 have h1 : dSum (s.defs.take k) ≤ dSum s.defs := sum_take_le _ _ _
 have h2 : dSum s.defs ≤ AV.bulks (s.defs.map encDef) := by
  unfold dSum
  have : ∀ l : List (List UInt8 × Sch),(l.map fun d => cntM 48 d.2).sum ≤ AV.bulks (l.map encDef) := by
   intro l
   induction l with
   | nil => simp
   | cons d l ih =>
    have := cnt_le 48 d.2
    have := encDef_bulk d
    simp only [List.map_cons,List.sum_cons,AV.bulks]
    omega
  exact this _
 have := cnt_le 48 s.root
 have := s.bulk_eq
 omega
end Ago
set_option maxRecDepth 100000
set_option maxHeartbeats 16000000
namespace Ago
open Go (IntKind)
theorem nameOk_f {n : List UInt8} (h : ¬ (1 ≤ n.length ∧ n.length ≤ 64) ∨ utf n = false) : nameOkM n = false := by
 unfold nameOkM
 rcases h with h | h
 ·rw [decide_eq_false h]; rfl
 ·rw [h,Bool.and_false]
theorem refCheck_run (s : Schs) (hs : s.bulk ≤ 2 ^ 24) (w : List UInt8) (g : Bool) (hg : PRun CS 460 [encSchs s] (.tup [.str w,.bool g])) : PRun CS 455 [encSchs s] (.int .i64 (schkM s g)) := by
 obtain ⟨hd1,hd2⟩ := Schs.dlen hs
 have hrb : s.root.bulk ≤ 2 ^ 24 := by
  have := s.bulk_eq
  omega
 have hse := encSchs_eq s
 have hr1 := refSize_run s.root hrb
 have hr2 := refDeeper_run 48 48 rfl (by decide) s.root hrb
 have hr3 := refNodes_run s hs 48 48 rfl (by decide) s.root hrb
 rw [encSch_eq] at hr1 hr2 hr3
 rw [encSchs_eq] at hr3
 refine prun_of ac455 rfl ?_
 rw [encSchs_eq] at hg ⊢
 (repeat' first | simp (disch := omega) only [go_sem,ac455,enter,List.length_map] | refine pure_of _ (hr1) ?_ | refine pure_of _ (hr2) ?_ | (apply spl <;> intro h <;> try simp (disch := omega) only [go_sem,h]) | fail)
 refine loop_of (α := Nat) (fun k => { tmps := slots 101 [(1,.ptr 16 0 0 0),(3,.int .i64 (dSum (s.defs.take k) + cntM 48 s.root : Nat)),(4,.bool (deepM 48 s.root || dDeep (s.defs.take k))),(5,.int .i64 k)],heap := [.row 16 [encSchs s] false true 0],base := 0 }) (fun k => k ≤ s.defs.length ∧ defsE s [] s.defs = defsE s (s.defs.take k) (s.defs.drop k)) (fun k => s.defs.length - k) 0 (by
  rw [hse,show dDeep (s.defs.take 0) = false from rfl,show dSum (s.defs.take 0) = 0 from rfl,Bool.or_false,Nat.zero_add]
  rfl) ⟨Nat.zero_le _,rfl⟩ ?_
 rintro k ⟨hk,he⟩
 have hsm := dSum_le s k
 rw [hse]
 by_cases hlt : k < s.defs.length
 ·obtain ⟨d,hdk⟩ := get_some hlt
  have hdm := List.mem_of_getElem? hdk
  have hde := map_get (g := encDef) hdk
  obtain ⟨hdb,hdn⟩ := hd2 d hdm
  rw [defsE_step hdk] at he
  have hu := upS (utf_run d.1 (by omega))
  rw [encDef_eq] at hde
  by_cases c1 : 1 ≤ d.1.length ∧ d.1.length ≤ 64
  case neg =>
   rw [if_pos (nameOk_f (.inl c1))] at he
   have hR : schkM s g = 1 := by unfold schkM; rw [he]; rfl
   rw [hR]
   (repeat' first | simp (disch := omega) only [go_sem,hde,List.length_map] | refine pure_of _ (hu) ?_ | (apply spl <;> intro h <;> try simp (disch := omega) only [go_sem,h]) | fail)
   all_goals omega
  cases c2 : utf d.1
  case false =>
   rw [if_pos (nameOk_f (.inr c2))] at he
   have hR : schkM s g = 1 := by unfold schkM; rw [he]; rfl
   rw [hR]
   rw [c2] at hu
   (repeat' first | simp (disch := omega) only [go_sem,hde,List.length_map] | refine pure_of _ (hu) ?_ | (apply spl <;> intro h <;> try simp (disch := omega) only [go_sem,h]) | fail)
   all_goals omega
  rw [c2] at hu
  have hnm : nameOkM d.1 = true := by unfold nameOkM; rw [decide_eq_true c1,c2]; rfl
  rw [if_neg (by rw [hnm]; simp)] at he
  obtain ⟨dp,hdp⟩ : ∃ b,(deepM 48 s.root || dDeep (s.defs.take k)) = b := ⟨_,rfl⟩
  have hds := dDeep_step hdk
  rw [hdp]
  (repeat' first | simp (disch := omega) only [go_sem,hde,List.length_map] | refine pure_of _ (hu) ?_ | (apply spl <;> intro h <;> try simp (disch := omega) only [go_sem,h]) | fail)
  all_goals try omega
  refine loop_of (α := Nat) (fun j => { tmps := slots 101 [(1,.ptr 16 0 0 0),(3,.int .i64 (dSum (s.defs.take k) + cntM 48 s.root : Nat)),(4,.bool dp),(5,.int .i64 k),(6,.ptr 16 1 0 0),(7,.int .i64 j)],heap := [.row 16 [encSchs s] false true 0,.row 16 [encDef d] false true 1],base := 0 }) (fun j => j ≤ k ∧ ((s.defs.take k).take j).any (fun e => e.1 == d.1) = false) (fun j => k - j) 0 (by rw [hse,encDef_eq]; rfl) ⟨Nat.zero_le _,rfl⟩ ?_
  rintro j ⟨hj,haj⟩
  have hkl : (s.defs.take k).length = k := by rw [List.length_take]; omega
  rw [hse,encDef_eq d]
  by_cases hjl : j < k
  ·obtain ⟨e,hej⟩ : ∃ e,(s.defs.take k)[j]? = some e := get_some (by omega)
   have hej2 : s.defs[j]? = some e := by
    rw [List.getElem?_take_of_lt hjl] at hej
    exact hej
   have hee := map_get (g := encDef) hej2
   rw [encDef_eq] at hee
   cases hb : e.1 == d.1 with
   | true =>
    rw [if_pos (any_at hej hb)] at he
    have hR : schkM s g = 8 := by unfold schkM; rw [he]; rfl
    rw [hR]
    (repeat' first | simp (disch := omega) only [go_sem,hee,hb,List.length_map] | (apply spl <;> intro h <;> try simp (disch := omega) only [go_sem,h]) | fail)
    all_goals omega
   | false =>
    (repeat' first | simp (disch := omega) only [go_sem,hee,hb,List.length_map] | (apply spl <;> intro h <;> try simp (disch := omega) only [go_sem,h]) | fail)
    all_goals try omega
    refine ⟨j + 1,?_,⟨hjl,take_any hej haj hb⟩,by omega⟩
    first | rfl | (rw [hse]; rfl)
  ·rw [take_len (by omega) (by omega)] at haj
   rw [if_neg (by rw [haj]; simp)] at he
   have q1 := refSize_run d.2 (by omega)
   have q2 := refDeeper_run 48 48 rfl (by decide) d.2 (by omega)
   have q3 := refNodes_run s hs 48 48 rfl (by decide) d.2 (by omega)
   have hcl := cnt_le 48 d.2
   rw [encSch_eq] at q1 q2 q3
   rw [encSchs_eq] at q3
   have hss := dSum_step hdk
   by_cases hz : nodesM s 48 d.2 = 0
   ·rw [if_pos hz] at he
    rw [hz] at q3
    have e1 : ((dSum (s.defs.take k) + cntM 48 s.root : Nat) : Int) + (cntM 48 d.2 : Nat) = ((dSum (s.defs.take (k + 1)) + cntM 48 s.root : Nat) : Int) := by rw [hss]; omega
    cases dp
    ·have e2 : (deepM 48 s.root || dDeep (s.defs.take (k + 1))) = deepM 48 d.2 := by rw [hds,← Bool.or_assoc,hdp,Bool.false_or]
     (repeat' first | simp (disch := omega) only [go_sem,e1,List.length_map] | refine pure_of _ (q1) ?_ | refine pure_of _ (q2) ?_ | refine pure_of _ (q3) ?_ | (apply spl <;> intro h <;> try simp (disch := omega) only [go_sem,h]) | fail)
     all_goals try omega
     refine ⟨k + 1,?_,⟨hlt,he⟩,by omega⟩
     rw [e2]
     first | rfl | (rw [hse]; rfl)
    ·have e2 : (deepM 48 s.root || dDeep (s.defs.take (k + 1))) = true := by rw [hds,← Bool.or_assoc,hdp,Bool.true_or]
     (repeat' first | simp (disch := omega) only [go_sem,e1,List.length_map] | refine pure_of _ (q1) ?_ | refine pure_of _ (q2) ?_ | refine pure_of _ (q3) ?_ | (apply spl <;> intro h <;> try simp (disch := omega) only [go_sem,h]) | fail)
     all_goals try omega
     refine ⟨k + 1,?_,⟨hlt,he⟩,by omega⟩
     rw [e2]
     first | rfl | (rw [hse]; rfl)
   ·rw [if_neg hz] at he
    have hR : schkM s g = nodesM s 48 d.2 := by unfold schkM; rw [he,if_neg hz]
    rw [hR]
    (repeat' first | simp (disch := omega) only [go_sem,List.length_map] | refine pure_of _ (q1) ?_ | refine pure_of _ (q2) ?_ | refine pure_of _ (q3) ?_ | (apply spl <;> intro h <;> try simp (disch := omega) only [go_sem,h]) | fail)
    all_goals omega
 ·have hk2 : k = s.defs.length := by omega
  subst hk2
  rw [defsE_end (Nat.le_refl _)] at he
  rw [List.take_length] at hsm ⊢
  have hR : schkM s g = if nodesM s 48 s.root = 0 then (if (dDeep s.defs || deepM 48 s.root) = true then 9 else if 1024 < dSum s.defs + cntM 48 s.root ∨ 64 < s.defs.length then 10 else if g = false then 23 else 0) else nodesM s 48 s.root := by
   unfold schkM
   rw [he]
   rfl
  rw [hR,Bool.or_comm (deepM 48 s.root)]
  by_cases hz : nodesM s 48 s.root = 0
  ·rw [if_pos hz]
   rw [hz] at hr3
   cases hdp : (dDeep s.defs || deepM 48 s.root)
   ·rw [if_neg (by simp)]
    by_cases hsz : 1024 < dSum s.defs + cntM 48 s.root ∨ 64 < s.defs.length
    ·rw [if_pos hsz]
     (repeat' first | simp (disch := omega) only [go_sem,List.length_map] | refine pure_of _ (hg) ?_ | refine pure_of _ (hr3) ?_ | (apply spl <;> intro h <;> try simp (disch := omega) only [go_sem,h]) | fail)
     all_goals omega
    ·rw [if_neg hsz]
     cases g
     ·rw [if_pos rfl]
      (repeat' first | simp (disch := omega) only [go_sem,List.length_map] | refine pure_of _ (hg) ?_ | refine pure_of _ (hr3) ?_ | (apply spl <;> intro h <;> try simp (disch := omega) only [go_sem,h]) | fail)
      all_goals omega
     ·rw [if_neg (by simp)]
      (repeat' first | simp (disch := omega) only [go_sem,List.length_map] | refine pure_of _ (hg) ?_ | refine pure_of _ (hr3) ?_ | (apply spl <;> intro h <;> try simp (disch := omega) only [go_sem,h]) | fail)
      all_goals omega
   ·rw [if_pos rfl]
    (repeat' first | simp (disch := omega) only [go_sem,List.length_map] | refine pure_of _ (hg) ?_ | refine pure_of _ (hr3) ?_ | (apply spl <;> intro h <;> try simp (disch := omega) only [go_sem,h]) | fail)
    all_goals omega
  ·rw [if_neg hz]
   (repeat' first | simp (disch := omega) only [go_sem,List.length_map] | refine pure_of _ (hg) ?_ | refine pure_of _ (hr3) ?_ | (apply spl <;> intro h <;> try simp (disch := omega) only [go_sem,h]) | fail)
   all_goals omega
end Ago
