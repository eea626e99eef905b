/- Same of a schema and itself; what is clean is cloned as it is. -/
import Derived.Test.YtgcpgfallgebhaaGreatDoorRunE
import Derived.Test.YtgcpgfallgebhaaGreatDoorRunF
set_option linter.unusedSimpArgs false
set_option linter.unusedVariables false
set_option maxRecDepth 100000
set_option maxHeartbeats 16000000
namespace Ago
open Go (IntKind)
def patD : Nat → Pat → Prop
 | 0,_ => False
 | d + 1,p => ∀ a,a ∈ p.a → patD d a
theorem patD_nodes : ∀ (d : Nat) (p : Pat),patNodes d p = true → patD d p
 | 0,p,h => by cases h
 | d + 1,p,h => fun a ha => by
  rw [patNodes_succ,Bool.and_eq_true,List.all_eq_true] at h
  exact patD_nodes d a (h.2 a ha)
theorem patD_nil {p : Pat} (h : patNil p = true) : patD 48 p := fun a ha => by
 unfold patNil at h
 have h := of_decide_eq_true h
 have : p.a = [] := List.length_eq_zero_iff.1 h.2.2.2.2.2
 rw [this] at ha
 cases ha
theorem patSame_refl : ∀ (d : Nat) (D : Int),D = d → d < 2 ^ 30 → ∀ x : Pat,x.bulk ≤ 2 ^ 24 → patD d x → PRun CS 567 [encPat x,encPat x,.int .i64 D] (.bool true) := by
 intro d
 induction d with
 | zero => intro D hD hd x hx h; exact h.elim
 | succ d ih =>
  intro D hD hd x hx h
  have L := Pat.lens hx
  have hal := L.args
  refine prun_of ac567 rfl ?_
  rw [encPat_eq]
  (repeat' first | simp (disch := omega) only [go_sem,ac567,enter,List.length_map,bne_self_eq_false] | (apply spl <;> intro h <;> try simp (disch := omega) only [go_sem,h]) | fail)
  all_goals first | omega | skip
  refine loop_of (α := Nat) (fun k => { tmps := slots 75 [(2,.int .i64 D),(3,.ptr 6 0 0 0),(4,.ptr 6 1 0 0),(7,.int .i64 k)],heap := [.row 6 [encPat x] false true 0,.row 6 [encPat x] false true 1],base := 0 }) (fun k => k ≤ x.a.length) (fun k => x.a.length - k) 0 (by rw [encPat_eq x]; rfl) (Nat.zero_le _) ?_
  intro k hk
  rw [encPat_eq x]
  by_cases hlt : k < x.a.length
  ·obtain ⟨y,hy⟩ := get_some hlt
   have hym := List.mem_of_getElem? hy
   have hy2 := map_get (g := encPat) hy
   have hr := ih (D - 1) (by omega) (by omega) y (by have := L.kids y hym; omega) (h y hym)
   rw [encPat_eq y] at hy2 hr
   (repeat' first | simp (disch := omega) only [go_sem,hy2,List.length_map] | refine pure_of _ (hr) ?_ | (apply spl <;> intro h <;> try simp (disch := omega) only [go_sem,h]) | fail)
   all_goals first | omega | skip
   exact ⟨k + 1,rfl,hlt,by omega⟩
  ·(repeat' first | simp (disch := omega) only [go_sem,List.length_map] | (apply spl <;> intro h <;> try simp (disch := omega) only [go_sem,h]) | fail)
   all_goals omega
theorem patSameRefl_run (x : Pat) (hx : x.bulk ≤ 2 ^ 24) (h : patD 48 x) : PRun CS 523 [encPat x,encPat x] (.bool true) := by
 have h := patSame_refl 48 48 rfl (by decide) x hx h
 refine prun_of ac523 rfl ?_
 rw [encPat_eq] at h ⊢
 (repeat' first | simp (disch := omega) only [go_sem,ac523,enter] | refine pure_of _ (h) ?_ | (apply spl <;> intro h <;> try simp (disch := omega) only [go_sem,h]) | fail)
theorem setSame_refl (l : List Prt) (hl : l.length < 2 ^ 31) : PRun CS 522 [.agg [.tsl 11 (l.map encPrt)],.agg [.tsl 11 (l.map encPrt)]] (.bool true) := by
 refine prun_of ac522 rfl ?_
 (repeat' first | simp (disch := omega) only [go_sem,ac522,enter,List.length_map,bne_self_eq_false] | (apply spl <;> intro h <;> try simp (disch := omega) only [go_sem,h]) | fail)
 refine loop_of (α := Nat) (fun k => { tmps := slots 31 [(2,.ptr 1 0 0 0),(3,.ptr 1 1 0 0),(5,.int .i64 k)],heap := [.row 1 [.agg [.tsl 11 (l.map encPrt)]] false true 0,.row 1 [.agg [.tsl 11 (l.map encPrt)]] false true 1],base := 0 }) (fun k => k ≤ l.length) (fun k => l.length - k) 0 rfl (Nat.zero_le _) ?_
 rintro k hk
 by_cases hlt : k < l.length
 ·obtain ⟨p,hp⟩ := get_some hlt
  have hp2 := map_get (g := encPrt) hp
  simp only [encPrt] at hp2
  (repeat' first | simp (disch := omega) only [go_sem,hp2,List.length_map] | (apply spl <;> intro h <;> try simp (disch := omega) only [go_sem,h]) | fail)
  all_goals try omega
  exact ⟨k + 1,rfl,hlt,by omega⟩
 ·(repeat' first | simp (disch := omega) only [go_sem,List.length_map] | (apply spl <;> intro h <;> try simp (disch := omega) only [go_sem,h]) | fail)
  all_goals omega
theorem listV_run (l : List V) : PRun CS 529 [.tsl 13 (l.map encV)] (encV (.mk ⟨6,false,⟨false,[],0⟩,⟨0,0,0,0⟩,[],[]⟩ l [])) := by
 refine prun_of ac529 rfl ?_
 rw [encV_eq]
 (repeat' first | simp (disch := omega) only [go_sem,ac529,enter] | (apply spl <;> intro h <;> try simp (disch := omega) only [go_sem,h]) | fail)
 all_goals rfl
theorem sameAll_refl (l : List V) (hl : AV.bulks (l.map encV) ≤ 2 ^ 23) : PRun CS 524 [.tsl 13 (l.map encV),.tsl 13 (l.map encV)] (.bool true) := by
 have h1 := listV_run l
 have h2 := upS (sameRefl_run (2 ^ 24) (.mk ⟨6,false,⟨false,[],0⟩,⟨0,0,0,0⟩,[],[]⟩ l []) (by
  rw [V.bulk_eq]
  simp [V.s,V.l,V.f,encB,AV.bulks]
  omega) (Nat.le_refl _))
 refine prun_of ac524 rfl ?_
 rw [encV_eq] at h1 h2
 (repeat' first | simp (disch := omega) only [go_sem,ac524,enter] | refine pure_of _ (h1) ?_ | refine pure_of _ (h2) ?_ | (apply spl <;> intro h <;> try simp (disch := omega) only [go_sem,h]) | fail)
end Ago
set_option maxRecDepth 100000
set_option maxHeartbeats 16000000
namespace Ago
open Go (IntKind)
def CleanS : Nat → Sch → Prop
 | 0,_ => False
 | d + 1,x => (∀ v,v ∈ x.s.vals → cutV 65536 v = v) ∧ patD 48 x.s.pat ∧ ∀ y,y ∈ x.kids → CleanS d y
theorem scal_cut {v : V} (h : scalM v = true) : cutV 65536 v = v := by
 unfold scalM at h
 rw [Bool.and_eq_true] at h
 obtain ⟨h1,h2⟩ := h
 have h1 := of_decide_eq_true h1
 have h2 := of_decide_eq_true h2
 have ho : ownM v = true := by
  cases hb : ownM v with
  | true => rfl
  | false =>
   exfalso
   have h3 : oneM v = 6 := by unfold oneM; rw [if_pos hb]
   have h4 : lookM 49 v 1 0 = (0,6) := by
    show (if (48 : Int) < 1 then _ else if (65536 : Int) ≤ 0 then _ else if oneM v ≠ 0 then ((0 : Int),oneM v) else _) = _
    rw [if_neg (by decide),if_neg (by decide),if_pos (by rw [h3]; decide),h3]
   unfold checkM at h2
   rw [h4] at h2
   cases h2
 unfold ownM at ho
 simp only [Bool.and_eq_true,Bool.or_eq_true,beq_iff_eq,decide_eq_true_eq] at ho
 have hl : v.l = [] := by
  rcases ho.1.2 with h | h
  ·omega
  ·exact List.length_eq_zero_iff.1 (by omega)
 have hf : v.f = [] := by
  rcases ho.2 with h | h
  ·omega
  ·exact List.length_eq_zero_iff.1 (by omega)
 obtain ⟨s,l,f⟩ := v
 have hl : l = [] := hl
 have hf : f = [] := hf
 subst hl hf
 rfl
theorem node_clean {s : Schs} {x : Sch} (h : nodeM s x = 0) : (∀ v,v ∈ x.s.vals → cutV 65536 v = v) ∧ patD 48 x.s.pat := by
 have hf : formM x = true := by
  cases hb : formM x with
  | true => rfl
  | false =>
   unfold nodeM at h
   rw [if_pos hb] at h
   cases h
 unfold formM at hf
 rw [Bool.and_eq_true,Bool.and_eq_true] at hf
 obtain ⟨⟨_,hb⟩,hr⟩ := hf
 unfold blankM at hb
 rw [Bool.and_eq_true,Bool.and_eq_true] at hb
 obtain ⟨⟨hb1,_⟩,hb2⟩ := hb
 rw [Bool.or_eq_true] at hb2
 have hb1 := of_decide_eq_true hb1
 refine ⟨fun v hv => ?_,?_⟩
 ·have h8 : x.s.op = 8 := by
   rcases hb1.2.2.2.1 with h8 | h8
   ·exact h8
   ·rw [List.length_eq_zero_iff.1 h8] at hv
    cases hv
  rw [if_neg (by omega),if_neg (by omega),if_neg (by omega),if_neg (by omega),if_pos h8,Bool.and_eq_true,List.all_eq_true] at hr
  exact scal_cut (hr.1 v hv)
 ·rcases hb2 with h6 | hn
  ·have h6 := of_decide_eq_true h6
   rw [if_neg (by omega),if_neg (by omega),if_neg (by omega),if_pos h6] at hr
   unfold patOk at hr
   rw [Bool.and_eq_true] at hr
   exact patD_nodes _ _ hr.1
  ·exact patD_nil hn
theorem firstE_all {α : Type} {f : α → Int} : ∀ {l : List α},firstE (l.map f) = 0 → ∀ x,x ∈ l → f x = 0
 | [],_,x,hx => by cases hx
 | y :: l,h,x,hx => by
  simp only [List.map_cons,firstE] at h
  by_cases hy : f y = 0
  ·rw [if_pos hy] at h
   rcases List.mem_cons.1 hx with rfl | hx
   ·exact hy
   ·exact firstE_all h x hx
  ·rw [if_neg hy] at h
   exact (hy h).elim
theorem clean_of (s : Schs) : ∀ (d : Nat) (x : Sch),nodesM s d x = 0 → deepM d x = false → CleanS d x
 | 0,x,_,h2 => by rw [deepM_zero] at h2; cases h2
 | d + 1,x,h1,h2 => by
  rw [nodesM_succ] at h1
  rw [deepM_succ] at h2
  have hn : nodeM s x = 0 := by
   by_cases hn : nodeM s x = 0
   ·exact hn
   ·rw [if_neg hn] at h1
    exact h1
  rw [if_pos hn] at h1
  obtain ⟨k1,k2⟩ := node_clean hn
  refine ⟨k1,k2,fun y hy => clean_of s d y (firstE_all h1 y hy) ?_⟩
  have := List.any_eq_false.1 h2 y hy
  simpa using this
theorem clone_clean : ∀ (d : Nat) (x : Sch),CleanS d x → ∀ n,cloneM n x = x
 | 0,x,h,n => h.elim
 | d + 1,x,h,0 => rfl
 | d + 1,x,h,n + 1 => by
  obtain ⟨h1,h2,h3⟩ := h
  obtain ⟨s,p,a⟩ := x
  show Sch.mk { s with vals := s.vals.map (cutV 65536) } (p.map fun k => (k.1,cloneM n k.2)) (a.map (cloneM n)) = .mk s p a
  have e1 : s.vals.map (cutV 65536) = s.vals := by
   rw [List.map_congr_left (l := s.vals) (g := id) (fun v hv => h1 v hv),List.map_id]
  have e2 : (p.map fun k => (k.1,cloneM n k.2)) = p := by
   rw [List.map_congr_left (g := id) (fun k hk => ?_),List.map_id]
   rw [clone_clean d k.2 (h3 k.2 (List.mem_append.2 (.inl (List.mem_map.2 ⟨k,hk,rfl⟩)))) n]
   rfl
  have e3 : a.map (cloneM n) = a := by
   rw [List.map_congr_left (g := id) (fun k hk => ?_),List.map_id]
   exact clone_clean d k (h3 k (List.mem_append.2 (.inr hk))) n
  rw [e1,e2,e3]
theorem schSame_refl : ∀ (d : Nat) (D : Int),D = d → d < 2 ^ 30 → ∀ x : Sch,x.bulk ≤ 2 ^ 22 → CleanS d x → PRun CS 494 [encSch x,encSch x,.int .i64 D] (.bool true) := by
 intro d
 induction d with
 | zero => intro D hD hd x hx h; exact h.elim
 | succ d ih =>
  intro D hD hd x hx h
  obtain ⟨_,hpd,hkd⟩ := h
  have L := Sch.lens (N := 2 ^ 24) (v := x) (by omega)
  have q1 := setSame_refl x.s.parts (by have := L.parts; omega)
  have q2 := patSameRefl_run x.s.pat (by have := L.pat; omega) hpd
  have q3 := sameAll_refl x.s.vals (by have := x.bulk_eq; omega)
  have q4 := refParts_run x (by omega)
  have hkl := kids_len x
  have hpp := L.props
  rw [encPat_eq] at q2
  rw [encSch_eq] at q4
  refine prun_of ac494 rfl ?_
  rw [encSch_eq]
  (repeat' first | simp (disch := omega) only [go_sem,ac494,enter,List.length_map,bne_self_eq_false] | refine pure_of _ (q1) ?_ | refine pure_of _ (q2) ?_ | refine pure_of _ (q3) ?_ | refine pure_of _ (q4) ?_ | (apply spl <;> intro h <;> try simp (disch := omega) only [go_sem,h]) | fail)
  all_goals first | omega | skip
  refine loop_of (α := Nat) (fun k => { tmps := slots 145 [(2,.int .i64 D),(3,.ptr 15 0 0 0),(4,.ptr 15 1 0 0),(7,.int .i64 k)],heap := [.row 15 [encSch x] false true 0,.row 15 [encSch x] false true 1],base := 0 }) (fun k => k ≤ x.p.length) (fun k => x.p.length - k) 0 (by rw [encSch_eq x]; rfl) (Nat.zero_le _) ?_
  intro k hk
  rw [encSch_eq x]
  by_cases hlt : k < x.p.length
  ·obtain ⟨y,hy⟩ := get_some hlt
   have hy2 := map_get (g := encPr) hy
   rw [encPr_eq y] at hy2
   (repeat' first | simp (disch := omega) only [go_sem,hy2,List.length_map,bne_self_eq_false] | (apply spl <;> intro h <;> try simp (disch := omega) only [go_sem,h]) | fail)
   all_goals first | omega | skip
   exact ⟨k + 1,rfl,hlt,by omega⟩
  ·have hk2 : k = x.p.length := by omega
   subst hk2
   (repeat' first | simp (disch := omega) only [go_sem,List.length_map] | refine pure_of _ (q4) ?_ | (apply spl <;> intro h <;> try simp (disch := omega) only [go_sem,h]) | fail)
   all_goals first | omega | skip
   refine loop_of (α := Nat) (fun k => { tmps := slots 145 [(2,.int .i64 D),(8,.tsl 15 (x.kids.map encSch)),(9,.tsl 15 (x.kids.map encSch)),(10,.int .i64 k)],heap := [],base := 0 }) (fun k => k ≤ x.kids.length) (fun k => x.kids.length - k) 0 (by rfl) (Nat.zero_le _) ?_
   intro k hk
   by_cases hlt : k < x.kids.length
   ·obtain ⟨y,hy⟩ := get_some hlt
    have hym := List.mem_of_getElem? hy
    have hy2 := map_get (g := encSch) hy
    have hyb := Sch.kids_bulk hym
    have hr := ih (D - 1) (by omega) (by omega) y (by omega) (hkd y hym)
    rw [encSch_eq] at hy2 hr
    (repeat' first | simp (disch := omega) only [go_sem,hy2,List.length_map] | refine pure_of _ (hr) ?_ | (apply spl <;> intro h <;> try simp (disch := omega) only [go_sem,h]) | fail)
    all_goals first | omega | skip
    exact ⟨k + 1,rfl,hlt,by omega⟩
   ·(repeat' first | simp (disch := omega) only [go_sem,List.length_map] | (apply spl <;> intro h <;> try simp (disch := omega) only [go_sem,h]) | fail)
    all_goals first | omega | skip
end Ago
set_option maxRecDepth 100000
set_option maxHeartbeats 16000000
namespace Ago
open Go (IntKind)
theorem defsE_all (s : Schs) : ∀ (l pre : List (List UInt8 × Sch)),defsE s pre l = 0 → ∀ d,d ∈ l → nodesM s 48 d.2 = 0
 | [],_,_,d,hd => by cases hd
 | e :: l,pre,h,d,hd => by
  have h : (if nameOkM e.1 = false then (1 : Int) else if (pre.any fun x => x.1 == e.1) = true then 8 else if nodesM s 48 e.2 = 0 then defsE s (pre ++ [e]) l else nodesM s 48 e.2) = 0 := h
  by_cases h1 : nameOkM e.1 = false
  ·rw [if_pos h1] at h
   cases h
  ·rw [if_neg h1] at h
   by_cases h2 : (pre.any fun x => x.1 == e.1) = true
   ·rw [if_pos h2] at h
    cases h
   ·rw [if_neg h2] at h
    by_cases h3 : nodesM s 48 e.2 = 0
    ·rw [if_pos h3] at h
     rcases List.mem_cons.1 hd with rfl | hd
     ·exact h3
     ·exact defsE_all s l _ h d hd
    ·rw [if_neg h3] at h
     exact (h3 h).elim
theorem found_clean {s : Schs} {g : Bool} (h : schkM s g = 0) {name : List UInt8} (hf : (lkM s name).2 = true) : CleanS 48 (lkM s name).1 ∧ ∃ d,d ∈ s.defs ∧ (lkM s name).1 = d.2 := by
 have h1 : defsE s [] s.defs = 0 := by
  by_cases h1 : defsE s [] s.defs = 0
  ·exact h1
  ·unfold schkM at h
   rw [if_neg h1] at h
   exact h
 unfold schkM at h
 rw [if_pos h1] at h
 have h2 : nodesM s 48 s.root = 0 := by
  by_cases h2 : nodesM s 48 s.root = 0
  ·exact h2
  ·rw [if_neg h2] at h
   exact h
 rw [if_pos h2] at h
 have h3 : dDeep s.defs = false := by
  cases hb : dDeep s.defs with
  | false => rfl
  | true =>
   rw [if_pos (by rw [hb]; rfl)] at h
   cases h
 cases hq : s.defs.find? (fun d => d.1 == name) with
 | none =>
  unfold lkM at hf
  rw [hq] at hf
  cases hf
 | some d =>
  have hm := List.mem_of_find?_eq_some hq
  have hl : lkM s name = (d.2,true) := by unfold lkM; rw [hq]
  rw [hl]
  refine ⟨clean_of s 48 d.2 (defsE_all s _ _ h1 d hm) ?_,d,hm,rfl⟩
  unfold dDeep at h3
  have := List.any_eq_false.1 h3 d hm
  simpa using this
theorem foundSame_run {s : Schs} (hs : s.bulk ≤ 2 ^ 22) {g : Bool} (h : schkM s g = 0) {name : List UInt8} (hf : (lkM s name).2 = true) : cloneM (2 ^ 24) (lkM s name).1 = (lkM s name).1 ∧ PRun CS 461 [encSch (lkM s name).1,encSch (lkM s name).1] (.bool true) := by
 obtain ⟨hc,d,hd,he⟩ := found_clean h hf
 have hb : (lkM s name).1.bulk ≤ 2 ^ 22 := by
  rw [he]
  have := ((Schs.dlen (s := s) (by omega)).2 d hd).1
  omega
 refine ⟨clone_clean 48 _ hc _,?_⟩
 have h1 := schSame_refl 48 48 rfl (by decide) _ hb hc
 refine prun_of ac461 rfl ?_
 rw [encSch_eq] at h1 ⊢
 (repeat' first | simp (disch := omega) only [go_sem,ac461,enter] | refine pure_of _ (h1) ?_ | (apply spl <;> intro h <;> try simp (disch := omega) only [go_sem,h]) | fail)
end Ago
