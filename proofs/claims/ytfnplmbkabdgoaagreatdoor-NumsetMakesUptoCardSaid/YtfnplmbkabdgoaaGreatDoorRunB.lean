/- A number in a set: Has of both sides; the law NumsetHas. -/
import Derived.Test.YtfnplmbkabdgoaaGreatDoorRunA
set_option linter.unusedSimpArgs false
set_option linter.unusedVariables false
set_option maxRecDepth 100000
set_option maxHeartbeats 4000000
namespace Ago
open Go (IntKind)
theorem In_run (p : Prt) (d : Dec) (hp : prtOk p = true) (hd : decOk d = true) : PRun CN 618 [encPrt p, encDec d] (.bool (inM p d)) := by
  have rl : p.lo.set = true → PRun CN 634 [encDec d, encDec p.lo.num] (.int .i64 (cmpM d p.lo.num)) := fun h => Cmp02_run d _ hd (prt_lo hp h)
  have rh : p.hi.set = true → PRun CN 634 [encDec d, encDec p.hi.num] (.int .i64 (cmpM d p.hi.num)) := fun h => Cmp02_run d _ hd (prt_hi hp h)
  have rw_ := whole_run d
  refine prun_of ac618 rfl ?_
  unfold inM
  obtain ⟨c1, hc1⟩ : ∃ c, cmpM d p.lo.num = c := ⟨_, rfl⟩
  obtain ⟨c2, hc2⟩ : ∃ c, cmpM d p.hi.num = c := ⟨_, rfl⟩
  rw [hc1] at rl ⊢
  rw [hc2] at rh ⊢
  clear hc1 hc2 hp hd
  obtain ⟨⟨s1, ⟨n1, d1, e1⟩, o1⟩, ⟨s2, ⟨n2, d2, e2⟩, o2⟩, sort⟩ := p
  obtain ⟨neg, ds, exp⟩ := d
  simp only [encPrt, encDec] at *
  cases s1 <;> cases s2 <;> cases o1 <;> cases o2 <;> simp only [Bool.false_eq_true, false_and, and_false, or_false, if_false, true_and, and_true, forall_const] at rl rh ⊢
  all_goals
    (repeat' first | simp (disch := omega) only [go_sem, ac618, enter] | refine pure_of _ (rl) ?_ | refine pure_of _ (rh) ?_ | refine pure_of _ (rw_) ?_ | (refine spl (fun h => ?_) (fun h => ?_) <;> try simp (disch := omega) only [go_sem, ac618, enter , h]) | fail)
  all_goals first
    | (simp; omega)
    | (simp_all; done)
    | (simp_all; omega)
    | (have e1 : (sort == 1) = decide (sort = 1) := by by_cases q : sort = 1 <;> simp [q]
       by_cases q1 : sort = 0 <;> by_cases q2 : sort = 1 <;> by_cases q3 : 0 ≤ exp <;> simp [e1, q1, q2, q3] <;> omega)
    | (by_cases q1 : sort = 0 <;> by_cases q2 : sort = 1 <;> by_cases q3 : 0 ≤ exp <;> simp_all)
    | skip
theorem setOk_all {l : List Prt} (h : setOk l = true) : ∀ p, p ∈ l → prtOk p = true := by
  unfold setOk at h
  simp only [Bool.and_eq_true, List.all_eq_true] at h
  exact h.2
theorem setOk_len {l : List Prt} (h : setOk l = true) : l.length ≤ 256 := by
  unfold setOk at h
  simp only [Bool.and_eq_true, decide_eq_true_eq] at h
  exact h.1
theorem take_succ_none {α : Type} {l : List α} {k : Nat} {x : α} {f : α → Bool} (hx : l[k]? = some x) (h : (l.take k).any f = false) (hf : f x = false) : (l.take (k + 1)).any f = false := by
  rw [List.take_add_one, hx, List.any_append, h]
  simp [hf]
theorem any_at {α : Type} {l : List α} {k : Nat} {x : α} {f : α → Bool} (hx : l[k]? = some x) (hf : f x = true) : l.any f = true := List.any_eq_true.2 ⟨x, List.mem_of_getElem? hx, hf⟩
theorem HasI_run (l : List Prt) (d : Dec) (hl : slimP l) (hs : d.digits.length < 2 ^ 31) : PRun CN 235 [encNS l, encDec d] (.bool (hasM l d)) := by
  have hv := setI_run l hl
  have hd := upN (decOkI_run d hs)
  unfold hasM
  refine prun_of ac235 rfl ?_
  cases h1 : setOk l
  · rw [h1] at hv
    unfold encNS encDec at *
    try simp only [Bool.false_and]
    (repeat' first | simp (disch := omega) only [go_sem, ac235, enter, List.length_map] | refine pure_of _ (hv) ?_ | (refine spl (fun h => ?_) (fun h => ?_) <;> try simp (disch := omega) only [go_sem, ac235, enter, List.length_map , h]) | fail)
  rw [h1] at hv
  cases h2 : decOk d
  · rw [h2] at hd
    unfold encNS encDec at *
    try simp only [Bool.false_and, Bool.and_false]
    (repeat' first | simp (disch := omega) only [go_sem, ac235, enter, List.length_map] | refine pure_of _ (hv) ?_ | refine pure_of _ (hd) ?_ | (refine spl (fun h => ?_) (fun h => ?_) <;> try simp (disch := omega) only [go_sem, ac235, enter, List.length_map , h]) | fail)
  rw [h2] at hd
  have hlen := setOk_len h1
  have hi : ∀ p, p ∈ l → PRun CN 251 [encPrt p, encDec d] (.bool (inM p d)) := fun p hp => inside_run p d (setOk_all h1 p hp) h2
  try simp only [Bool.true_and]
  unfold encNS encDec at *
  (repeat' first | simp (disch := omega) only [go_sem, ac235, enter, List.length_map] | refine pure_of _ (hv) ?_ | refine pure_of _ (hd) ?_ | (refine spl (fun h => ?_) (fun h => ?_) <;> try simp (disch := omega) only [go_sem, ac235, enter, List.length_map , h]) | fail)
  refine loop_of (α := Nat) (fun k => { tmps := slots 26 [(3, .ptr 3 0 0 0), (16, .tsl 11 (l.map encPrt)), (17, .int .i64 l.length), (18, .int .i64 k)], heap := [.row 3 [.agg [.bool d.neg, .str d.digits, .int .i64 d.exp]] false true 0], base := 0 }) (fun k => k ≤ l.length ∧ (l.take k).any (fun p => inM p d) = false) (fun k => l.length - k) 0 rfl ⟨Nat.zero_le _, rfl⟩ ?_
  rintro k ⟨hk, hd⟩
  by_cases hlt : k < l.length
  · obtain ⟨p, hp⟩ := get_some hlt
    have hp2 := map_get (g := encPrt) hp
    have hr := hi p (List.mem_of_getElem? hp)
    simp only [encPrt] at hp2 hr
    cases hb : inM p d with
    | true =>
      rw [hb] at hr
      rw [any_at (f := fun p => inM p d) hp hb]
      (repeat' first | simp (disch := omega) only [go_sem, hp2, List.length_map] | refine pure_of _ (hr) ?_ | (refine spl (fun h => ?_) (fun h => ?_) <;> try simp (disch := omega) only [go_sem, hp2, List.length_map , h]) | fail)
      all_goals omega
    | false =>
      rw [hb] at hr
      (repeat' first | simp (disch := omega) only [go_sem, hp2, List.length_map] | refine pure_of _ (hr) ?_ | (refine spl (fun h => ?_) (fun h => ?_) <;> try simp (disch := omega) only [go_sem, hp2, List.length_map , h]) | fail)
      all_goals try omega
      exact ⟨k + 1, rfl, ⟨hlt, take_succ_none hp hd hb⟩, by omega⟩
  · rw [take_len hlt hk] at hd
    rw [hd]
    (repeat' first | simp (disch := omega) only [go_sem, List.length_map] | (refine spl (fun h => ?_) (fun h => ?_) <;> try simp (disch := omega) only [go_sem, List.length_map, h]) | fail)
    all_goals omega
theorem Has_run (l : List Prt) (d : Dec) (hl : slimP l) (hs : d.digits.length < 2 ^ 31) : PRun CN 585 [encNS l, encDec d] (.bool (hasM l d)) := by
  have hv := set_run l hl
  have hd := upN (decOk_run d hs)
  unfold hasM
  refine prun_of ac585 rfl ?_
  cases h1 : setOk l
  · rw [h1] at hv
    unfold encNS encDec at *
    try simp only [Bool.false_and]
    (repeat' first | simp (disch := omega) only [go_sem, ac585, enter, List.length_map] | refine pure_of _ (hv) ?_ | (refine spl (fun h => ?_) (fun h => ?_) <;> try simp (disch := omega) only [go_sem, ac585, enter, List.length_map , h]) | fail)
  rw [h1] at hv
  cases h2 : decOk d
  · rw [h2] at hd
    unfold encNS encDec at *
    try simp only [Bool.false_and, Bool.and_false]
    (repeat' first | simp (disch := omega) only [go_sem, ac585, enter, List.length_map] | refine pure_of _ (hv) ?_ | refine pure_of _ (hd) ?_ | (refine spl (fun h => ?_) (fun h => ?_) <;> try simp (disch := omega) only [go_sem, ac585, enter, List.length_map , h]) | fail)
  rw [h2] at hd
  have hlen := setOk_len h1
  have hi : ∀ p, p ∈ l → PRun CN 618 [encPrt p, encDec d] (.bool (inM p d)) := fun p hp => In_run p d (setOk_all h1 p hp) h2
  try simp only [Bool.true_and]
  unfold encNS encDec at *
  (repeat' first | simp (disch := omega) only [go_sem, ac585, enter, List.length_map] | refine pure_of _ (hv) ?_ | refine pure_of _ (hd) ?_ | (refine spl (fun h => ?_) (fun h => ?_) <;> try simp (disch := omega) only [go_sem, ac585, enter, List.length_map , h]) | fail)
  refine loop_of (α := Nat) (fun k => { tmps := slots 28 [(2, .ptr 1 0 0 0), (3, .ptr 3 1 0 0), (5, .int .i64 k)], heap := [.row 1 [.agg [.tsl 11 (l.map encPrt)]] false true 0, .row 3 [.agg [.bool d.neg, .str d.digits, .int .i64 d.exp]] false true 1], base := 0 }) (fun k => k ≤ l.length ∧ (l.take k).any (fun p => inM p d) = false) (fun k => l.length - k) 0 rfl ⟨Nat.zero_le _, rfl⟩ ?_
  rintro k ⟨hk, hd⟩
  by_cases hlt : k < l.length
  · obtain ⟨p, hp⟩ := get_some hlt
    have hp2 := map_get (g := encPrt) hp
    have hr := hi p (List.mem_of_getElem? hp)
    simp only [encPrt] at hp2 hr
    cases hb : inM p d with
    | true =>
      rw [hb] at hr
      rw [any_at (f := fun p => inM p d) hp hb]
      (repeat' first | simp (disch := omega) only [go_sem, hp2, List.length_map] | refine pure_of _ (hr) ?_ | (refine spl (fun h => ?_) (fun h => ?_) <;> try simp (disch := omega) only [go_sem, hp2, List.length_map , h]) | fail)
      all_goals omega
    | false =>
      rw [hb] at hr
      (repeat' first | simp (disch := omega) only [go_sem, hp2, List.length_map] | refine pure_of _ (hr) ?_ | (refine spl (fun h => ?_) (fun h => ?_) <;> try simp (disch := omega) only [go_sem, hp2, List.length_map , h]) | fail)
      all_goals try omega
      exact ⟨k + 1, rfl, ⟨hlt, take_succ_none hp hd hb⟩, by omega⟩
  · rw [take_len hlt hk] at hd
    rw [hd]
    (repeat' first | simp (disch := omega) only [go_sem, List.length_map] | (refine spl (fun h => ?_) (fun h => ?_) <;> try simp (disch := omega) only [go_sem, List.length_map, h]) | fail)
    all_goals omega
theorem numsetHas_run (haw : PRun CN 671 [] (.bool true)) (l : List Prt) (d : Dec) (hl : slimP l) (hs : d.digits.length < 2 ^ 31) : PRun CN 664 [encNS l, encDec d] (.bool true) := by
  have h1 := setI_run l hl
  have h2 := set_run l hl
  have h3 := HasI_run l d hl hs
  have h4 := Has_run l d hl hs
  obtain ⟨hl1, hl2⟩ := hl
  refine prun_of ac664 rfl ?_
  unfold encNS encDec at *
  generalize setOk l = b at h1 h2
  generalize hasM l d = c at h3 h4
  cases b <;> cases c
  all_goals
    (repeat' first | simp (disch := omega) only [go_sem, ac664, enter, List.length_map] | refine pure_of _ (h1) ?_ | refine pure_of _ (h2) ?_ | refine pure_of _ (h3) ?_ | refine pure_of _ (h4) ?_ | refine pure_of _ (haw) ?_ | (refine spl (fun h => ?_) (fun h => ?_) <;> try simp (disch := omega) only [go_sem, ac664, enter, List.length_map , h]) | fail)
  all_goals omega
end Ago
