/- access.change, a step down. -/
import Derived.Test.YtglnglflcoeinaaGreatDoorRunJ
import Derived.Test.YtglnglflcoeinaaGreatDoorRunI
import Derived.Test.YtglnglflcoeinaaGreatDoorRunD
set_option linter.unusedSimpArgs false
set_option linter.unusedVariables false
set_option maxRecDepth 100000
set_option maxHeartbeats 4000000
set_option pp.maxSteps 200000
namespace Ago
open Go (IntKind)
theorem changeS_run (s q : Stp) (p : List Stp) (v R : V) (ho : ownM v = true) (hv : v.bulk ≤ 2 ^ 24) (hp : p.length < 2 ^ 30 - 1) (hf : (findM v q).2 = 0) (hr : PRun C0 52 [encV (partM v q), .tsl 3 (p.map encS), fnR s] (encV R)) :
    PRun C0 52 [encV v, .tsl 3 ((q :: p).map encS), fnR s] (encV (if q.byIndex then listV (v.l.set q.index.toNat R) else mapV (v.f.set ((keyAt v.f q.key).getD 0) (q.key, R)))) := by
  have L := V.lens hv
  have hll := L.list
  have hlf := L.fields
  obtain ⟨_, sh6, sh7⟩ := own_shape ho
  obtain ⟨hfit, hx⟩ := find_ok hf
  have h54 := findI_run v q hv
  have hpl : List.take p.length (p.map encS) = p.map encS := List.take_of_length_le (by simp)
  refine prun_of ac52 rfl ?_
  unfold fnR at *
  rw [List.map_cons, encS_of]
  rw [encS_of] at h54
  cases hb : q.byIndex with
  | true =>
    rw [if_pos hb] at hx
    obtain ⟨i, x, e1, e2, e3⟩ := hx
    have h6 : v.s.kind = 6 := by unfold fitsM at hfit; rw [if_pos hb] at hfit; simpa using hfit
    have hvl := sh6 h6
    have hi : q.index = i := by
      unfold findM at e1
      rw [if_pos hb, if_neg (by simp [h6])] at e1
      split at e1
      · cases e1
      · exact congrArg Prod.fst e1
    have hlt : i < v.l.length := (List.getElem?_eq_some_iff.1 e2).1
    have hit : q.index.toNat = i := by omega
    rw [hit, if_pos rfl]
    rw [e1, hb] at h54
    rw [e3] at hr
    have hz : ((v.l.length : Int) = 0) = False := eq_false (by omega)
    have hx2 := map_get (g := encV) e2
    have htk0 : List.take v.l.length (v.l.map encV) = v.l.map encV := List.take_of_length_le (by simp)
    have htk : ∀ e, List.take v.l.length ((v.l.map encV).set i e) = (v.l.map encV).set i e := fun e => List.take_of_length_le (by simp)
    have hset : ∀ H : Heap, omap (frz H 4) ((v.l.map encV).set i (encV R)) = some ((v.l.set i R).map encV) := fun H => by
      rw [← List.map_set]
      exact omap_encV4 H _
    rw [encV_eq R] at hset hr
    rw [encV_eq x] at hr hx2
    have hve : encV v = encV (listV v.l) := congrArg encV hvl
    rw [listV_enc]
    rw [hve, listV_enc] at h54 ⊢
    (repeat' first | simp (disch := omega) only [go_sem, ac52, enter, zeroS, List.length_map, List.length_replicate, List.length_set, hpl, hz, htk0, List.drop_replicate, Nat.min_self, Nat.sub_self, hx2, htk, hset, List.append_nil, Nat.le_refl] | refine pure_of _ (h54) ?_ | refine pure_of _ (hr) ?_ | ((apply spl) <;> intro h <;> try simp (disch := omega) only [go_sem, ac52, enter, zeroS, List.length_map, List.length_replicate, List.length_set, hpl, hz, htk0, List.drop_replicate, Nat.min_self, Nat.sub_self, hx2, htk, hset, List.append_nil, Nat.le_refl , h]))
  | false =>
    rw [if_neg (by rw [hb]; simp)] at hx
    obtain ⟨i, x, e1, e2, e3⟩ := hx
    have h7 : v.s.kind = 7 := by unfold fitsM at hfit; rw [if_neg (by rw [hb]; simp)] at hfit; simpa using hfit
    have hvl := sh7 h7
    have hk : keyAt v.f q.key = some i := by
      unfold findM at e1
      rw [if_neg (by rw [hb]; simp), if_neg (by simp [h7])] at e1
      cases hk : keyAt v.f q.key with
      | none => rw [hk] at e1; simp at e1
      | some j =>
        rw [hk] at e1
        have : (j : Int) = i := congrArg Prod.fst e1
        congr 1
        omega
    have hlt : i < v.f.length := (List.getElem?_eq_some_iff.1 e2).1
    obtain ⟨z, hz1, hzk⟩ := keyAt_get hk
    have hzx : z = x := by rw [e2] at hz1; exact (Option.some.inj hz1).symm
    subst hzx
    rw [hk, if_neg (by simp), Option.getD_some, ← hzk]
    rw [e1, hb, ← hzk] at h54
    rw [e3] at hr
    have hz : ((v.f.length : Int) = 0) = False := eq_false (by omega)
    have hx2 := map_get (g := encFd) e2
    have htk0 : List.take v.f.length (v.f.map encFd) = v.f.map encFd := List.take_of_length_le (by simp)
    have htk : ∀ e, List.take v.f.length ((v.f.map encFd).set i e) = (v.f.map encFd).set i e := fun e => List.take_of_length_le (by simp)
    have hset : ∀ H : Heap, omap (frz H 4) ((v.f.map encFd).set i (encFd (z.1, R))) = some ((v.f.set i (z.1, R)).map encFd) := fun H => by
      rw [← List.map_set]
      exact omap_encFd4 H _
    rw [encFd_eq] at hset hx2
    rw [encV_eq R] at hr
    rw [encV_eq z.2] at hr
    have hve : encV v = encV (mapV v.f) := congrArg encV hvl
    rw [mapV_enc]
    rw [hve, mapV_enc] at h54 ⊢
    (repeat' first | simp (disch := omega) only [go_sem, ac52, enter, zeroS, List.length_map, List.length_replicate, List.length_set, hpl, hz, htk0, List.drop_replicate, Nat.min_self, Nat.sub_self, hx2, htk, hset, List.append_nil, Nat.le_refl] | refine pure_of _ (h54) ?_ | refine pure_of _ (hr) ?_ | ((apply spl) <;> intro h <;> try simp (disch := omega) only [go_sem, ac52, enter, zeroS, List.length_map, List.length_replicate, List.length_set, hpl, hz, htk0, List.drop_replicate, Nat.min_self, Nat.sub_self, hx2, htk, hset, List.append_nil, Nat.le_refl , h]))
end Ago
/- access.change, whole. -/
set_option maxRecDepth 100000
set_option maxHeartbeats 4000000
namespace Ago
open Go (IntKind)
theorem change_run (s : Stp) : ∀ (p : List Stp) (v : V) (n : Nat), n ≤ 100 → Gd n v → v.bulk ≤ 2 ^ 24 → p.length < 2 ^ 30 → (atM v (p ++ [s])).2 = 0 → PRun C0 52 [encV v, .tsl 3 (p.map encS), fnR s] (encV (remM p s v))
  | [], v, n, hn, hg, hv, hp, hat => by
    have hf : (findM v s).2 = 0 := by
      rw [List.nil_append, atM] at hat
      split at hat
      · exact hat
      · rename_i h
        exact Classical.not_not.1 h
    exact change0_run s v hg.own hv hf
  | q :: p, v, n, hn, hg, hv, hp, hat => by
    have hp' : p.length < 2 ^ 30 - 1 := by
      have : p.length + 1 < 2 ^ 30 := by simpa using hp
      omega
    rw [List.cons_append, atM] at hat
    split at hat
    · rename_i h
      exact (h hat).elim
    · rename_i h
      have hf := Classical.not_not.1 h
      obtain ⟨⟨m, hm, hgp⟩, hbp⟩ := part_sub hn hg hv (find_ok hf).1
      exact changeS_run s q p v _ hg.own hv hp' hf (change_run s p (partM v q) m hm hgp hbp (by omega) hat)
end Ago
/- What is removed leaves a valid value. -/
set_option maxRecDepth 100000
set_option maxHeartbeats 4000000
namespace Ago
open Go (IntKind)
theorem keysGo_zero : ∀ (l pre : List (List UInt8)), keysGo pre l = 0 ↔ (∀ x, x ∈ l → utf x = true ∧ x.length ≤ 1024) ∧ l.Nodup ∧ ∀ x, x ∈ l → x ∉ pre
  | [], pre => by simp [keysGo]
  | x :: l, pre => by
    have ih := keysGo_zero l (pre ++ [x])
    unfold keysGo
    by_cases h1 : utf x = false
    · rw [if_pos h1]
      constructor
      · intro h; cases h
      · rintro ⟨h, _⟩
        have := (h x (by simp)).1
        rw [h1] at this
        cases this
    · rw [if_neg h1]
      by_cases h2 : 1024 < x.length
      · rw [if_pos h2]
        constructor
        · intro h; cases h
        · rintro ⟨h, _⟩
          have := (h x (by simp)).2
          omega
      · rw [if_neg h2]
        by_cases h3 : pre.contains x = true
        · rw [if_pos h3]
          constructor
          · intro h; cases h
          · rintro ⟨_, _, h⟩
            exact absurd (List.contains_iff_mem.1 h3) (h x (by simp))
        · rw [if_neg h3, ih]
          have h3' : x ∉ pre := fun h => h3 (List.contains_iff_mem.2 h)
          have h1' : utf x = true := by simpa using h1
          constructor
          · rintro ⟨a, b, c⟩
            refine ⟨fun y hy => ?_, List.nodup_cons.2 ⟨fun hx => by have := c x hx; simp at this, b⟩, fun y hy => ?_⟩
            · rcases List.mem_cons.1 hy with rfl | hy
              · exact ⟨h1', by omega⟩
              · exact a y hy
            · rcases List.mem_cons.1 hy with rfl | hy
              · exact h3'
              · have := c y hy
                simp at this
                exact this.1
          · rintro ⟨a, b, c⟩
            obtain ⟨b1, b2⟩ := List.nodup_cons.1 b
            refine ⟨fun y hy => a y (by simp [hy]), b2, fun y hy => ?_⟩
            rw [List.mem_append, List.mem_singleton]
            rintro (h | rfl)
            · exact c y (by simp [hy]) h
            · exact b1 hy
theorem keysM_sub {l m : List (List UInt8)} (h : keysM l = 0) (hs : m.Sublist l) : keysM m = 0 := by
  unfold keysM at *
  rw [keysGo_zero] at *
  exact ⟨fun x hx => h.1 x (hs.mem hx), hs.nodup h.2.1, fun x _ => by simp⟩
theorem mapV_gd {n : Nat} {f : List (List UInt8 × V)} (hk : keysM (f.map (·.1)) = 0) (h : ∀ x, x ∈ f → Gd n x.2) : Gd (n + 1) (mapV f) := .mk (by rw [mapV_one]; exact hk) fun x hx => by
  rw [mapV_kids] at hx
  obtain ⟨y, hy, rfl⟩ := List.mem_map.1 hx
  exact h y hy
theorem listV_gd {n : Nat} {l : List V} (h : ∀ x, x ∈ l → Gd n x) : Gd (n + 1) (listV l) := .mk (listV_one l) fun x hx => by
  rw [listV_kids] at hx
  exact h x hx
theorem remM_gd (s : Stp) : ∀ (p : List Stp) (v : V) (n : Nat), Gd n v → (atM v (p ++ [s])).2 = 0 → Gd n (remM p s v)
  | [], v, n, hg, hat => by
    have hf : (findM v s).2 = 0 := by
      rw [List.nil_append, atM] at hat
      split at hat
      · exact hat
      · rename_i h
        exact Classical.not_not.1 h
    have hfit := (find_ok hf).1
    rw [show remM [] s v = if s.byIndex then listV (v.l.eraseIdx s.index.toNat) else mapV (v.f.eraseIdx ((keyAt v.f s.key).getD 0)) from rfl]
    cases hg with
    | @mk n _ h hk =>
      cases hb : s.byIndex with
      | true =>
        have h6 : v.s.kind = 6 := by unfold fitsM at hfit; rw [if_pos hb] at hfit; simpa using hfit
        rw [if_pos rfl]
        exact listV_gd fun x hx => hk x (by unfold V.kids; rw [if_neg (by omega)]; exact List.mem_of_mem_eraseIdx hx)
      | false =>
        have h7 : v.s.kind = 7 := by unfold fitsM at hfit; rw [if_neg (by rw [hb]; simp)] at hfit; simpa using hfit
        rw [if_neg (by simp)]
        refine mapV_gd (keysM_sub (one_zero h).2.2.2.2.2.2 ((List.eraseIdx_sublist _ _).map _)) fun x hx => hk x.2 ?_
        unfold V.kids
        rw [if_pos h7]
        exact List.mem_map_of_mem (List.mem_of_mem_eraseIdx hx)
  | q :: p, v, n, hg, hat => by
    rw [List.cons_append, atM] at hat
    split at hat
    · rename_i h
      exact (h hat).elim
    · rename_i h
      have hf := Classical.not_not.1 h
      obtain ⟨hfit, hx⟩ := find_ok hf
      rw [show remM (q :: p) s v = if q.byIndex then listV (v.l.set q.index.toNat (remM p s (partM v q))) else mapV (v.f.set ((keyAt v.f q.key).getD 0) (q.key, remM p s (partM v q))) from rfl]
      cases hg with
      | @mk n _ h1 hk =>
        cases hb : q.byIndex with
        | true =>
          have h6 : v.s.kind = 6 := by unfold fitsM at hfit; rw [if_pos hb] at hfit; simpa using hfit
          rw [if_pos hb] at hx
          obtain ⟨i, x, e1, e2, e3⟩ := hx
          have hxg : Gd n (partM v q) := by
            rw [e3]
            exact hk x (by unfold V.kids; rw [if_neg (by omega)]; exact List.mem_of_getElem? e2)
          rw [if_pos rfl]
          refine listV_gd fun y hy => ?_
          rcases List.mem_or_eq_of_mem_set hy with hy | rfl
          · exact hk y (by unfold V.kids; rw [if_neg (by omega)]; exact hy)
          · exact remM_gd s p _ n hxg hat
        | false =>
          have h7 : v.s.kind = 7 := by unfold fitsM at hfit; rw [if_neg (by rw [hb]; simp)] at hfit; simpa using hfit
          rw [if_neg (by rw [hb]; simp)] at hx
          obtain ⟨i, x, e1, e2, e3⟩ := hx
          have hxg : Gd n (partM v q) := by
            rw [e3]
            exact hk x.2 (by unfold V.kids; rw [if_pos h7]; exact List.mem_map_of_mem (List.mem_of_getElem? e2))
          rw [if_neg (by simp)]
          have hkeys : ((v.f.set ((keyAt v.f q.key).getD 0) (q.key, remM p s (partM v q))).map (·.1)) = v.f.map (·.1) := by
            rw [List.map_set]
            cases hka : keyAt v.f q.key with
            | none =>
              unfold findM at e1
              rw [if_neg (by rw [hb]; simp), if_neg (by simp [h7]), hka] at e1
              simp at e1
            | some j =>
              obtain ⟨z, hz1, hz2⟩ := keyAt_get hka
              apply List.ext_getElem?
              intro r
              rw [List.getElem?_set]
              split
              · rename_i e
                subst e
                have := map_get (g := fun y : List UInt8 × V => y.1) hz1
                simp only [Option.getD_some]
                split
                · rw [this, hz2]
                · rename_i hlt
                  have := (List.getElem?_eq_some_iff.1 this).1
                  exact absurd this hlt
              · rfl
          refine mapV_gd (by rw [hkeys]; exact (one_zero h1).2.2.2.2.2.2) fun y hy => ?_
          rcases List.mem_or_eq_of_mem_set hy with hy | rfl
          · exact hk y.2 (by unfold V.kids; rw [if_pos h7]; exact List.mem_map_of_mem hy)
          · exact remM_gd s p _ n hxg hat
end Ago
/- access.Remove, at a path that is there. -/
set_option maxRecDepth 100000
set_option maxHeartbeats 4000000
namespace Ago
open Go (IntKind)
theorem remove_run (p : List Stp) (s : Stp) (v : V) (hg : Gd 100 v) (hv : v.bulk ≤ 2 ^ 24) (hok : pathOk (p ++ [s]) = true) (hat : (atM v (p ++ [s])).2 = 0) (hb : (remM p s v).bulk ≤ 2 ^ 24) :
    PRun C0 36 [encV v, .tsl 3 ((p ++ [s]).map encS)] (.tup [encV (remM p s v), .int .i64 0]) := by
  have hlen : (p ++ [s]).length ≤ 48 := by
    unfold pathOk at hok
    simp only [Bool.and_eq_true, decide_eq_true_eq] at hok
    exact hok.1
  have hp : p.length < 48 := by simp at hlen; omega
  have hk : ∀ t, t ∈ p ++ [s] → t.key.length < 2 ^ 30 := fun t ht => by
    unfold pathOk at hok
    simp only [Bool.and_eq_true, List.all_eq_true] at hok
    have := hok.2 t ht
    unfold stpOk at this
    split at this
    · simp only [Bool.and_eq_true, beq_iff_eq] at this
      rw [this.1.1]
      simp
    · simp only [Bool.and_eq_true, decide_eq_true_eq] at this
      omega
  have h1 := pathValidI_run (p ++ [s]) (by omega) hk
  have h2 := atI_run v (p ++ [s]) hv (by omega)
  have h3 := change_run s p v 100 (Nat.le_refl _) hg hv (by omega) hat
  have h4 := copy_run (remM_gd s p v 100 hg hat).good (by omega) hb
  have hl : ((p ++ [s]).map encS).length = p.length + 1 := by simp
  have htk : List.take p.length ((p ++ [s]).map encS) = p.map encS := by simp
  have hget : ((p ++ [s]).map encS)[p.length]? = some (encS s) := by simp
  have hsub : ((p.length : Int) + 1 - 1) = p.length := by omega
  have hti : (((p.length + 1 : Nat) : Int) - 1).toNat = p.length := by omega
  rw [hok] at h1
  unfold fnR at h3
  generalize remM p s v = R at h3 h4 ⊢
  generalize atM v (p ++ [s]) = A at h2 hat
  rw [hat] at h2
  rw [encS_of] at hget
  generalize (p ++ [s]).map encS = PS at *
  refine prun_of ac36 rfl ?_
  rw [encV_eq v] at *
  rw [encV_eq A.1] at h2
  rw [encV_eq R] at h3 h4 ⊢
  (repeat' first | simp (disch := omega) only [go_sem, ac36, enter, zeroS, keep_mk, hl, htk, hget, hsub, hti, Int.toNat_natCast, markFrom, Blk.mark, List.contains_cons, List.contains_nil, Bool.or_false] | refine pure_of _ (h1) ?_ | refine pure_of _ (h2) ?_ | refine pure_of _ (h3) ?_ | refine pure_of _ (h4) ?_ | ((apply spl) <;> intro h <;> try simp (disch := omega) only [go_sem, ac36, enter, zeroS, keep_mk, hl, htk, hget, hsub, hti, Int.toNat_natCast, markFrom, Blk.mark, List.contains_cons, List.contains_nil, Bool.or_false , h]))
end Ago
/- The reference's Delete: longer paths, and whether a path goes. -/
set_option maxRecDepth 100000
set_option maxHeartbeats 4000000
namespace Ago
open Go (IntKind)
theorem longer_run (p : List Stp) (s : Stp) (hp : p.length < 2 ^ 24) : PRun C0 55 [.tsl 3 (p.map encS), encS s] (.tsl 3 ((p ++ [s]).map encS)) := by
  refine prun_of ac55 rfl ?_
  rw [encS_of, List.map_append, List.map_cons, List.map_nil, encS_of s]
  cases p with
  | nil =>
    rw [List.map_nil]
    (repeat' first | simp (disch := omega) only [go_sem, ac55, enter] | ((apply spl) <;> intro h <;> try simp (disch := omega) only [go_sem, ac55, enter, h]))
  | cons x p =>
    have hp' : p.length < 2 ^ 24 - 1 := by
      have : p.length + 1 < 2 ^ 24 := by simpa using hp
      omega
    have htk : ∀ e, List.take (p.length + 1) (p.map encS ++ [e]) = p.map encS ++ [e] := fun e => List.take_of_length_le (by simp)
    rw [List.map_cons]
    (repeat' first | simp (disch := omega) only [go_sem, ac55, enter, List.length_map, List.length_append, htk] | ((apply spl) <;> intro h <;> try simp (disch := omega) only [go_sem, ac55, enter, List.length_map, List.length_append, htk, h]))
/-- Does a path go? -/
def goesM (p : List Stp) (l : List (List Stp)) : Bool := l.any fun q => decide (p = q)
theorem goes_run (p : List Stp) (l : List (List Stp)) (hp : p.length < 2 ^ 30) (hl : l.length < 2 ^ 30) (hq : ∀ q, q ∈ l → q.length < 2 ^ 30) : PRun C0 56 [.tsl 3 (p.map encS), encPs l] (.bool (goesM p l)) := by
  refine prun_of ac56 rfl ?_
  unfold encPs
  (repeat' first | simp (disch := omega) only [go_sem, ac56, enter] | ((apply spl) <;> intro h <;> try simp (disch := omega) only [go_sem, ac56, enter, h]))
  refine loop_of (α := Nat) (fun k => { tmps := slots 18 [(0, .tsl 3 (p.map encS)), (1, .tsl 1 (l.map encP)), (5, .int .i64 k)], heap := [], base := 0 }) (fun k => k ≤ l.length ∧ ∀ q, q ∈ l.take k → ¬ p = q) (fun k => l.length - k) 0 rfl ⟨Nat.zero_le _, by simp⟩ ?_
  rintro k ⟨hk1, hk2⟩
  by_cases hlt : k < l.length
  · obtain ⟨q, hx⟩ := get_some hlt
    have hx2 : (l.map encP)[k]? = some (.tsl 3 (q.map encS)) := map_get (g := encP) hx
    have he := pathEqual_run p q hp (hq q (List.mem_of_getElem? hx))
    by_cases hpq : p = q
    · have hg : goesM p l = true := by
        unfold goesM
        rw [List.any_eq_true]
        exact ⟨q, List.mem_of_getElem? hx, by simpa using hpq⟩
      rw [hg]
      rw [decide_eq_true hpq] at he
      (repeat' first | simp (disch := omega) only [go_sem, hx2, List.length_map] | refine pure_of _ (he) ?_ | ((apply spl) <;> intro h <;> try simp (disch := omega) only [go_sem, hx2, List.length_map , h]))
    · rw [decide_eq_false hpq] at he
      (repeat' first | simp (disch := omega) only [go_sem, hx2, List.length_map] | refine pure_of _ (he) ?_ | ((apply spl) <;> intro h <;> try simp (disch := omega) only [go_sem, hx2, List.length_map , h]))
      refine ⟨k + 1, rfl, ⟨hlt, fun y hy => ?_⟩, by omega⟩
      rw [List.take_add_one, hx] at hy
      rcases List.mem_append.1 hy with hy | hy
      · exact hk2 y hy
      · have e : y = q := by simpa using hy
        rw [e]
        exact hpq
  · rw [take_len hlt hk1] at hk2
    have hg : goesM p l = false := by
      unfold goesM
      rw [List.any_eq_false]
      exact fun q hq => by simpa using hk2 q hq
    rw [hg]
    (repeat' first | simp (disch := omega) only [go_sem, List.length_map] | ((apply spl) <;> intro h <;> try simp (disch := omega) only [go_sem, List.length_map, h]))
end Ago
/- The reference's Delete: a value without the parts that go. -/
set_option maxRecDepth 100000
set_option maxHeartbeats 4000000
set_option pp.maxSteps 200000
namespace Ago
open Go (IntKind)
theorem bulks_erase : ∀ (l : List AV) (i : Nat), AV.bulks (l.eraseIdx i) ≤ AV.bulks l
  | [], i => by simp [AV.bulks]
  | x :: l, 0 => by simp [AV.bulks]
  | x :: l, i + 1 => by
    have := bulks_erase l i
    simp [AV.bulks]
    omega
theorem erase_map {α β : Type} (g : α → β) (l : List α) (i : Nat) : (l.map g).eraseIdx i = (l.eraseIdx i).map g := by
  rw [List.eraseIdx_eq_take_drop_succ, List.eraseIdx_eq_take_drop_succ, List.map_append, List.map_take, List.map_drop]
/-- What is removed makes nothing larger. -/
theorem remM_bulk (s : Stp) : ∀ (p : List Stp) (v : V), (atM v (p ++ [s])).2 = 0 → (remM p s v).bulk ≤ v.bulk
  | [], v, hat => by
    rw [show remM [] s v = if s.byIndex then listV (v.l.eraseIdx s.index.toNat) else mapV (v.f.eraseIdx ((keyAt v.f s.key).getD 0)) from rfl]
    have e := v.bulk_eq
    split
    · rw [bulk_listV, ← erase_map]
      have := bulks_erase (v.l.map encV) s.index.toNat
      omega
    · rw [bulk_mapV, ← erase_map]
      have := bulks_erase (v.f.map encFd) ((keyAt v.f s.key).getD 0)
      omega
  | q :: p, v, hat => by
    rw [List.cons_append, atM] at hat
    split at hat
    · rename_i h
      exact (h hat).elim
    · rename_i h
      have hf := Classical.not_not.1 h
      obtain ⟨hfit, hx⟩ := find_ok hf
      have ih := remM_bulk s p (partM v q) hat
      have e := v.bulk_eq
      rw [show remM (q :: p) s v = if q.byIndex then listV (v.l.set q.index.toNat (remM p s (partM v q))) else mapV (v.f.set ((keyAt v.f q.key).getD 0) (q.key, remM p s (partM v q))) from rfl]
      cases hb : q.byIndex with
      | true =>
        rw [if_pos hb] at hx
        obtain ⟨i, x, e1, e2, e3⟩ := hx
        have hi : q.index.toNat = i := by
          unfold findM at e1
          rw [if_pos hb] at e1
          split at e1
          · simp at e1
          · split at e1
            · simp at e1
            · have := congrArg Prod.fst e1
              simp only at this
              omega
        rw [if_pos rfl, bulk_listV, hi, List.map_set]
        rw [e3] at ih ⊢
        have := bulks_set (y := encV (remM p s x)) (map_get (g := encV) e2)
        have k1 : (encV x).bulk = x.bulk := rfl
        have k2 : (encV (remM p s x)).bulk = (remM p s x).bulk := rfl
        omega
      | false =>
        rw [if_neg (by rw [hb]; simp)] at hx
        obtain ⟨i, x, e1, e2, e3⟩ := hx
        cases hka : keyAt v.f q.key with
        | none =>
          unfold findM at e1
          rw [if_neg (by rw [hb]; simp), hka] at e1
          split at e1 <;> simp at e1
        | some j =>
          obtain ⟨z, hz1, hz2⟩ := keyAt_get hka
          have hji : j = i := by
            unfold findM at e1
            rw [if_neg (by rw [hb]; simp), hka] at e1
            split at e1
            · simp at e1
            · have := congrArg Prod.fst e1
              simp only at this
              omega
          subst hji
          rw [e2] at hz1
          cases hz1
          rw [if_neg (by simp), bulk_mapV, Option.getD_some, List.map_set]
          rw [e3] at ih ⊢
          have := bulks_set (y := encFd (q.key, remM p s x.2)) (map_get (g := encFd) e2)
          rw [bulk_fd, bulk_fd] at this
          simp only at this
          have hlk : x.1.length = q.key.length := by rw [hz2]
          omega
end Ago
/- The reference's Delete: a value without the parts that go (under way). -/
set_option maxRecDepth 100000
set_option maxHeartbeats 4000000
set_option pp.maxSteps 200000
namespace Ago
open Go (IntKind)
/-- What is left of a list's elements, of a map's fields. -/
def woL (F : V → List Stp → V) (at_ : List Stp) (l : List (List Stp)) : List V → Nat → List V
  | [], _ => []
  | x :: r, i => if goesM (at_ ++ [⟨true, [], i⟩]) l then woL F at_ l r (i + 1) else F x (at_ ++ [⟨true, [], i⟩]) :: woL F at_ l r (i + 1)
def woF (F : V → List Stp → V) (at_ : List Stp) (l : List (List Stp)) : List (List UInt8 × V) → List (List UInt8 × V)
  | [] => []
  | x :: r => if goesM (at_ ++ [⟨false, x.1, 0⟩]) l then woF F at_ l r else (x.1, F x.2 (at_ ++ [⟨false, x.1, 0⟩])) :: woF F at_ l r
def woM : Nat → V → List Stp → List (List Stp) → V
  | 0, v, _, _ => v
  | n + 1, v, at_, l => if v.l = [] ∧ v.f = [] then v else if v.s.kind = 6 then listV (woL (fun x q => woM n x q l) at_ l v.l 0) else mapV (woF (fun x q => woM n x q l) at_ l v.f)
theorem without0_run (v : V) (at_ : List Stp) (l : List (List Stp)) (h1 : v.l = []) (h2 : v.f = []) : PRun C0 37 [encV v, .tsl 3 (at_.map encS), encPs l] (encV v) := by
  refine prun_of ac37 rfl ?_
  unfold encPs
  rw [encV_eq v, h1, h2]
  (repeat' first | simp (disch := omega) only [go_sem, ac37, enter, zeroS, List.map_nil] | ((apply spl) <;> intro h <;> try simp (disch := omega) only [go_sem, ac37, enter, zeroS, List.map_nil, h]))
theorem withoutL_run (F : V → List Stp → V) (L : List V) (at_ : List Stp) (l : List (List Stp)) (hne : L ≠ []) (hL : L.length < 2 ^ 24) (ha : at_.length < 2 ^ 23) (hl : l.length < 2 ^ 30) (hq : ∀ q, q ∈ l → q.length < 2 ^ 30)
    (hF : ∀ x, x ∈ L → ∀ q : List Stp, q.length ≤ at_.length + 1 → PRun C0 37 [encV x, .tsl 3 (q.map encS), encPs l] (encV (F x q))) :
    PRun C0 37 [encV (listV L), .tsl 3 (at_.map encS), encPs l] (encV (listV (woL F at_ l L 0))) := by
  have hpos : 0 < L.length := List.length_pos_iff.2 hne
  refine prun_of ac37 rfl ?_
  have hle := listV_enc L
  rw [listV_enc, listV_enc]
  unfold encPs at *
  have hz : ((L.length : Int) == 0) = false := by simp; omega
  (repeat' first | simp (disch := omega) only [go_sem, ac37, enter, zeroS, List.length_map, hz] | ((apply spl) <;> intro h <;> try simp (disch := omega) only [go_sem, ac37, enter, zeroS, List.length_map, hz, h]))
  refine loop_of (α := Nat × List AV) (fun a => { tmps := slots 96 [(1, .tsl 3 (at_.map encS)), (2, .tsl 1 (l.map encP)), (3, .ptr 13 0 0 0), (6, .ptr 13 1 0 0), (7, .ptr 13 2 0 0), (8, .int .i64 a.1)], heap := [.row 13 [encV (listV L)] false true 0, .row 13 [zeroS] false true 1] ++ boxL 2 a.2, base := 0 })
    (fun a => a.1 ≤ L.length ∧ a.2.length ≤ a.1 ∧ a.2 ++ (woL F at_ l (L.drop a.1) a.1).map encV = (woL F at_ l L 0).map encV) (fun a => L.length - a.1) (0, []) (by rw [hle]; rfl) ⟨Nat.zero_le _, by simp, rfl⟩ ?_
  rintro ⟨k, els⟩ ⟨hk, hlen, hm⟩
  simp only at hk hlen hm
  rw [hle]
  by_cases hlt : k < L.length
  · obtain ⟨x, hx⟩ := get_some hlt
    have hxm := List.mem_of_getElem? hx
    have hx2 := map_get (g := encV) hx
    have hd := drop_cons hx
    rw [hd, woL] at hm
    have h55 := longer_run at_ ⟨true, [], k⟩ (by omega)
    have h56 := goes_run (at_ ++ [⟨true, [], k⟩]) l (by simp; omega) hl hq
    have h37 := hF x hxm (at_ ++ [⟨true, [], k⟩]) (by simp)
    unfold encPs at h56
    rw [encS_of] at h55
    simp only at h55
    generalize (at_ ++ [(⟨true, [], (k : Int)⟩ : Stp)]) = q at h55 h56 h37 hm
    rw [encV_eq x] at hx2 h37
    cases hg : goesM q l with
    | true =>
      rw [hg] at h56
      rw [if_pos hg] at hm
      cases els with
      | nil =>
        (repeat' first | simp (disch := omega) only [go_sem, hx2, outS, boxL, zeroS, List.length_map] | refine pure_of _ (h55) ?_ | refine pure_of _ (h56) ?_ | ((apply spl) <;> intro h <;> try simp (disch := omega) only [go_sem, hx2, outS, boxL, zeroS, List.length_map , h]))
        exact ⟨(k + 1, []), rfl, ⟨hlt, by simp, hm⟩, by simp only; omega⟩
      | cons z els =>
        (repeat' first | simp (disch := omega) only [go_sem, hx2, outS, boxL, zeroS, List.length_map] | refine pure_of _ (h55) ?_ | refine pure_of _ (h56) ?_ | ((apply spl) <;> intro h <;> try simp (disch := omega) only [go_sem, hx2, outS, boxL, zeroS, List.length_map , h]))
        exact ⟨(k + 1, z :: els), rfl, ⟨hlt, by simp only; omega, hm⟩, by simp only; omega⟩
    | false =>
      rw [hg] at h56
      rw [if_neg (by rw [hg]; simp), List.map_cons] at hm
      generalize F x q = y at h37 hm
      have hm2 : (els ++ [encV y]) ++ (woL F at_ l (L.drop (k + 1)) (k + 1)).map encV = (woL F at_ l L 0).map encV := by
        rw [List.append_assoc]
        exact hm
      rw [encV_eq y] at h37 hm2
      cases els with
      | nil =>
        (repeat' first | simp (disch := omega) only [go_sem, hx2, outS, boxL, zeroS, List.length_map, keep_mk] | refine pure_of _ (h55) ?_ | refine pure_of _ (h56) ?_ | refine pure_of _ (h37) ?_ | ((apply spl) <;> intro h <;> try simp (disch := omega) only [go_sem, hx2, outS, boxL, zeroS, List.length_map, keep_mk , h]))
        exact ⟨(k + 1, _), rfl, ⟨hlt, by simp, hm2⟩, by simp only; omega⟩
      | cons z els =>
        simp only [List.length_cons] at hlen
        (repeat' first | simp (disch := omega) only [go_sem, hx2, outS, boxL, zeroS, List.length_map, keep_mk] | refine pure_of _ (h55) ?_ | refine pure_of _ (h56) ?_ | refine pure_of _ (h37) ?_ | ((apply spl) <;> intro h <;> try simp (disch := omega) only [go_sem, hx2, outS, boxL, zeroS, List.length_map, keep_mk , h]))
        refine ⟨(k + 1, _), ?_, ⟨hlt, ?_, hm2⟩, by simp only; omega⟩
        · simp only [List.cons_append, boxL, outS, List.length_append, List.length_cons, List.length_nil]
          rfl
        · simp
          omega
  · rw [List.drop_of_length_le (by omega), show woL F at_ l [] k = [] from rfl, List.map_nil, List.append_nil] at hm
    rw [← hm]
    cases els with
    | nil =>
      (repeat' first | simp (disch := omega) only [go_sem, outS, boxL, zeroS, List.length_map] | ((apply spl) <;> intro h <;> try simp (disch := omega) only [go_sem, outS, boxL, zeroS, List.length_map, h]))
      refine loop_of (α := Unit) (fun _ => { tmps := slots 96 [(1, .tsl 3 (at_.map encS)), (2, .tsl 1 (l.map encP)), (3, .ptr 13 0 0 0), (6, .ptr 13 1 0 0), (7, .ptr 13 2 0 0), (10, .int .i64 0)], heap := [.row 13 [encV (listV L)] false true 0, .row 13 [zeroS] false true 1] ++ boxL 2 [], base := 0 }) (fun _ => True) (fun _ => 0) () (by rw [hle]; rfl) trivial ?_
      rintro _ _
      rw [hle]
      (repeat' first | simp (disch := omega) only [go_sem, outS, boxL, zeroS, List.take_length] | ((apply spl) <;> intro h <;> try simp (disch := omega) only [go_sem, outS, boxL, zeroS, List.take_length, h]))
    | cons z els =>
      (repeat' first | simp (disch := omega) only [go_sem, outS, boxL, zeroS, List.length_map] | ((apply spl) <;> intro h <;> try simp (disch := omega) only [go_sem, outS, boxL, zeroS, List.length_map, h]))
      refine loop_of (α := Unit) (fun _ => { tmps := slots 96 [(1, .tsl 3 (at_.map encS)), (2, .tsl 1 (l.map encP)), (3, .ptr 13 0 0 0), (6, .ptr 13 1 0 0), (7, .ptr 13 2 0 0), (10, .int .i64 0)], heap := [.row 13 [encV (listV L)] false true 0, .row 13 [zeroS] false true 1] ++ boxL 2 (z :: els), base := 0 }) (fun _ => True) (fun _ => 0) () (by rw [hle]; rfl) trivial ?_
      rintro _ _
      rw [hle]
      (repeat' first | simp (disch := omega) only [go_sem, outS, boxL, zeroS, List.take_length] | ((apply spl) <;> intro h <;> try simp (disch := omega) only [go_sem, outS, boxL, zeroS, List.take_length, h]))
end Ago
/- The reference's Delete: a value without the parts that go, on maps and as a whole. -/
set_option maxRecDepth 100000
set_option maxHeartbeats 4000000
set_option pp.maxSteps 200000
namespace Ago
open Go (IntKind)
theorem withoutF_run (F : V → List Stp → V) (f : List (List UInt8 × V)) (at_ : List Stp) (l : List (List Stp)) (hne : f ≠ []) (hL : f.length < 2 ^ 24) (ha : at_.length < 2 ^ 23) (hl : l.length < 2 ^ 30) (hq : ∀ q, q ∈ l → q.length < 2 ^ 30)
    (hF : ∀ x, x ∈ f → ∀ q : List Stp, q.length ≤ at_.length + 1 → PRun C0 37 [encV x.2, .tsl 3 (q.map encS), encPs l] (encV (F x.2 q))) :
    PRun C0 37 [encV (mapV f), .tsl 3 (at_.map encS), encPs l] (encV (mapV (woF F at_ l f))) := by
  have hpos : 0 < f.length := List.length_pos_iff.2 hne
  refine prun_of ac37 rfl ?_
  have hle := mapV_enc f
  rw [mapV_enc, mapV_enc]
  unfold encPs at *
  have hz : ((f.length : Int) == 0) = false := by simp; omega
  (repeat' first | simp (disch := omega) only [go_sem, ac37, enter, zeroS, List.length_map, hz] | ((apply spl) <;> intro h <;> try simp (disch := omega) only [go_sem, ac37, enter, zeroS, List.length_map, hz, h]))
  refine loop_of (α := Unit) (fun _ => { tmps := slots 96 [(1, .tsl 3 (at_.map encS)), (2, .tsl 1 (l.map encP)), (3, .ptr 13 0 0 0), (6, .ptr 13 1 0 0), (7, .ptr 13 2 0 0), (8, .int .i64 0)], heap := [.row 13 [encV (mapV f)] false true 0, .row 13 [zeroS] false true 1] ++ boxF 2 [], base := 0 }) (fun _ => True) (fun _ => 0) () (by rw [hle]; rfl) trivial ?_
  rintro _ _
  rw [hle]
  (repeat' first | simp (disch := omega) only [go_sem, outS, boxF, zeroS, List.length_map] | ((apply spl) <;> intro h <;> try simp (disch := omega) only [go_sem, outS, boxF, zeroS, List.length_map, h]))
  refine loop_of (α := Nat × List AV) (fun a => { tmps := slots 96 [(1, .tsl 3 (at_.map encS)), (2, .tsl 1 (l.map encP)), (3, .ptr 13 0 0 0), (6, .ptr 13 1 0 0), (7, .ptr 13 2 0 0), (10, .int .i64 a.1)], heap := [.row 13 [encV (mapV f)] false true 0, .row 13 [zeroS] false true 1] ++ boxF 2 a.2, base := 0 })
    (fun a => a.1 ≤ f.length ∧ a.2.length ≤ a.1 ∧ a.2 ++ (woF F at_ l (f.drop a.1)).map encFd = (woF F at_ l f).map encFd) (fun a => f.length - a.1) (0, []) (by rw [hle]; rfl) ⟨Nat.zero_le _, by simp, rfl⟩ ?_
  rintro ⟨k, els⟩ ⟨hk, hlen, hm⟩
  simp only at hk hlen hm
  rw [hle]
  by_cases hlt : k < f.length
  · obtain ⟨x, hx⟩ := get_some hlt
    have hxm := List.mem_of_getElem? hx
    have hx2 := map_get (g := encFd) hx
    have hd := drop_cons hx
    rw [hd, woF] at hm
    have h55 := longer_run at_ ⟨false, x.1, 0⟩ (by omega)
    have h56 := goes_run (at_ ++ [⟨false, x.1, 0⟩]) l (by simp; omega) hl hq
    have h37 := hF x hxm (at_ ++ [⟨false, x.1, 0⟩]) (by simp)
    unfold encPs at h56
    rw [encS_of] at h55
    simp only at h55
    generalize (at_ ++ [(⟨false, x.1, 0⟩ : Stp)]) = q at h55 h56 h37 hm
    rw [encFd_eq x] at hx2
    rw [encV_eq x.2] at h37
    cases hg : goesM q l with
    | true =>
      rw [hg] at h56
      rw [if_pos hg] at hm
      cases els with
      | nil =>
        (repeat' first | simp (disch := omega) only [go_sem, hx2, outS, boxF, zeroS, List.length_map] | refine pure_of _ (h55) ?_ | refine pure_of _ (h56) ?_ | ((apply spl) <;> intro h <;> try simp (disch := omega) only [go_sem, hx2, outS, boxF, zeroS, List.length_map , h]))
        exact ⟨(k + 1, []), rfl, ⟨hlt, by simp, hm⟩, by simp only; omega⟩
      | cons z els =>
        (repeat' first | simp (disch := omega) only [go_sem, hx2, outS, boxF, zeroS, List.length_map] | refine pure_of _ (h55) ?_ | refine pure_of _ (h56) ?_ | ((apply spl) <;> intro h <;> try simp (disch := omega) only [go_sem, hx2, outS, boxF, zeroS, List.length_map , h]))
        exact ⟨(k + 1, z :: els), rfl, ⟨hlt, by simp only; omega, hm⟩, by simp only; omega⟩
    | false =>
      rw [hg] at h56
      rw [if_neg (by rw [hg]; simp), List.map_cons] at hm
      generalize F x.2 q = y at h37 hm
      have hm2 : (els ++ [encFd (x.1, y)]) ++ (woF F at_ l (f.drop (k + 1))).map encFd = (woF F at_ l f).map encFd := by
        rw [List.append_assoc]
        exact hm
      rw [encV_eq y] at h37
      rw [encFd_eq (x.1, y)] at hm2
      simp only at hm2
      cases els with
      | nil =>
        (repeat' first | simp (disch := omega) only [go_sem, hx2, outS, boxF, zeroS, List.length_map, keep_mk] | refine pure_of _ (h55) ?_ | refine pure_of _ (h56) ?_ | refine pure_of _ (h37) ?_ | ((apply spl) <;> intro h <;> try simp (disch := omega) only [go_sem, hx2, outS, boxF, zeroS, List.length_map, keep_mk , h]))
        exact ⟨(k + 1, _), rfl, ⟨hlt, by simp, hm2⟩, by simp only; omega⟩
      | cons z els =>
        simp only [List.length_cons] at hlen
        (repeat' first | simp (disch := omega) only [go_sem, hx2, outS, boxF, zeroS, List.length_map, keep_mk] | refine pure_of _ (h55) ?_ | refine pure_of _ (h56) ?_ | refine pure_of _ (h37) ?_ | ((apply spl) <;> intro h <;> try simp (disch := omega) only [go_sem, hx2, outS, boxF, zeroS, List.length_map, keep_mk , h]))
        refine ⟨(k + 1, _), ?_, ⟨hlt, ?_, hm2⟩, by simp only; omega⟩
        · simp only [List.cons_append, boxF, outS, List.length_append, List.length_cons, List.length_nil]
          rfl
        · simp
          omega
  · rw [List.drop_of_length_le (by omega), show woF F at_ l [] = [] from rfl, List.map_nil, List.append_nil] at hm
    rw [← hm]
    cases els with
    | nil =>
      (repeat' first | simp (disch := omega) only [go_sem, outS, boxF, zeroS, List.length_map] | ((apply spl) <;> intro h <;> try simp (disch := omega) only [go_sem, outS, boxF, zeroS, List.length_map, h]))
    | cons z els =>
      (repeat' first | simp (disch := omega) only [go_sem, outS, boxF, zeroS, List.length_map, List.take_length] | ((apply spl) <;> intro h <;> try simp (disch := omega) only [go_sem, outS, boxF, zeroS, List.length_map, List.take_length, h]))
end Ago
