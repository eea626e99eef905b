/- The program's paths: valid, equal; where a step leads; what is at a path. -/
import Derived.Test.YtglnglflcoeinaaGreatDoorRunD
import Derived.Test.YtglnglflcoeinaaGreatDoorRunB
import Derived.Test.YtglnglflcoeinaaGreatDoorRunI
import Derived.Test.YtglnglflcoeinaaGreatDoorRunF
import Derived.Test.YtglnglflcoeinaaGreatDoorRunG
set_option linter.unusedSimpArgs false
set_option linter.unusedVariables false
set_option maxRecDepth 100000
set_option maxHeartbeats 4000000
namespace Ago
open Go (IntKind)
theorem pathValidI_run (p : List Stp) (hp : p.length < 2 ^ 30) (hk : ∀ s, s ∈ p → s.key.length < 2 ^ 30) : PRun C0 30 [.tsl 3 (p.map encS)] (.bool (pathOk p)) := by
  refine prun_of ac30 rfl ?_
  by_cases hl : 48 < p.length
  · (repeat' first | simp (disch := omega) only [go_sem, ac30, enter] | ((apply spl) <;> intro h <;> try simp (disch := omega) only [go_sem, ac30, enter, h]))
    have : ¬ p.length ≤ 48 := by omega
    simp [pathOk, this]
  · (repeat' first | simp (disch := omega) only [go_sem, ac30, enter] | ((apply spl) <;> intro h <;> try simp (disch := omega) only [go_sem, ac30, enter, h]))
    refine loop_of (α := Nat) (fun k => { tmps := slots 45 [(8, .tsl 3 (p.map encS)), (9, .int .i64 p.length), (10, .int .i64 k)], heap := [], base := 0 }) (fun k => k ≤ p.length ∧ (p.take k).all stpOk = true) (fun k => p.length - k) 0 rfl ⟨Nat.zero_le _, rfl⟩ ?_
    rintro k ⟨hk1, hk2⟩
    by_cases hlt : k < p.length
    · obtain ⟨s, hs⟩ := get_some hlt
      have hs2 := map_get (g := encS) hs
      rw [show encS s = .agg [.bool s.byIndex, .str s.key, .int .i64 s.index] from rfl] at hs2
      have hu := utfI_run s.key (hk s (List.mem_of_getElem? hs))
      have stop : stpOk s = false → pathOk p = false := fun h => by
        unfold pathOk
        rw [not_all hs h]
        simp
      cases hb : s.byIndex with
      | true =>
        rw [hb] at hs2
        by_cases h1 : s.key = []
        · have h2 : (s.key == []) = true := by simp [h1]
          (repeat' first | simp (disch := omega) only [go_sem, hs2, h2, bne] | ((apply spl) <;> intro h <;> try simp (disch := omega) only [go_sem, hs2, h2, bne, h]))
          all_goals first
            | exact ⟨k + 1, rfl, ⟨hlt, take_succ_all hs hk2 (by simp [stpOk, hb, h1]; omega)⟩, by omega⟩
            | rw [stop (by simp [stpOk, hb, h1]; omega)]
        · have h2 : (s.key == []) = false := by simp [h1]
          (repeat' first | simp (disch := omega) only [go_sem, hs2, h2, bne] | ((apply spl) <;> intro h <;> try simp (disch := omega) only [go_sem, hs2, h2, bne, h]))
          all_goals rw [stop (by simp [stpOk, hb, h1])]
      | false =>
        rw [hb] at hs2
        (repeat' first | simp (disch := omega) only [go_sem, hs2] | refine pure_of _ (hu) ?_ | ((apply spl) <;> intro h <;> try simp (disch := omega) only [go_sem, hs2 , h]))
        all_goals first
          | exact ⟨k + 1, rfl, ⟨hlt, take_succ_all hs hk2 (by simp [stpOk, hb]; simp_all; omega)⟩, by omega⟩
          | rw [stop (by simp [stpOk, hb]; simp_all; omega)]
          | rw [stop (by simp [stpOk, hb]; simp_all)]
          | rw [stop (by simp [stpOk, hb]; omega)]
    · (repeat' first | simp (disch := omega) only [go_sem] | ((apply spl) <;> intro h <;> try simp (disch := omega) only [go_sem, h]))
      rw [take_len hlt hk1] at hk2
      have : p.length ≤ 48 := by omega
      simp [pathOk, hk2, this]
theorem pathEqI_run (p q : List Stp) (hp : p.length < 2 ^ 30) (hq : q.length < 2 ^ 30) : PRun C0 35 [.tsl 3 (p.map encS), .tsl 3 (q.map encS)] (.bool (decide (p = q))) := by
  refine prun_of ac35 rfl ?_
  by_cases hl : p.length = q.length
  · (repeat' first | simp (disch := omega) only [go_sem, ac35, enter, List.length_map, hl] | ((apply spl) <;> intro h <;> try simp (disch := omega) only [go_sem, ac35, enter, List.length_map, hl, h]))
    refine loop_of (α := Nat) (fun k => { tmps := slots 26 [(0, .tsl 3 (p.map encS)), (1, .tsl 3 (q.map encS)), (12, .int .i64 q.length), (13, .int .i64 k)], heap := [], base := 0 }) (fun k => k ≤ p.length ∧ p.take k = q.take k) (fun k => p.length - k) 0 rfl ⟨Nat.zero_le _, rfl⟩ ?_
    rintro k ⟨hk, he⟩
    by_cases hlt : k < p.length
    · obtain ⟨x, hx⟩ := get_some hlt
      obtain ⟨y, hy⟩ := get_some (s := q) (k := k) (by omega)
      have hx2 := map_get (g := encS) hx
      have hy2 := map_get (g := encS) hy
      rw [encS_eq x] at hx2
      rw [encS_eq y] at hy2
      have hxy := stp_eq x y
      by_cases h : x = y
      · subst h
        simp only [decide_true] at hxy
        (repeat' first | simp (disch := omega) only [go_sem, hx2, hy2, List.length_map, hxy] | ((apply spl) <;> intro h <;> try simp (disch := omega) only [go_sem, hx2, hy2, List.length_map, hxy, h]))
        exact ⟨k + 1, rfl, ⟨hlt, by rw [List.take_add_one, List.take_add_one, he, hx, hy]⟩, by omega⟩
      · have hne : ¬ p = q := fun e => h (by rw [e, hy] at hx; exact (Option.some.inj hx).symm)
        simp only [h, decide_false] at hxy
        (repeat' first | simp (disch := omega) only [go_sem, hx2, hy2, List.length_map, hxy] | ((apply spl) <;> intro h <;> try simp (disch := omega) only [go_sem, hx2, hy2, List.length_map, hxy, h]))
        simp [hne]
    · (repeat' first | simp (disch := omega) only [go_sem, List.length_map] | ((apply spl) <;> intro h <;> try simp (disch := omega) only [go_sem, List.length_map, h]))
      rw [take_len hlt hk, take_len (by omega) (by omega)] at he
      simp [he]
  · have hne : ¬ p = q := fun e => hl (by rw [e])
    (repeat' first | simp (disch := omega) only [go_sem, ac35, enter, List.length_map] | ((apply spl) <;> intro h <;> try simp (disch := omega) only [go_sem, ac35, enter, List.length_map, h]))
    simp [hne]
theorem fitsI_run (v : V) (s : Stp) : PRun C0 76 [encV v, encS s] (.bool (fitsM v s)) := by
  refine prun_of ac76 rfl ?_
  rw [encV_eq, encS_of]
  unfold fitsM
  cases s.byIndex <;> (repeat' first | simp (disch := omega) only [go_sem, ac76, enter] | ((apply spl) <;> intro h <;> try simp (disch := omega) only [go_sem, ac76, enter, h]))
theorem indexI_run (v : V) (key : List UInt8) (hv : v.bulk ≤ 2 ^ 24) : PRun C0 77 [encV v, .str key] (.int .i64 (match keyAt v.f key with | some i => (i : Int) | none => -1)) := by
  have L := V.lens hv
  have hlf := L.fields
  refine prun_of ac77 rfl ?_
  rw [encV_eq v]
  (repeat' first | simp (disch := omega) only [go_sem, ac77, enter] | ((apply spl) <;> intro h <;> try simp (disch := omega) only [go_sem, ac77, enter, h]))
  refine loop_of (α := Nat) (fun k => { tmps := slots 21 [(1, .str key), (8, .tsl 14 (v.f.map encFd)), (9, .int .i64 v.f.length), (10, .int .i64 k)], heap := [], base := 0 }) (fun k => k ≤ v.f.length ∧ ∀ y, y ∈ v.f.take k → y.1 ≠ key) (fun k => v.f.length - k) 0 rfl (by simp) ?_
  rintro k ⟨hk1, hk2⟩
  by_cases hlt : k < v.f.length
  · obtain ⟨x, hx⟩ := get_some hlt
    have hx2 := map_get (g := encFd) hx
    rw [encFd_eq x] at hx2
    by_cases he : x.1 = key
    · have he2 : (x.1 == key) = true := by simpa using he
      rw [(field_of hk2 hx he).2]
      (repeat' first | simp (disch := omega) only [go_sem, hx2, he2] | ((apply spl) <;> intro h <;> try simp (disch := omega) only [go_sem, hx2, he2, h]))
    · have he2 : (x.1 == key) = false := by simpa using he
      (repeat' first | simp (disch := omega) only [go_sem, hx2, he2] | ((apply spl) <;> intro h <;> try simp (disch := omega) only [go_sem, hx2, he2, h]))
      refine ⟨k + 1, rfl, ⟨hlt, fun y hy => ?_⟩, by omega⟩
      rw [List.take_add_one, hx] at hy
      rcases List.mem_append.1 hy with hy | hy
      · exact hk2 y hy
      · have e : y = x := by simpa using hy
        rw [e]
        exact he
  · rw [take_len hlt hk1] at hk2
    rw [(field_none hk2).2]
    (repeat' first | simp (disch := omega) only [go_sem] | ((apply spl) <;> intro h <;> try simp (disch := omega) only [go_sem, h]))
theorem findI_run (v : V) (s : Stp) (hv : v.bulk ≤ 2 ^ 24) : PRun C0 54 [encV v, encS s] (.tup [.int .i64 (findM v s).1, .int .i64 (findM v s).2]) := by
  have L := V.lens hv
  have hll := L.list
  have hlf := L.fields
  have h1 := fitsI_run v s
  have h2 := indexI_run v s.key hv
  refine prun_of ac54 rfl ?_
  rw [encV_eq v, encS_of] at *
  cases hb : s.byIndex with
  | true =>
    rw [hb] at h1
    by_cases h6 : v.s.kind = 6
    · have hf : fitsM v s = true := by simp [fitsM, hb, h6]
      rw [hf] at h1
      by_cases h0 : s.index < 0
      · have hm : findM v s = (0, 7) := by simp [findM, hb, h6, h0]
        rw [hm]
        (repeat' first | simp (disch := omega) only [go_sem, ac54, enter] | refine pure_of _ (h1) ?_ | refine pure_of _ (h2) ?_ | ((apply spl) <;> intro h <;> try simp (disch := omega) only [go_sem, ac54, enter , h]))
      · by_cases h3 : (v.l.length : Int) ≤ s.index
        · have hm : findM v s = (0, 7) := by simp [findM, hb, h6, h3]
          rw [hm]
          (repeat' first | simp (disch := omega) only [go_sem, ac54, enter] | refine pure_of _ (h1) ?_ | refine pure_of _ (h2) ?_ | ((apply spl) <;> intro h <;> try simp (disch := omega) only [go_sem, ac54, enter , h]))
        · have hm : findM v s = (s.index, 0) := by simp [findM, hb, h6, h0, h3]
          rw [hm]
          (repeat' first | simp (disch := omega) only [go_sem, ac54, enter] | refine pure_of _ (h1) ?_ | refine pure_of _ (h2) ?_ | ((apply spl) <;> intro h <;> try simp (disch := omega) only [go_sem, ac54, enter , h]))
    · have hf : fitsM v s = false := by simp [fitsM, hb, h6]
      have hm : findM v s = (0, 6) := by simp [findM, hb, h6]
      rw [hf] at h1
      rw [hm]
      (repeat' first | simp (disch := omega) only [go_sem, ac54, enter] | refine pure_of _ (h1) ?_ | refine pure_of _ (h2) ?_ | ((apply spl) <;> intro h <;> try simp (disch := omega) only [go_sem, ac54, enter , h]))
  | false =>
    rw [hb] at h1
    by_cases h7 : v.s.kind = 7
    · have hf : fitsM v s = true := by simp [fitsM, hb, h7]
      rw [hf] at h1
      cases hk : keyAt v.f s.key with
      | none =>
        have hm : findM v s = (0, 7) := by simp [findM, hb, h7, hk]
        rw [hk] at h2
        rw [hm]
        (repeat' first | simp (disch := omega) only [go_sem, ac54, enter] | refine pure_of _ (h1) ?_ | refine pure_of _ (h2) ?_ | ((apply spl) <;> intro h <;> try simp (disch := omega) only [go_sem, ac54, enter , h]))
      | some i =>
        have hm : findM v s = ((i : Int), 0) := by simp [findM, hb, h7, hk]
        rw [hk] at h2
        rw [hm]
        (repeat' first | simp (disch := omega) only [go_sem, ac54, enter] | refine pure_of _ (h1) ?_ | refine pure_of _ (h2) ?_ | ((apply spl) <;> intro h <;> try simp (disch := omega) only [go_sem, ac54, enter , h]))
    · have hf : fitsM v s = false := by simp [fitsM, hb, h7]
      have hm : findM v s = (0, 6) := by simp [findM, hb, h7]
      rw [hf] at h1
      rw [hm]
      (repeat' first | simp (disch := omega) only [go_sem, ac54, enter] | refine pure_of _ (h1) ?_ | refine pure_of _ (h2) ?_ | ((apply spl) <;> intro h <;> try simp (disch := omega) only [go_sem, ac54, enter , h]))
end Ago
/- What is at a path; is there something. -/
set_option maxRecDepth 100000
set_option maxHeartbeats 4000000
namespace Ago
open Go (IntKind)
/-- access.at -/
def atM : V → List Stp → V × Int
  | v, [] => (v, 0)
  | v, s :: p => if (findM v s).2 ≠ 0 then (nullV, (findM v s).2) else atM (partM v s) p
theorem find_ok {v : V} {s : Stp} (h : (findM v s).2 = 0) : fitsM v s = true ∧ (if s.byIndex then ∃ (k : Nat) (x : V), findM v s = ((k : Int), 0) ∧ v.l[k]? = some x ∧ partM v s = x else ∃ (k : Nat) (x : List UInt8 × V), findM v s = ((k : Int), 0) ∧ v.f[k]? = some x ∧ partM v s = x.2) := by
  cases hb : s.byIndex with
  | true =>
    simp only [findM, hb, if_true] at h ⊢
    by_cases h6 : v.s.kind = 6
    · rw [if_neg (by simp [h6])] at h ⊢
      by_cases h1 : s.index < 0 ∨ (v.l.length : Int) ≤ s.index
      · rw [if_pos h1] at h
        cases h
      · rw [if_neg h1]
        obtain ⟨x, hx⟩ := get_some (s := v.l) (k := s.index.toNat) (by omega)
        refine ⟨by simp [fitsM, hb, h6], s.index.toNat, x, ?_, hx, ?_⟩
        · congr 1
          omega
        · unfold partM
          rw [if_pos hb, if_pos (by omega), hx]
          rfl
    · rw [if_pos h6] at h
      cases h
  | false =>
    simp only [findM, hb, Bool.false_eq_true, if_false] at h ⊢
    by_cases h7 : v.s.kind = 7
    · rw [if_neg (by simp [h7])] at h ⊢
      cases hk : keyAt v.f s.key with
      | none => rw [hk] at h; cases h
      | some i =>
        obtain ⟨x, h1, h2⟩ := keyAt_some hk
        refine ⟨by simp [fitsM, hb, h7], i, x, rfl, h1, ?_⟩
        simp [partM, hb, h2]
    · rw [if_pos h7] at h
      cases h
theorem atI_run (v : V) (p : List Stp) (hv : v.bulk ≤ 2 ^ 24) (hp : p.length < 2 ^ 30) : PRun C0 47 [encV v, .tsl 3 (p.map encS)] (.tup [encV (atM v p).1, .int .i64 (atM v p).2]) := by
  refine prun_of ac47 rfl ?_
  rw [encV_eq v]
  (repeat' first | simp (disch := omega) only [go_sem, ac47, enter] | ((apply spl) <;> intro h <;> try simp (disch := omega) only [go_sem, ac47, enter, h]))
  refine loop_of (α := Nat × V) (fun a => { tmps := slots 41 [(2, .ptr 13 0 0 0), (4, .ptr 13 1 0 0), (10, .tsl 3 (p.map encS)), (11, .int .i64 p.length), (12, .int .i64 a.1)], heap := [.row 13 [encV a.2] false true 0, .row 13 [zeroS] false true 1], base := 0 }) (fun a => a.1 ≤ p.length ∧ atM v p = atM a.2 (p.drop a.1) ∧ a.2.bulk ≤ 2 ^ 24) (fun a => p.length - a.1) (0, v) (by rw [encV_eq]; rfl) ⟨Nat.zero_le _, rfl, hv⟩ ?_
  rintro ⟨k, w⟩ ⟨hk, hg, hw⟩
  simp only at hk hg hw
  have L := V.lens hw
  by_cases hlt : k < p.length
  · obtain ⟨s, hs⟩ := get_some hlt
    have hs2 := map_get (g := encS) hs
    have hd : p.drop k = s :: p.drop (k + 1) := by
      rw [List.drop_eq_getElem_cons hlt]
      congr 1
      rw [List.getElem?_eq_getElem hlt] at hs
      exact Option.some.inj hs
    rw [hd] at hg
    have hf := findI_run w s hw
    rw [encS_of] at hs2 hf
    by_cases he : (findM w s).2 = 0
    · obtain ⟨hfit, ho⟩ := find_ok he
      have hg2 : atM v p = atM (partM w s) (p.drop (k + 1)) := by rw [hg, atM, if_neg (by rw [he]; simp)]
      cases hb : s.byIndex with
      | true =>
        rw [if_pos hb] at ho
        obtain ⟨i, x, e1, e2, e3⟩ := ho
        rw [e1, hb] at hf
        rw [hb] at hs2
        rw [e3] at hg2
        have hx2 := map_get (g := encV) e2
        have hi : i < w.l.length := (List.getElem?_eq_some_iff.1 e2).1
        have hll := L.list
        have hxb := L.kids x (List.mem_of_getElem? e2)
        rw [encV_eq w] at hf ⊢
        rw [encV_eq x] at hx2
        (repeat' first | simp (disch := omega) only [go_sem, hs2, zeroS, hx2] | refine pure_of _ (hf) ?_ | ((apply spl) <;> intro h <;> try simp (disch := omega) only [go_sem, hs2, zeroS, hx2 , h]))
        exact ⟨(k + 1, x), by rw [encV_eq x]; rfl, ⟨hlt, hg2, by simp only; omega⟩, by simp only; omega⟩
      | false =>
        rw [if_neg (by rw [hb]; simp)] at ho
        obtain ⟨i, x, e1, e2, e3⟩ := ho
        rw [e1, hb] at hf
        rw [hb] at hs2
        rw [e3] at hg2
        have hx2 := map_get (g := encFd) e2
        have hi : i < w.f.length := (List.getElem?_eq_some_iff.1 e2).1
        have hll := L.fields
        have hxb := (L.fkids x (List.mem_of_getElem? e2)).1
        rw [encV_eq w] at hf ⊢
        rw [encFd_eq x] at hx2
        (repeat' first | simp (disch := omega) only [go_sem, hs2, zeroS, hx2] | refine pure_of _ (hf) ?_ | ((apply spl) <;> intro h <;> try simp (disch := omega) only [go_sem, hs2, zeroS, hx2 , h]))
        exact ⟨(k + 1, x.2), by rw [encV_eq x.2]; rfl, ⟨hlt, hg2, by simp only; omega⟩, by simp only; omega⟩
    · have hg2 : atM v p = (nullV, (findM w s).2) := by rw [hg, atM, if_pos he]
      rw [hg2, nullV_enc]
      generalize findM w s = e at hf he ⊢
      rw [encV_eq w] at hf ⊢
      (repeat' first | simp (disch := omega) only [go_sem, hs2, zeroS] | refine pure_of _ (hf) ?_ | ((apply spl) <;> intro h <;> try simp (disch := omega) only [go_sem, hs2, zeroS , h]))
  · have hd : p.drop k = [] := List.drop_eq_nil_of_le (by omega)
    rw [hd] at hg
    rw [hg]
    simp only [atM]
    rw [encV_eq w]
    (repeat' first | simp (disch := omega) only [go_sem, zeroS] | ((apply spl) <;> intro h <;> try simp (disch := omega) only [go_sem, zeroS, h]))
theorem has_run (v : V) (p : List Stp) (hv : v.bulk ≤ 2 ^ 24) (hp : p.length < 2 ^ 30) (hk : ∀ s, s ∈ p → s.key.length < 2 ^ 30) : PRun C0 31 [encV v, .tsl 3 (p.map encS)] (.bool (pathOk p && ((atM v p).2 == 0))) := by
  have h1 := pathValidI_run p hp hk
  have h2 := atI_run v p hv hp
  refine prun_of ac31 rfl ?_
  cases hb : pathOk p with
  | false =>
    rw [hb] at h1
    rw [encV_eq v]
    (repeat' first | simp (disch := omega) only [go_sem, ac31, enter, zeroS] | refine pure_of _ (h1) ?_ | ((apply spl) <;> intro h <;> try simp (disch := omega) only [go_sem, ac31, enter, zeroS , h]))
  | true =>
    rw [hb] at h1
    generalize atM v p = R at h2 ⊢
    rw [encV_eq v] at h2 ⊢
    rw [encV_eq R.1] at h2
    (repeat' first | simp (disch := omega) only [go_sem, ac31, enter, zeroS] | refine pure_of _ (h1) ?_ | refine pure_of _ (h2) ?_ | ((apply spl) <;> intro h <;> try simp (disch := omega) only [go_sem, ac31, enter, zeroS , h]))
end Ago
/- The order of paths. -/
set_option maxRecDepth 100000
set_option maxHeartbeats 4000000
namespace Ago
open Go (IntKind)
section
variable {R : Nat → List AV → Heap → AV → Heap → Prop} {PR : Nat → List AV → AV → Prop}
theorem draw2_of {k : Nat} {a b : List AOper} {Q : Ex → St → Prop} {s : St} (s' : St) (h1 : @withStI (s.keep k) ⟨awOps R PR a fun t => t = s'⟩) (h2 : @withStI (s.keep k) ⟨awOps R PR b fun t => t = s'⟩) (h : @withStI { s' with rb := 0 } ⟨Q .normal⟩) : aw R PR (.draw k [a, b]) Q s := by
  unfold withStI at h1 h2 h
  refine ⟨s', by simp, fun l hl => ?_, h⟩
  rcases List.mem_cons.1 hl with rfl | hl
  · exact h1
  · rw [List.mem_singleton.1 hl]
    exact h2
end
def cmpI (x y : Int) : Int := if x < y then -1 else if y < x then 1 else 0
def cmpS (a b : List UInt8) : Int := if Go.Op.bytesLess a b then -1 else if a == b then 0 else 1
theorem nanI_run (x : Int) : PRun C0 74 [.int .i64 x] (.bool false) := by
  refine prun_of ac74 rfl ?_
  (repeat' first | simp (disch := omega) only [go_sem, ac74, enter] | ((apply spl) <;> intro h <;> try simp (disch := omega) only [go_sem, ac74, enter, h]))
theorem nanS_run (x : List UInt8) : PRun C0 75 [.str x] (.bool false) := by
  refine prun_of ac75 rfl ?_
  (repeat' first | simp (disch := omega) only [go_sem, ac75, enter] | ((apply spl) <;> intro h <;> try simp (disch := omega) only [go_sem, ac75, enter, h]))
theorem cmpI_run (x y : Int) : PRun C0 50 [.int .i64 x, .int .i64 y] (.int .i64 (cmpI x y)) := by
  have h1 := nanI_run x
  have h2 := nanI_run y
  refine prun_of ac50 rfl ?_
  unfold cmpI
  by_cases h : x < y
  · rw [if_pos h]
    (repeat' first | simp (disch := omega) only [go_sem, ac50, enter] | refine pure_of _ (h1) ?_ | refine pure_of _ (h2) ?_ | ((apply spl) <;> intro h <;> try simp (disch := omega) only [go_sem, ac50, enter , h]))
  · rw [if_neg h]
    by_cases h' : y < x
    · rw [if_pos h']
      (repeat' first | simp (disch := omega) only [go_sem, ac50, enter, gt_iff_lt] | refine pure_of _ (h1) ?_ | refine pure_of _ (h2) ?_ | ((apply spl) <;> intro h <;> try simp (disch := omega) only [go_sem, ac50, enter, gt_iff_lt , h]))
    · rw [if_neg h']
      (repeat' first | simp (disch := omega) only [go_sem, ac50, enter, gt_iff_lt] | refine pure_of _ (h1) ?_ | refine pure_of _ (h2) ?_ | ((apply spl) <;> intro h <;> try simp (disch := omega) only [go_sem, ac50, enter, gt_iff_lt , h]))
theorem cmpS_run (x y : List UInt8) : PRun C0 51 [.str x, .str y] (.int .i64 (cmpS x y)) := by
  have h1 := nanS_run x
  have h2 := nanS_run y
  refine prun_of ac51 rfl ?_
  unfold cmpS
  cases h : Go.Op.bytesLess x y with
  | true =>
    rw [if_pos rfl]
    (repeat' first | simp (disch := omega) only [go_sem, ac51, enter, h] | refine pure_of _ (h1) ?_ | refine pure_of _ (h2) ?_ | ((apply spl) <;> intro h <;> try simp (disch := omega) only [go_sem, ac51, enter, h , h]))
  | false =>
    rw [if_neg (by simp)]
    cases h' : (x == y) with
    | true =>
      rw [if_pos rfl]
      (repeat' first | simp (disch := omega) only [go_sem, ac51, enter, h, h', Bool.or_true, Bool.not_true] | refine pure_of _ (h1) ?_ | refine pure_of _ (h2) ?_ | ((apply spl) <;> intro h <;> try simp (disch := omega) only [go_sem, ac51, enter, h, h', Bool.or_true, Bool.not_true , h]))
    | false =>
      rw [if_neg (by simp)]
      (repeat' first | simp (disch := omega) only [go_sem, ac51, enter, h, h', Bool.or_false, Bool.not_false] | refine pure_of _ (h1) ?_ | refine pure_of _ (h2) ?_ | ((apply spl) <;> intro h <;> try simp (disch := omega) only [go_sem, ac51, enter, h, h', Bool.or_false, Bool.not_false , h]))
/-- two steps -/
def cmpStp (x y : Stp) : Int :=
  if x = y then 0 else if x.byIndex then (if y.byIndex then cmpI x.index y.index else -1) else if y.byIndex then 1 else cmpS x.key y.key
/-- path.Cmp -/
def cmpP : List Stp → List Stp → Int
  | [], q => cmpI 0 q.length
  | x :: p, [] => cmpI (p.length + 1) 0
  | x :: p, y :: q => if x = y then cmpP p q else cmpStp x y
theorem cmpP_run (p q : List Stp) (hp : p.length < 2 ^ 30) (hq : q.length < 2 ^ 30) : PRun C0 34 [.tsl 3 (p.map encS), .tsl 3 (q.map encS)] (.int .i64 (cmpP p q)) := by
  refine prun_of ac34 rfl ?_
  (repeat' first | simp (disch := omega) only [go_sem, ac34, enter] | ((apply spl) <;> intro h <;> try simp (disch := omega) only [go_sem, ac34, enter, h]))
  refine loop_of (α := Nat) (fun k => { tmps := slots 57 [(0, .tsl 3 (p.map encS)), (1, .tsl 3 (q.map encS)), (12, .int .i64 (if (q.length : Int) < p.length then (q.length : Int) else p.length)), (13, .int .i64 k)], heap := [], base := 0 }) (fun k => k ≤ p.length ∧ k ≤ q.length ∧ cmpP p q = cmpP (p.drop k) (q.drop k)) (fun k => p.length - k) 0 rfl ⟨Nat.zero_le _, Nat.zero_le _, rfl⟩ ?_
  rintro k ⟨hk1, hk2, hm⟩
  have hmin : (if (q.length : Int) < p.length then (q.length : Int) else p.length) = ((min p.length q.length : Nat) : Int) := by split <;> omega
  rw [hmin]
  by_cases hlt : k < p.length ∧ k < q.length
  · obtain ⟨hl1, hl2⟩ := hlt
    obtain ⟨x, hx⟩ := get_some hl1
    obtain ⟨y, hy⟩ := get_some hl2
    have hx2 := map_get (g := encS) hx
    have hy2 := map_get (g := encS) hy
    rw [encS_of] at hx2 hy2
    have hd1 : p.drop k = x :: p.drop (k + 1) := by
      obtain ⟨h3, h4⟩ := List.getElem?_eq_some_iff.1 hx
      rw [List.drop_eq_getElem_cons h3, h4]
    have hd2 : q.drop k = y :: q.drop (k + 1) := by
      obtain ⟨h3, h4⟩ := List.getElem?_eq_some_iff.1 hy
      rw [List.drop_eq_getElem_cons h3, h4]
    rw [hd1, hd2, cmpP] at hm
    have hxy := stp_eq x y
    (repeat' first | simp (disch := omega) only [go_sem] | ((apply spl) <;> intro h <;> try simp (disch := omega) only [go_sem, h]))
    refine draw2_of ?s ?a ?b ?c
    case a =>
      (repeat' first | simp (disch := omega) only [go_sem, keep_mk, hx2, hy2] | ((apply spl) <;> intro h <;> try simp (disch := omega) only [go_sem, keep_mk, hx2, hy2, h]))
      exact rfl
    case b =>
      (repeat' first | simp (disch := omega) only [go_sem, keep_mk, hx2, hy2] | ((apply spl) <;> intro h <;> try simp (disch := omega) only [go_sem, keep_mk, hx2, hy2, h]))
    case c =>
      by_cases he : x = y
      · rw [decide_eq_true he] at hxy
        rw [if_pos he] at hm
        (repeat' first | simp (disch := omega) only [go_sem, hxy] | ((apply spl) <;> intro h <;> try simp (disch := omega) only [go_sem, hxy, h]))
        exact ⟨k + 1, rfl, ⟨hl1, hl2, hm⟩, by omega⟩
      · rw [decide_eq_false he] at hxy
        rw [if_neg he] at hm
        rw [hm]
        have h1 := cmpI_run x.index y.index
        have h2 := cmpS_run x.key y.key
        unfold cmpStp
        rw [if_neg he]
        cases hb1 : x.byIndex with
        | false =>
          cases hb2 : y.byIndex with
          | false =>
            rw [hb1, hb2, show (false == false) = true from rfl, Bool.true_and] at hxy
            (repeat' first | simp (disch := omega) only [go_sem, hxy, hb1, hb2] | refine pure_of _ (h1) ?_ | refine pure_of _ (h2) ?_ | ((apply spl) <;> intro h <;> try simp (disch := omega) only [go_sem, hxy, hb1, hb2 , h]))
          | true => (repeat' first | simp (disch := omega) only [go_sem, hb1, hb2] | refine pure_of _ (h1) ?_ | refine pure_of _ (h2) ?_ | ((apply spl) <;> intro h <;> try simp (disch := omega) only [go_sem, hb1, hb2 , h]))
        | true =>
          cases hb2 : y.byIndex with
          | false => (repeat' first | simp (disch := omega) only [go_sem, hb1, hb2] | refine pure_of _ (h1) ?_ | refine pure_of _ (h2) ?_ | ((apply spl) <;> intro h <;> try simp (disch := omega) only [go_sem, hb1, hb2 , h]))
          | true =>
            rw [hb1, hb2, show (true == true) = true from rfl, Bool.true_and] at hxy
            (repeat' first | simp (disch := omega) only [go_sem, hxy, hb1, hb2] | refine pure_of _ (h1) ?_ | refine pure_of _ (h2) ?_ | ((apply spl) <;> intro h <;> try simp (disch := omega) only [go_sem, hxy, hb1, hb2 , h]))
  · have h1 := cmpI_run p.length q.length
    have e : cmpP p q = cmpI p.length q.length := by
      rw [hm]
      by_cases h0 : k < p.length
      · rw [show q.drop k = [] from List.drop_eq_nil_of_le (by omega)]
        have hl : (p.drop k).length = p.length - k := List.length_drop
        cases hd : p.drop k with
        | nil => rw [hd] at hl; simp at hl; omega
        | cons z l =>
          rw [hd] at hl
          simp at hl
          show cmpI _ 0 = _
          unfold cmpI
          rw [if_neg (by omega), if_pos (by omega), if_neg (by omega), if_pos (by omega)]
      · rw [show p.drop k = [] from List.drop_eq_nil_of_le (by omega)]
        show cmpI 0 ((q.drop k).length : Int) = _
        rw [List.length_drop]
        unfold cmpI
        by_cases h2 : k < q.length
        · rw [if_pos (by omega), if_pos (by omega)]
        · rw [if_neg (by omega), if_neg (by omega), if_neg (by omega), if_neg (by omega)]
    rw [e]
    (repeat' first | simp (disch := omega) only [go_sem] | refine pure_of _ (h1) ?_ | ((apply spl) <;> intro h <;> try simp (disch := omega) only [go_sem, h]))
end Ago
/- access.Remove's closure: a list or a map without one part. -/
set_option maxRecDepth 100000
set_option maxHeartbeats 4000000
set_option pp.maxSteps 200000
namespace Ago
open Go (IntKind)
/-- The head of a loop, where what is kept has no reference. -/
theorem norm_kept {live : List Nat} {tm : List AV} {H : Heap} {m rb : Nat} {ks : List Nat} (hr : reach H m 4000 ((keepLive live 0 tm).flatMap (AV.refsN 6) ++ (H.take m).flatMap Blk.refs) [] = ks) (hd : droppedGo ks (H.drop m) m = [])
    (hK : Calms (H.take m ++ ks.map fun r => H.getD r .gone)) : St.norm live ⟨tm, H, m, rb⟩ = { tmps := (keepLive live 0 tm).map (AV.renN (renOf m ks) 6), heap := (H.take m ++ ks.map fun r => H.getD r .gone).map (Blk.refam (famRen H m ks)), base := m, rb := 0 } := by
  unfold St.norm St.normTm
  simp only
  rw [hr]
  unfold St.normBy
  simp only
  rw [hd]
  have hc : closedBy (renOf m ks) (H.take m ++ ks.map fun r => H.getD r .gone) = true := by
    unfold closedBy
    rw [List.all_eq_true]
    intro b hb
    rw [(hK b hb).1]
    rfl
  simp only [hc, roFit, roMark, Bool.and_self, normIf]
  congr 1
  exact List.map_congr_left fun b hb => (hK b hb).2.1 _ _
theorem dropped_cons {ks : List Nat} {b : Blk} {H : Heap} {j : Nat} (hb : b.isRo = false) : droppedGo ks (b :: H) j = droppedGo ks H (j + 1) := by
  cases b with
  | row n els ro fl fam =>
    simp only [Blk.isRo] at hb
    subst hb
    rfl
  | _ => rfl
theorem tidy_one {n0 n1 n : Nat} {e0 e1 els : List AV} {b2 b3 : Blk} {u : AV} (h2 : b2.isRo = false) (h3 : b3.isRo = false) (he : ∀ x, x ∈ els → Still x) (hu : AV.refsN 6 u = [4]) :
    tidy 2 u [.row n0 e0 false true 0, .row n1 e1 false true 1, b2, b3, .row n els false false 4] = ⟨[AV.renN (renOf 2 [4]) 6 u], [.row n0 e0 false true 0, .row n1 e1 false true 1, .row n els false false 2], 2, 0⟩ := by
  have hcalm := calm_rowN (n := n) (fam := 4) he
  unfold tidy
  refine (norm_kept (live := [0]) (tm := [u]) (H := [.row n0 e0 false true 0, .row n1 e1 false true 1, b2, b3, .row n els false false 4]) (m := 2) (rb := 0) (ks := [4]) ?_ ?_ (.cons (calm_row _ _ _) (.cons (calm_row _ _ _) (.cons hcalm .nil)))).trans rfl
  · show reach _ 2 4000 ((AV.refsN 6 u ++ []) ++ []) [] = [4]
    rw [hu]
    show reach _ 2 4000 [4] [] = [4]
    unfold reach
    rw [if_neg (by omega), if_neg (by simp)]
    show reach _ 2 3999 (Blk.refs (.row n els false false 4) ++ []) [4] = [4]
    rw [hcalm.1]
    rfl
  · show droppedGo [4] [b2, b3, .row n els false false 4] 2 = []
    rw [dropped_cons h2, dropped_cons h3]
    rfl
theorem still_mapV (l : List V) : ∀ x, x ∈ l.map encV → Still x := fun x hx => by
  obtain ⟨v, _, rfl⟩ := List.mem_map.1 hx
  exact still_encV v
def remH (v : V) : Heap := [.row 13 [encV v] false true 0, .row 13 [zeroS] false true 1]
theorem rem1L_run (l : List V) (s : Stp) (i : Nat) (hb : s.byIndex = true) (hi : s.index = i) (hlt : i < l.length) (hl : (listV l).bulk ≤ 2 ^ 24) (w : V) :
    (l.length = 1 → RunOf C0 53 [encV (listV l), .tptr [.bool s.byIndex, .str s.key, .int .i64 s.index] 0] (remH w) (.agg [.int .i64 6, .bool false, .bool false, .str [], .int .i64 0, .int .i64 0, .int .i64 0, .int .i64 0, .int .i64 0, .str [], .tsl 1 [], .snil 13, .tsl 14 []]) (remH w)) ∧ (l.length ≠ 1 → RunOf C0 53 [encV (listV l), .tptr [.bool s.byIndex, .str s.key, .int .i64 s.index] 0] (remH w) (.agg [.int .i64 6, .bool false, .bool false, .str [], .int .i64 0, .int .i64 0, .int .i64 0, .int .i64 0, .int .i64 0, .str [], .tsl 1 [], .sref 13 2 0 (l.length - 1), .tsl 14 []]) (remH w ++ [.row 13 ((l.eraseIdx i).map encV) false false 2])) := by
  have L := V.lens hl
  have hll : l.length < 2 ^ 24 := L.list
  have h54 := findI_run (listV l) s hl
  have hf : findM (listV l) s = ((i : Int), 0) := by
    unfold findM
    rw [if_pos hb, if_neg (by simp [listV, V.s]), show (listV l).l = l from rfl, if_neg (by omega), hi]
  rw [hf, encS_of, hb] at h54
  rw [listV_enc] at h54 ⊢
  rw [hb]
  have hwe := encV_eq w
  unfold remH
  rw [hwe]
  refine ⟨fun h1 => ?_, fun h1 => ?_⟩
  · refine runR_of ac53 rfl ?_
    obtain ⟨x, rfl⟩ := List.length_eq_one_iff.1 h1
    obtain rfl : i = 0 := by simp at hlt; omega
    (repeat' first | simp (disch := omega) only [go_sem, ac53, enter, zeroS, List.length_map, h1] | refine pure_of _ (h54) ?_ | ((apply spl) <;> intro h <;> try simp (disch := omega) only [go_sem, ac53, enter, zeroS, List.length_map, h1 , h]))
    exact postR_of (.inr rfl) (.agg [.int .i64 6, .bool false, .bool false, .str [], .int .i64 0, .int .i64 0, .int .i64 0, .int .i64 0, .int .i64 0, .str [], .tsl 1 [], .snil 13, .tsl 14 []]) rfl rfl rfl
  · refine runR_of ac53 rfl ?_
    obtain ⟨N, hN⟩ : ∃ N, l.length = N + 1 := ⟨l.length - 1, by omega⟩
    have hN0 : 0 < N := by omega
    have hz : ((l.length : Int) - 1 = 0) = False := eq_false (by omega)
    have ht : ((l.length : Int) - 1).toNat = N := by omega
    have f1 : List.take N (List.take i (l.map encV)) = List.take i (l.map encV) := List.take_of_length_le (by simp; omega)
    have f2 : (List.take i (l.map encV)).length = i := by simp; omega
    have f3 : min i N = i := by omega
    have f4 : ((i : Int) + 1).toNat = i + 1 := by omega
    have f5 : List.take l.length (l.map encV) = l.map encV := List.take_of_length_le (by simp)
    have f6 : (List.drop (i + 1) (l.map encV)).length = N - i := by simp; omega
    have f7 : List.take (N - i) (List.drop (i + 1) (l.map encV)) = List.drop (i + 1) (l.map encV) := List.take_of_length_le (by simp; omega)
    have f8 : ∀ n z, List.take i (List.take i (l.map encV) ++ List.replicate n z) = List.take i (l.map encV) := fun n z => by
      rw [List.take_append_of_le_length (by rw [f2]; omega), List.take_take, Nat.min_self]
    have f9 : ∀ z, List.drop (i + (N - i)) (List.take i (l.map encV) ++ List.replicate (N - i) z) = [] := fun z => List.drop_eq_nil_of_le (by simp; omega)
    have f10 : List.take i (l.map encV) ++ List.drop (i + 1) (l.map encV) = (l.eraseIdx i).map encV := by
      rw [List.eraseIdx_eq_take_drop_succ, List.map_append, List.map_take, List.map_drop]
    (repeat' first | simp (disch := omega) only [go_sem, ac53, enter, zeroS, List.length_map, List.length_replicate, hz, ht, f1, f2, f3, f4, f5, f6, f7, f8, f9, List.drop_replicate, List.length_append, Nat.min_self, f10] | refine pure_of _ (h54) ?_ | ((apply spl) <;> intro h <;> try simp (disch := omega) only [go_sem, ac53, enter, zeroS, List.length_map, List.length_replicate, hz, ht, f1, f2, f3, f4, f5, f6, f7, f8, f9, List.drop_replicate, List.length_append, Nat.min_self, f10 , h]))
    rw [show l.length - 1 = N by omega]
    refine postR_of (.inr rfl) (.agg [.int .i64 6, .bool false, .bool false, .str [], .int .i64 0, .int .i64 0, .int .i64 0, .int .i64 0, .int .i64 0, .str [], .tsl 1 [], .sref 13 4 0 N, .tsl 14 []]) rfl ?_ ?_
    · rw [tidy_one rfl rfl (still_mapV _) rfl]
      rfl
    · rw [tidy_one rfl rfl (still_mapV _) rfl]
      first | done | rfl
theorem still_encFd (x : List UInt8 × V) : Still (encFd x) := by
  rw [encFd_eq]
  exact ⟨rfl, fun _ => rfl⟩
theorem still_mapFd (l : List (List UInt8 × V)) : ∀ x, x ∈ l.map encFd → Still x := fun x hx => by
  obtain ⟨v, _, rfl⟩ := List.mem_map.1 hx
  exact still_encFd v
theorem rem1F_run (l : List (List UInt8 × V)) (s : Stp) (i : Nat) (hb : s.byIndex = false) (hk : keyAt l s.key = some i) (hlt : i < l.length) (hl : (mapV l).bulk ≤ 2 ^ 24) (w : V) :
    (l.length = 1 → RunOf C0 53 [encV (mapV l), .tptr [.bool s.byIndex, .str s.key, .int .i64 s.index] 0] (remH w) (.agg [.int .i64 7, .bool false, .bool false, .str [], .int .i64 0, .int .i64 0, .int .i64 0, .int .i64 0, .int .i64 0, .str [], .tsl 1 [], .tsl 13 [], .snil 14]) (remH w)) ∧ (l.length ≠ 1 → RunOf C0 53 [encV (mapV l), .tptr [.bool s.byIndex, .str s.key, .int .i64 s.index] 0] (remH w) (.agg [.int .i64 7, .bool false, .bool false, .str [], .int .i64 0, .int .i64 0, .int .i64 0, .int .i64 0, .int .i64 0, .str [], .tsl 1 [], .tsl 13 [], .sref 14 2 0 (l.length - 1)]) (remH w ++ [.row 14 ((l.eraseIdx i).map encFd) false false 2])) := by
  have L := V.lens hl
  have hll : l.length < 2 ^ 24 := L.fields
  have h54 := findI_run (mapV l) s hl
  have hf : findM (mapV l) s = ((i : Int), 0) := by
    unfold findM
    rw [if_neg (by rw [hb]; simp), if_neg (by simp [mapV, V.s]), show (mapV l).f = l from rfl, hk]
  rw [hf, encS_of, hb] at h54
  rw [mapV_enc] at h54 ⊢
  rw [hb]
  have hwe := encV_eq w
  unfold remH
  rw [hwe]
  refine ⟨fun h1 => ?_, fun h1 => ?_⟩
  · refine runR_of ac53 rfl ?_
    obtain ⟨x, rfl⟩ := List.length_eq_one_iff.1 h1
    obtain rfl : i = 0 := by simp at hlt; omega
    (repeat' first | simp (disch := omega) only [go_sem, ac53, enter, zeroS, List.length_map, h1] | refine pure_of _ (h54) ?_ | ((apply spl) <;> intro h <;> try simp (disch := omega) only [go_sem, ac53, enter, zeroS, List.length_map, h1 , h]))
    exact postR_of (.inr rfl) (.agg [.int .i64 7, .bool false, .bool false, .str [], .int .i64 0, .int .i64 0, .int .i64 0, .int .i64 0, .int .i64 0, .str [], .tsl 1 [], .tsl 13 [], .snil 14]) rfl rfl rfl
  · refine runR_of ac53 rfl ?_
    obtain ⟨N, hN⟩ : ∃ N, l.length = N + 1 := ⟨l.length - 1, by omega⟩
    have hN0 : 0 < N := by omega
    have hz : ((l.length : Int) - 1 = 0) = False := eq_false (by omega)
    have ht : ((l.length : Int) - 1).toNat = N := by omega
    have f1 : List.take N (List.take i (l.map encFd)) = List.take i (l.map encFd) := List.take_of_length_le (by simp; omega)
    have f2 : (List.take i (l.map encFd)).length = i := by simp; omega
    have f3 : min i N = i := by omega
    have f4 : ((i : Int) + 1).toNat = i + 1 := by omega
    have f5 : List.take l.length (l.map encFd) = l.map encFd := List.take_of_length_le (by simp)
    have f6 : (List.drop (i + 1) (l.map encFd)).length = N - i := by simp; omega
    have f7 : List.take (N - i) (List.drop (i + 1) (l.map encFd)) = List.drop (i + 1) (l.map encFd) := List.take_of_length_le (by simp; omega)
    have f8 : ∀ n z, List.take i (List.take i (l.map encFd) ++ List.replicate n z) = List.take i (l.map encFd) := fun n z => by
      rw [List.take_append_of_le_length (by rw [f2]; omega), List.take_take, Nat.min_self]
    have f9 : ∀ z, List.drop (i + (N - i)) (List.take i (l.map encFd) ++ List.replicate (N - i) z) = [] := fun z => List.drop_eq_nil_of_le (by simp; omega)
    have f10 : List.take i (l.map encFd) ++ List.drop (i + 1) (l.map encFd) = (l.eraseIdx i).map encFd := by
      rw [List.eraseIdx_eq_take_drop_succ, List.map_append, List.map_take, List.map_drop]
    (repeat' first | simp (disch := omega) only [go_sem, ac53, enter, zeroS, List.length_map, List.length_replicate, hz, ht, f1, f2, f3, f4, f5, f6, f7, f8, f9, List.drop_replicate, List.length_append, Nat.min_self, f10] | refine pure_of _ (h54) ?_ | ((apply spl) <;> intro h <;> try simp (disch := omega) only [go_sem, ac53, enter, zeroS, List.length_map, List.length_replicate, hz, ht, f1, f2, f3, f4, f5, f6, f7, f8, f9, List.drop_replicate, List.length_append, Nat.min_self, f10 , h]))
    rw [show l.length - 1 = N by omega]
    refine postR_of (.inr rfl) (.agg [.int .i64 7, .bool false, .bool false, .str [], .int .i64 0, .int .i64 0, .int .i64 0, .int .i64 0, .int .i64 0, .str [], .tsl 1 [], .tsl 13 [], .sref 14 4 0 N]) rfl ?_ ?_
    · rw [tidy_one rfl rfl (still_mapFd _) rfl]
      rfl
    · rw [tidy_one rfl rfl (still_mapFd _) rfl]
      first | done | rfl
end Ago
/- access.change, with Remove's closure. -/
set_option maxRecDepth 100000
set_option maxHeartbeats 4000000
set_option pp.maxSteps 200000
namespace Ago
open Go (IntKind)
/-- A value without the part to which a path leads: the path above, the last step. -/
def remM : List Stp → Stp → V → V
  | [], s, v => if s.byIndex then listV (v.l.eraseIdx s.index.toNat) else mapV (v.f.eraseIdx ((keyAt v.f s.key).getD 0))
  | q :: p, s, v => if q.byIndex then listV (v.l.set q.index.toNat (remM p s (partM v q))) else mapV (v.f.set ((keyAt v.f q.key).getD 0) (q.key, remM p s (partM v q)))
theorem omap_encV4 (H : Heap) (l : List V) : omap (frz H 4) (l.map encV) = some (l.map encV) := by
  rw [omap_map, omap_some (g := encV) l fun v _ => by rw [encV_eq]; rfl]
theorem omap_encFd4 (H : Heap) (l : List (List UInt8 × V)) : omap (frz H 4) (l.map encFd) = some (l.map encFd) := by
  rw [omap_map, omap_some (g := encFd) l fun v _ => by rw [encFd_eq]; rfl]
def fnR (s : Stp) : AV := .fn 53 [.tptr [.bool s.byIndex, .str s.key, .int .i64 s.index] 0]
theorem change0_run (s : Stp) (v : V) (ho : ownM v = true) (hv : v.bulk ≤ 2 ^ 24) (hf : (findM v s).2 = 0) : PRun C0 52 [encV v, .tsl 3 [], fnR s] (encV (remM [] s v)) := by
  obtain ⟨_, sh6, sh7⟩ := own_shape ho
  obtain ⟨hfit, hx⟩ := find_ok hf
  rw [show remM [] s v = if s.byIndex then listV (v.l.eraseIdx s.index.toNat) else mapV (v.f.eraseIdx ((keyAt v.f s.key).getD 0)) from rfl]
  refine prun_of ac52 rfl ?_
  unfold fnR
  cases hb : s.byIndex with
  | true =>
    rw [if_pos hb] at hx
    obtain ⟨i, x, e1, e2, e3⟩ := hx
    have h6 : v.s.kind = 6 := by unfold fitsM at hfit; rw [if_pos hb] at hfit; simpa using hfit
    have hvl := sh6 h6
    have hi : s.index = i := by
      unfold findM at e1
      rw [if_pos hb, if_neg (by simp [h6])] at e1
      split at e1
      · cases e1
      · exact congrArg Prod.fst e1
    have hlt : i < v.l.length := (List.getElem?_eq_some_iff.1 e2).1
    obtain ⟨r1, r2⟩ := rem1L_run v.l s i hb hi hlt (by rw [← hvl]; exact hv) v
    have hit : s.index.toNat = i := by omega
    rw [hit, if_pos rfl]
    have hlE : (v.l.eraseIdx i).length = v.l.length - 1 := by rw [List.length_eraseIdx]; split <;> omega
    have htk : List.take (v.l.length - 1) ((v.l.eraseIdx i).map encV) = (v.l.eraseIdx i).map encV := List.take_of_length_le (by rw [List.length_map, hlE]; omega)
    rw [← hvl, hb] at r1 r2
    unfold remH at r1 r2
    rw [listV_enc]
    rw [encV_eq v] at r1 r2 ⊢
    by_cases h1 : v.l.length = 1
    · have r1 := r1 h1
      have he : v.l.eraseIdx i = [] := List.eq_nil_of_length_eq_zero (by omega)
      rw [he]
      (repeat' first | simp (disch := omega) only [go_sem, ac52, enter, zeroS] | (refine call_of _ _ r1 ?_) | ((apply spl) <;> intro h <;> try simp (disch := omega) only [go_sem, ac52, enter, zeroS , h]))
      all_goals rfl
    · have r2 := r2 h1
      (repeat' first | simp (disch := omega) only [go_sem, ac52, enter, zeroS, htk, List.length_map, hlE, omap_encV4, Nat.le_refl] | (refine call_of _ _ r2 ?_) | ((apply spl) <;> intro h <;> try simp (disch := omega) only [go_sem, ac52, enter, zeroS, htk, List.length_map, hlE, omap_encV4, Nat.le_refl , h]))
  | false =>
    rw [if_neg (by rw [hb]; simp)] at hx
    obtain ⟨i, x, e1, e2, e3⟩ := hx
    have h7 : v.s.kind = 7 := by unfold fitsM at hfit; rw [if_neg (by rw [hb]; simp)] at hfit; simpa using hfit
    have hvl := sh7 h7
    have hk : keyAt v.f s.key = some i := by
      unfold findM at e1
      rw [if_neg (by rw [hb]; simp), if_neg (by simp [h7])] at e1
      cases hk : keyAt v.f s.key with
      | none => rw [hk] at e1; simp at e1
      | some j =>
        rw [hk] at e1
        have : (j : Int) = i := congrArg Prod.fst e1
        congr 1
        omega
    have hlt : i < v.f.length := (List.getElem?_eq_some_iff.1 e2).1
    obtain ⟨r1, r2⟩ := rem1F_run v.f s i hb hk hlt (by rw [← hvl]; exact hv) v
    rw [hk, if_neg (by simp), Option.getD_some]
    have hlE : (v.f.eraseIdx i).length = v.f.length - 1 := by rw [List.length_eraseIdx]; split <;> omega
    have htk : List.take (v.f.length - 1) ((v.f.eraseIdx i).map encFd) = (v.f.eraseIdx i).map encFd := List.take_of_length_le (by rw [List.length_map, hlE]; omega)
    rw [← hvl, hb] at r1 r2
    unfold remH at r1 r2
    rw [mapV_enc]
    rw [encV_eq v] at r1 r2 ⊢
    by_cases h1 : v.f.length = 1
    · have r1 := r1 h1
      have he : v.f.eraseIdx i = [] := List.eq_nil_of_length_eq_zero (by omega)
      rw [he]
      (repeat' first | simp (disch := omega) only [go_sem, ac52, enter, zeroS] | (refine call_of _ _ r1 ?_) | ((apply spl) <;> intro h <;> try simp (disch := omega) only [go_sem, ac52, enter, zeroS , h]))
      all_goals rfl
    · have r2 := r2 h1
      (repeat' first | simp (disch := omega) only [go_sem, ac52, enter, zeroS, htk, List.length_map, hlE, omap_encFd4, Nat.le_refl] | (refine call_of _ _ r2 ?_) | ((apply spl) <;> intro h <;> try simp (disch := omega) only [go_sem, ac52, enter, zeroS, htk, List.length_map, hlE, omap_encFd4, Nat.le_refl , h]))
end Ago
