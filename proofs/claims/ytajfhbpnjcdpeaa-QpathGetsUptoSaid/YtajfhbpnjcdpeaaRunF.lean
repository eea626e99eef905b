/- value.Copy: the same value. -/
import Derived.Test.YtajfhbpnjcdpeaaRunD
import Derived.Test.YtajfhbpnjcdpeaaMachE
import Derived.Test.YtajfhbpnjcdpeaaRunE
set_option linter.unusedSimpArgs false
set_option linter.unusedVariables false
set_option linter.unusedSimpArgs false
set_option linter.unusedVariables false
set_option maxRecDepth 100000
set_option maxHeartbeats 4000000
namespace Ago
open Go (IntKind)
attribute [go_sem] List.length_map encB_len
def zeroS : AV := .agg [.int .i64 0, .bool false, .bool false, .str [], .int .i64 0, .int .i64 0, .int .i64 0, .int .i64 0, .int .i64 0, .str [], .snil 1, .snil 13, .snil 14]
theorem copied_run : ∀ (n : Nat) (v : V), Good n v → v.bulk ≤ 2 ^ 20 → ∀ (left : Int), n ≤ left → left < 2 ^ 30 → PRun C0 45 [encV v, .int .i64 left] (encV v) := by
  intro n
  induction n with
  | zero => intro v h; cases h
  | succ n ih =>
    intro v hg hv left hl1 hl2
    obtain ⟨hd, ⟨ho1, ho2⟩, hk⟩ := hg
    have L := V.lens hv
    have hcl := cloneP (code := code) (clR := clR) (clP := clP) (f := 62) rfl (encB v.s.bytes) (by have := L.bytes; rw [encB_len]; unfold lim; omega) (by have := L.bytes; rw [encB_len]; omega)
    refine prun_of ac45 rfl ?_
    rw [encV_eq]
    have hle := encV_eq v
    simp (disch := omega) only [go_sem, ac45, enter]
    refine pure_of _ hcl ?_
    (repeat' first | simp (disch := omega) only [go_sem] | (refine wantDf (fun h => ?_) (fun h => ?_) <;> try simp (disch := omega) only [go_sem, h]) | (refine wantDt (fun h => ?_) (fun h => ?_) <;> try simp (disch := omega) only [go_sem, h]) | (refine wantEf (fun h => ?_) (fun h => ?_) <;> try simp (disch := omega) only [go_sem, h]) | (refine wantEt (fun h => ?_) (fun h => ?_) <;> try simp (disch := omega) only [go_sem, h]) | (refine wantNf (fun h => ?_) (fun h => ?_) <;> try simp (disch := omega) only [go_sem, h]) | (refine wantNt (fun h => ?_) (fun h => ?_) <;> try simp (disch := omega) only [go_sem, h]) | (refine wantNBf (fun h => ?_) (fun h => ?_) <;> try simp (disch := omega) only [go_sem, h]) | (refine wantNBt (fun h => ?_) (fun h => ?_) <;> try simp (disch := omega) only [go_sem, h]) | (refine wantBf (fun h => ?_) (fun h => ?_) <;> try simp (disch := omega) only [go_sem, h]) | (refine wantBt (fun h => ?_) (fun h => ?_) <;> try simp (disch := omega) only [go_sem, h]) | (refine boolD (fun h => ?_) (fun h => ?_) <;> try simp (disch := omega) only [go_sem, h]) | (refine boolE (fun h => ?_) (fun h => ?_) <;> try simp (disch := omega) only [go_sem, h]) | (refine boolN (fun h => ?_) (fun h => ?_) <;> try simp (disch := omega) only [go_sem, h]) | (refine boolNB (fun h => ?_) (fun h => ?_) <;> try simp (disch := omega) only [go_sem, h]) | (refine boolB (fun h => ?_) (fun h => ?_) <;> try simp (disch := omega) only [go_sem, h]))
    refine loop_of (α := Nat × List AV) (fun a => { tmps := slots 59 [(1, .int .i64 left), (2, .ptr 13 0 0 0), (4, .ptr 13 1 0 0), (5, outSl 13 2 a.2), (21, .tsl 13 (v.l.map encV)), (22, .int .i64 v.l.length), (23, .int .i64 a.1)], heap := [.row 13 [encV v] false true 0, .row 13 [zeroS] false true 1] ++ outHp 13 2 a.2, base := 0 }) (fun a => a.1 ≤ v.l.length ∧ a.2 = (v.l.take a.1).map encV) (fun a => v.l.length - a.1) (0, []) (by rw [encV_eq]; rfl) (by simp) ?_
    rintro ⟨k, els⟩ ⟨hk1, hels⟩
    simp only at hk1 hels
    rw [encV_eq]
    by_cases hlt : k < v.l.length
    · obtain ⟨x, hx⟩ := get_some hlt
      have hxm := List.mem_of_getElem? hx
      have hx2 := map_get (g := encV) hx
      have hkind : v.s.kind = 6 := by omega
      have hgx : Good n x := hk x (by unfold V.kids; rw [if_neg (by omega)]; exact hxm)
      have hr := ih x hgx (by have := L.kids x hxm; omega) (left - 1) (by omega) (by omega)
      have hnew : els ++ [encV x] = (v.l.take (k + 1)).map encV := by rw [hels, List.take_add_one, hx]; simp
      rw [encV_eq x] at hnew hr hx2
      have hlen : els.length = k := by rw [hels]; simp; omega
      have hll := L.list
      cases els with
      | nil =>
        (repeat' first | simp (disch := omega) only [go_sem, hx2, List.length_map, outSl, outHp, zeroS] | refine pure_of _ (hr) ?_ | (refine wantDf (fun h => ?_) (fun h => ?_) <;> try simp (disch := omega) only [go_sem, hx2, List.length_map, outSl, outHp, zeroS , h]) | (refine wantDt (fun h => ?_) (fun h => ?_) <;> try simp (disch := omega) only [go_sem, hx2, List.length_map, outSl, outHp, zeroS , h]) | (refine wantEf (fun h => ?_) (fun h => ?_) <;> try simp (disch := omega) only [go_sem, hx2, List.length_map, outSl, outHp, zeroS , h]) | (refine wantEt (fun h => ?_) (fun h => ?_) <;> try simp (disch := omega) only [go_sem, hx2, List.length_map, outSl, outHp, zeroS , h]) | (refine wantNf (fun h => ?_) (fun h => ?_) <;> try simp (disch := omega) only [go_sem, hx2, List.length_map, outSl, outHp, zeroS , h]) | (refine wantNt (fun h => ?_) (fun h => ?_) <;> try simp (disch := omega) only [go_sem, hx2, List.length_map, outSl, outHp, zeroS , h]) | (refine wantNBf (fun h => ?_) (fun h => ?_) <;> try simp (disch := omega) only [go_sem, hx2, List.length_map, outSl, outHp, zeroS , h]) | (refine wantNBt (fun h => ?_) (fun h => ?_) <;> try simp (disch := omega) only [go_sem, hx2, List.length_map, outSl, outHp, zeroS , h]) | (refine wantBf (fun h => ?_) (fun h => ?_) <;> try simp (disch := omega) only [go_sem, hx2, List.length_map, outSl, outHp, zeroS , h]) | (refine wantBt (fun h => ?_) (fun h => ?_) <;> try simp (disch := omega) only [go_sem, hx2, List.length_map, outSl, outHp, zeroS , h]) | (refine boolD (fun h => ?_) (fun h => ?_) <;> try simp (disch := omega) only [go_sem, hx2, List.length_map, outSl, outHp, zeroS , h]) | (refine boolE (fun h => ?_) (fun h => ?_) <;> try simp (disch := omega) only [go_sem, hx2, List.length_map, outSl, outHp, zeroS , h]) | (refine boolN (fun h => ?_) (fun h => ?_) <;> try simp (disch := omega) only [go_sem, hx2, List.length_map, outSl, outHp, zeroS , h]) | (refine boolNB (fun h => ?_) (fun h => ?_) <;> try simp (disch := omega) only [go_sem, hx2, List.length_map, outSl, outHp, zeroS , h]) | (refine boolB (fun h => ?_) (fun h => ?_) <;> try simp (disch := omega) only [go_sem, hx2, List.length_map, outSl, outHp, zeroS , h]))
        refine ⟨(k + 1, (v.l.take (k + 1)).map encV), ?_, ⟨hlt, rfl⟩, by simp only; omega⟩
        simp only [← hnew, hle]
        rfl
      | cons y els =>
        simp only [List.length_cons] at hlen
        (repeat' first | simp (disch := omega) only [go_sem, hx2, List.length_map, outSl, outHp, zeroS] | refine pure_of _ (hr) ?_ | (refine wantDf (fun h => ?_) (fun h => ?_) <;> try simp (disch := omega) only [go_sem, hx2, List.length_map, outSl, outHp, zeroS , h]) | (refine wantDt (fun h => ?_) (fun h => ?_) <;> try simp (disch := omega) only [go_sem, hx2, List.length_map, outSl, outHp, zeroS , h]) | (refine wantEf (fun h => ?_) (fun h => ?_) <;> try simp (disch := omega) only [go_sem, hx2, List.length_map, outSl, outHp, zeroS , h]) | (refine wantEt (fun h => ?_) (fun h => ?_) <;> try simp (disch := omega) only [go_sem, hx2, List.length_map, outSl, outHp, zeroS , h]) | (refine wantNf (fun h => ?_) (fun h => ?_) <;> try simp (disch := omega) only [go_sem, hx2, List.length_map, outSl, outHp, zeroS , h]) | (refine wantNt (fun h => ?_) (fun h => ?_) <;> try simp (disch := omega) only [go_sem, hx2, List.length_map, outSl, outHp, zeroS , h]) | (refine wantNBf (fun h => ?_) (fun h => ?_) <;> try simp (disch := omega) only [go_sem, hx2, List.length_map, outSl, outHp, zeroS , h]) | (refine wantNBt (fun h => ?_) (fun h => ?_) <;> try simp (disch := omega) only [go_sem, hx2, List.length_map, outSl, outHp, zeroS , h]) | (refine wantBf (fun h => ?_) (fun h => ?_) <;> try simp (disch := omega) only [go_sem, hx2, List.length_map, outSl, outHp, zeroS , h]) | (refine wantBt (fun h => ?_) (fun h => ?_) <;> try simp (disch := omega) only [go_sem, hx2, List.length_map, outSl, outHp, zeroS , h]) | (refine boolD (fun h => ?_) (fun h => ?_) <;> try simp (disch := omega) only [go_sem, hx2, List.length_map, outSl, outHp, zeroS , h]) | (refine boolE (fun h => ?_) (fun h => ?_) <;> try simp (disch := omega) only [go_sem, hx2, List.length_map, outSl, outHp, zeroS , h]) | (refine boolN (fun h => ?_) (fun h => ?_) <;> try simp (disch := omega) only [go_sem, hx2, List.length_map, outSl, outHp, zeroS , h]) | (refine boolNB (fun h => ?_) (fun h => ?_) <;> try simp (disch := omega) only [go_sem, hx2, List.length_map, outSl, outHp, zeroS , h]) | (refine boolB (fun h => ?_) (fun h => ?_) <;> try simp (disch := omega) only [go_sem, hx2, List.length_map, outSl, outHp, zeroS , h]))
        refine ⟨(k + 1, (v.l.take (k + 1)).map encV), ?_, ⟨hlt, rfl⟩, by simp only; omega⟩
        simp only [← hnew, hle, List.cons_append, outSl, outHp, List.length_append, List.length_cons, List.length_nil]
        rfl
    · rw [take_len hlt hk1] at hels
      cases els with
      | nil =>
        (repeat' first | simp (disch := omega) only [go_sem, outSl, outHp, zeroS] | (refine wantDf (fun h => ?_) (fun h => ?_) <;> try simp (disch := omega) only [go_sem, outSl, outHp, zeroS, h]) | (refine wantDt (fun h => ?_) (fun h => ?_) <;> try simp (disch := omega) only [go_sem, outSl, outHp, zeroS, h]) | (refine wantEf (fun h => ?_) (fun h => ?_) <;> try simp (disch := omega) only [go_sem, outSl, outHp, zeroS, h]) | (refine wantEt (fun h => ?_) (fun h => ?_) <;> try simp (disch := omega) only [go_sem, outSl, outHp, zeroS, h]) | (refine wantNf (fun h => ?_) (fun h => ?_) <;> try simp (disch := omega) only [go_sem, outSl, outHp, zeroS, h]) | (refine wantNt (fun h => ?_) (fun h => ?_) <;> try simp (disch := omega) only [go_sem, outSl, outHp, zeroS, h]) | (refine wantNBf (fun h => ?_) (fun h => ?_) <;> try simp (disch := omega) only [go_sem, outSl, outHp, zeroS, h]) | (refine wantNBt (fun h => ?_) (fun h => ?_) <;> try simp (disch := omega) only [go_sem, outSl, outHp, zeroS, h]) | (refine wantBf (fun h => ?_) (fun h => ?_) <;> try simp (disch := omega) only [go_sem, outSl, outHp, zeroS, h]) | (refine wantBt (fun h => ?_) (fun h => ?_) <;> try simp (disch := omega) only [go_sem, outSl, outHp, zeroS, h]) | (refine boolD (fun h => ?_) (fun h => ?_) <;> try simp (disch := omega) only [go_sem, outSl, outHp, zeroS, h]) | (refine boolE (fun h => ?_) (fun h => ?_) <;> try simp (disch := omega) only [go_sem, outSl, outHp, zeroS, h]) | (refine boolN (fun h => ?_) (fun h => ?_) <;> try simp (disch := omega) only [go_sem, outSl, outHp, zeroS, h]) | (refine boolNB (fun h => ?_) (fun h => ?_) <;> try simp (disch := omega) only [go_sem, outSl, outHp, zeroS, h]) | (refine boolB (fun h => ?_) (fun h => ?_) <;> try simp (disch := omega) only [go_sem, outSl, outHp, zeroS, h]))
        refine loop_of (α := Nat × List AV) (fun a => { tmps := slots 59 [(1, .int .i64 left), (2, .ptr 13 0 0 0), (4, .ptr 13 1 0 0), (5, .snil 13), (8, outSl 14 2 a.2), (36, .tsl 14 (v.f.map encFd)), (37, .int .i64 v.f.length), (38, .int .i64 a.1)], heap := [.row 13 [encV v] false true 0, .row 13 [zeroS] false true 1] ++ outHp 14 2 a.2, base := 0 }) (fun a => a.1 ≤ v.f.length ∧ a.2 = (v.f.take a.1).map encFd) (fun a => v.f.length - a.1) (0, []) (by rw [encV_eq]; rfl) (by simp) ?_
        clear hk1 hlt
        rintro ⟨k, els⟩ ⟨hk1, hels2⟩
        simp only at hk1 hels2
        rw [encV_eq]
        by_cases hlt : k < v.f.length
        · obtain ⟨x, hx⟩ := get_some hlt
          have hxm := List.mem_of_getElem? hx
          have hx2 := map_get (g := encFd) hx
          have hkind : v.s.kind = 7 := by omega
          have hgx : Good n x.2 := hk x.2 (by unfold V.kids; rw [if_pos hkind]; exact List.mem_map_of_mem hxm)
          have hr := ih x.2 hgx (by have := (L.fkids x hxm).1; omega) (left - 1) (by omega) (by omega)
          have hnew : els ++ [encFd x] = (v.f.take (k + 1)).map encFd := by rw [hels2, List.take_add_one, hx]; simp
          rw [encFd_eq x] at hnew hx2
          rw [encV_eq] at hr
          have hlen : els.length = k := by rw [hels2]; simp; omega
          have hll := L.fields
          cases els with
          | nil =>
            (repeat' first | simp (disch := omega) only [go_sem, hx2, outSl, outHp, zeroS] | refine pure_of _ (hr) ?_ | (refine wantDf (fun h => ?_) (fun h => ?_) <;> try simp (disch := omega) only [go_sem, hx2, outSl, outHp, zeroS , h]) | (refine wantDt (fun h => ?_) (fun h => ?_) <;> try simp (disch := omega) only [go_sem, hx2, outSl, outHp, zeroS , h]) | (refine wantEf (fun h => ?_) (fun h => ?_) <;> try simp (disch := omega) only [go_sem, hx2, outSl, outHp, zeroS , h]) | (refine wantEt (fun h => ?_) (fun h => ?_) <;> try simp (disch := omega) only [go_sem, hx2, outSl, outHp, zeroS , h]) | (refine wantNf (fun h => ?_) (fun h => ?_) <;> try simp (disch := omega) only [go_sem, hx2, outSl, outHp, zeroS , h]) | (refine wantNt (fun h => ?_) (fun h => ?_) <;> try simp (disch := omega) only [go_sem, hx2, outSl, outHp, zeroS , h]) | (refine wantNBf (fun h => ?_) (fun h => ?_) <;> try simp (disch := omega) only [go_sem, hx2, outSl, outHp, zeroS , h]) | (refine wantNBt (fun h => ?_) (fun h => ?_) <;> try simp (disch := omega) only [go_sem, hx2, outSl, outHp, zeroS , h]) | (refine wantBf (fun h => ?_) (fun h => ?_) <;> try simp (disch := omega) only [go_sem, hx2, outSl, outHp, zeroS , h]) | (refine wantBt (fun h => ?_) (fun h => ?_) <;> try simp (disch := omega) only [go_sem, hx2, outSl, outHp, zeroS , h]) | (refine boolD (fun h => ?_) (fun h => ?_) <;> try simp (disch := omega) only [go_sem, hx2, outSl, outHp, zeroS , h]) | (refine boolE (fun h => ?_) (fun h => ?_) <;> try simp (disch := omega) only [go_sem, hx2, outSl, outHp, zeroS , h]) | (refine boolN (fun h => ?_) (fun h => ?_) <;> try simp (disch := omega) only [go_sem, hx2, outSl, outHp, zeroS , h]) | (refine boolNB (fun h => ?_) (fun h => ?_) <;> try simp (disch := omega) only [go_sem, hx2, outSl, outHp, zeroS , h]) | (refine boolB (fun h => ?_) (fun h => ?_) <;> try simp (disch := omega) only [go_sem, hx2, outSl, outHp, zeroS , h]))
            refine ⟨(k + 1, (v.f.take (k + 1)).map encFd), ?_, ⟨hlt, rfl⟩, by simp only; omega⟩
            simp only [← hnew, hle]
            rfl
          | cons y els =>
            simp only [List.length_cons] at hlen
            (repeat' first | simp (disch := omega) only [go_sem, hx2, outSl, outHp, zeroS] | refine pure_of _ (hr) ?_ | (refine wantDf (fun h => ?_) (fun h => ?_) <;> try simp (disch := omega) only [go_sem, hx2, outSl, outHp, zeroS , h]) | (refine wantDt (fun h => ?_) (fun h => ?_) <;> try simp (disch := omega) only [go_sem, hx2, outSl, outHp, zeroS , h]) | (refine wantEf (fun h => ?_) (fun h => ?_) <;> try simp (disch := omega) only [go_sem, hx2, outSl, outHp, zeroS , h]) | (refine wantEt (fun h => ?_) (fun h => ?_) <;> try simp (disch := omega) only [go_sem, hx2, outSl, outHp, zeroS , h]) | (refine wantNf (fun h => ?_) (fun h => ?_) <;> try simp (disch := omega) only [go_sem, hx2, outSl, outHp, zeroS , h]) | (refine wantNt (fun h => ?_) (fun h => ?_) <;> try simp (disch := omega) only [go_sem, hx2, outSl, outHp, zeroS , h]) | (refine wantNBf (fun h => ?_) (fun h => ?_) <;> try simp (disch := omega) only [go_sem, hx2, outSl, outHp, zeroS , h]) | (refine wantNBt (fun h => ?_) (fun h => ?_) <;> try simp (disch := omega) only [go_sem, hx2, outSl, outHp, zeroS , h]) | (refine wantBf (fun h => ?_) (fun h => ?_) <;> try simp (disch := omega) only [go_sem, hx2, outSl, outHp, zeroS , h]) | (refine wantBt (fun h => ?_) (fun h => ?_) <;> try simp (disch := omega) only [go_sem, hx2, outSl, outHp, zeroS , h]) | (refine boolD (fun h => ?_) (fun h => ?_) <;> try simp (disch := omega) only [go_sem, hx2, outSl, outHp, zeroS , h]) | (refine boolE (fun h => ?_) (fun h => ?_) <;> try simp (disch := omega) only [go_sem, hx2, outSl, outHp, zeroS , h]) | (refine boolN (fun h => ?_) (fun h => ?_) <;> try simp (disch := omega) only [go_sem, hx2, outSl, outHp, zeroS , h]) | (refine boolNB (fun h => ?_) (fun h => ?_) <;> try simp (disch := omega) only [go_sem, hx2, outSl, outHp, zeroS , h]) | (refine boolB (fun h => ?_) (fun h => ?_) <;> try simp (disch := omega) only [go_sem, hx2, outSl, outHp, zeroS , h]))
            refine ⟨(k + 1, (v.f.take (k + 1)).map encFd), ?_, ⟨hlt, rfl⟩, by simp only; omega⟩
            simp only [← hnew, hle, List.cons_append, outSl, outHp, List.length_append, List.length_cons, List.length_nil]
            rfl
        · rw [take_len hlt hk1] at hels2
          rw [← hels, ← hels2]
          cases els with
          | nil => (repeat' first | simp (disch := omega) only [go_sem, outSl, outHp, zeroS] | (refine wantDf (fun h => ?_) (fun h => ?_) <;> try simp (disch := omega) only [go_sem, outSl, outHp, zeroS, h]) | (refine wantDt (fun h => ?_) (fun h => ?_) <;> try simp (disch := omega) only [go_sem, outSl, outHp, zeroS, h]) | (refine wantEf (fun h => ?_) (fun h => ?_) <;> try simp (disch := omega) only [go_sem, outSl, outHp, zeroS, h]) | (refine wantEt (fun h => ?_) (fun h => ?_) <;> try simp (disch := omega) only [go_sem, outSl, outHp, zeroS, h]) | (refine wantNf (fun h => ?_) (fun h => ?_) <;> try simp (disch := omega) only [go_sem, outSl, outHp, zeroS, h]) | (refine wantNt (fun h => ?_) (fun h => ?_) <;> try simp (disch := omega) only [go_sem, outSl, outHp, zeroS, h]) | (refine wantNBf (fun h => ?_) (fun h => ?_) <;> try simp (disch := omega) only [go_sem, outSl, outHp, zeroS, h]) | (refine wantNBt (fun h => ?_) (fun h => ?_) <;> try simp (disch := omega) only [go_sem, outSl, outHp, zeroS, h]) | (refine wantBf (fun h => ?_) (fun h => ?_) <;> try simp (disch := omega) only [go_sem, outSl, outHp, zeroS, h]) | (refine wantBt (fun h => ?_) (fun h => ?_) <;> try simp (disch := omega) only [go_sem, outSl, outHp, zeroS, h]) | (refine boolD (fun h => ?_) (fun h => ?_) <;> try simp (disch := omega) only [go_sem, outSl, outHp, zeroS, h]) | (refine boolE (fun h => ?_) (fun h => ?_) <;> try simp (disch := omega) only [go_sem, outSl, outHp, zeroS, h]) | (refine boolN (fun h => ?_) (fun h => ?_) <;> try simp (disch := omega) only [go_sem, outSl, outHp, zeroS, h]) | (refine boolNB (fun h => ?_) (fun h => ?_) <;> try simp (disch := omega) only [go_sem, outSl, outHp, zeroS, h]) | (refine boolB (fun h => ?_) (fun h => ?_) <;> try simp (disch := omega) only [go_sem, outSl, outHp, zeroS, h]))
          | cons y els => (repeat' first | simp (disch := omega) only [go_sem, outSl, outHp, zeroS, List.take_length] | (refine wantDf (fun h => ?_) (fun h => ?_) <;> try simp (disch := omega) only [go_sem, outSl, outHp, zeroS, List.take_length, h]) | (refine wantDt (fun h => ?_) (fun h => ?_) <;> try simp (disch := omega) only [go_sem, outSl, outHp, zeroS, List.take_length, h]) | (refine wantEf (fun h => ?_) (fun h => ?_) <;> try simp (disch := omega) only [go_sem, outSl, outHp, zeroS, List.take_length, h]) | (refine wantEt (fun h => ?_) (fun h => ?_) <;> try simp (disch := omega) only [go_sem, outSl, outHp, zeroS, List.take_length, h]) | (refine wantNf (fun h => ?_) (fun h => ?_) <;> try simp (disch := omega) only [go_sem, outSl, outHp, zeroS, List.take_length, h]) | (refine wantNt (fun h => ?_) (fun h => ?_) <;> try simp (disch := omega) only [go_sem, outSl, outHp, zeroS, List.take_length, h]) | (refine wantNBf (fun h => ?_) (fun h => ?_) <;> try simp (disch := omega) only [go_sem, outSl, outHp, zeroS, List.take_length, h]) | (refine wantNBt (fun h => ?_) (fun h => ?_) <;> try simp (disch := omega) only [go_sem, outSl, outHp, zeroS, List.take_length, h]) | (refine wantBf (fun h => ?_) (fun h => ?_) <;> try simp (disch := omega) only [go_sem, outSl, outHp, zeroS, List.take_length, h]) | (refine wantBt (fun h => ?_) (fun h => ?_) <;> try simp (disch := omega) only [go_sem, outSl, outHp, zeroS, List.take_length, h]) | (refine boolD (fun h => ?_) (fun h => ?_) <;> try simp (disch := omega) only [go_sem, outSl, outHp, zeroS, List.take_length, h]) | (refine boolE (fun h => ?_) (fun h => ?_) <;> try simp (disch := omega) only [go_sem, outSl, outHp, zeroS, List.take_length, h]) | (refine boolN (fun h => ?_) (fun h => ?_) <;> try simp (disch := omega) only [go_sem, outSl, outHp, zeroS, List.take_length, h]) | (refine boolNB (fun h => ?_) (fun h => ?_) <;> try simp (disch := omega) only [go_sem, outSl, outHp, zeroS, List.take_length, h]) | (refine boolB (fun h => ?_) (fun h => ?_) <;> try simp (disch := omega) only [go_sem, outSl, outHp, zeroS, List.take_length, h]))
      | cons y els =>
        have hkind : v.s.kind = 6 := by
          have : v.l.length ≠ 0 := fun h0 => by
            rw [List.eq_nil_of_length_eq_zero h0] at hels
            cases hels
          omega
        have hf0 : v.f = [] := List.eq_nil_of_length_eq_zero (by omega)
        (repeat' first | simp (disch := omega) only [go_sem, outSl, outHp, zeroS, hf0, List.map_nil] | (refine wantDf (fun h => ?_) (fun h => ?_) <;> try simp (disch := omega) only [go_sem, outSl, outHp, zeroS, hf0, List.map_nil, h]) | (refine wantDt (fun h => ?_) (fun h => ?_) <;> try simp (disch := omega) only [go_sem, outSl, outHp, zeroS, hf0, List.map_nil, h]) | (refine wantEf (fun h => ?_) (fun h => ?_) <;> try simp (disch := omega) only [go_sem, outSl, outHp, zeroS, hf0, List.map_nil, h]) | (refine wantEt (fun h => ?_) (fun h => ?_) <;> try simp (disch := omega) only [go_sem, outSl, outHp, zeroS, hf0, List.map_nil, h]) | (refine wantNf (fun h => ?_) (fun h => ?_) <;> try simp (disch := omega) only [go_sem, outSl, outHp, zeroS, hf0, List.map_nil, h]) | (refine wantNt (fun h => ?_) (fun h => ?_) <;> try simp (disch := omega) only [go_sem, outSl, outHp, zeroS, hf0, List.map_nil, h]) | (refine wantNBf (fun h => ?_) (fun h => ?_) <;> try simp (disch := omega) only [go_sem, outSl, outHp, zeroS, hf0, List.map_nil, h]) | (refine wantNBt (fun h => ?_) (fun h => ?_) <;> try simp (disch := omega) only [go_sem, outSl, outHp, zeroS, hf0, List.map_nil, h]) | (refine wantBf (fun h => ?_) (fun h => ?_) <;> try simp (disch := omega) only [go_sem, outSl, outHp, zeroS, hf0, List.map_nil, h]) | (refine wantBt (fun h => ?_) (fun h => ?_) <;> try simp (disch := omega) only [go_sem, outSl, outHp, zeroS, hf0, List.map_nil, h]) | (refine boolD (fun h => ?_) (fun h => ?_) <;> try simp (disch := omega) only [go_sem, outSl, outHp, zeroS, hf0, List.map_nil, h]) | (refine boolE (fun h => ?_) (fun h => ?_) <;> try simp (disch := omega) only [go_sem, outSl, outHp, zeroS, hf0, List.map_nil, h]) | (refine boolN (fun h => ?_) (fun h => ?_) <;> try simp (disch := omega) only [go_sem, outSl, outHp, zeroS, hf0, List.map_nil, h]) | (refine boolNB (fun h => ?_) (fun h => ?_) <;> try simp (disch := omega) only [go_sem, outSl, outHp, zeroS, hf0, List.map_nil, h]) | (refine boolB (fun h => ?_) (fun h => ?_) <;> try simp (disch := omega) only [go_sem, outSl, outHp, zeroS, hf0, List.map_nil, h]))
        refine loop_of (α := Unit) (fun _ => { tmps := slots 59 [(1, .int .i64 left), (2, .ptr 13 0 0 0), (4, .ptr 13 1 0 0), (5, .sref 13 2 0 (els.length + 1)), (8, .snil 14), (36, .tsl 14 []), (37, .int .i64 0), (38, .int .i64 0)], heap := [.row 13 [encV v] false true 0, .row 13 [zeroS] false true 1, .row 13 (y :: els) false true 2], base := 0 }) (fun _ => True) (fun _ => 0) () (by rw [encV_eq, hf0]; rfl) trivial ?_
        rintro _ _
        rw [encV_eq, ← hels, hf0]
        (repeat' first | simp (disch := omega) only [go_sem, outSl, outHp, zeroS, List.map_nil, List.take_length] | (refine wantDf (fun h => ?_) (fun h => ?_) <;> try simp (disch := omega) only [go_sem, outSl, outHp, zeroS, List.map_nil, List.take_length, h]) | (refine wantDt (fun h => ?_) (fun h => ?_) <;> try simp (disch := omega) only [go_sem, outSl, outHp, zeroS, List.map_nil, List.take_length, h]) | (refine wantEf (fun h => ?_) (fun h => ?_) <;> try simp (disch := omega) only [go_sem, outSl, outHp, zeroS, List.map_nil, List.take_length, h]) | (refine wantEt (fun h => ?_) (fun h => ?_) <;> try simp (disch := omega) only [go_sem, outSl, outHp, zeroS, List.map_nil, List.take_length, h]) | (refine wantNf (fun h => ?_) (fun h => ?_) <;> try simp (disch := omega) only [go_sem, outSl, outHp, zeroS, List.map_nil, List.take_length, h]) | (refine wantNt (fun h => ?_) (fun h => ?_) <;> try simp (disch := omega) only [go_sem, outSl, outHp, zeroS, List.map_nil, List.take_length, h]) | (refine wantNBf (fun h => ?_) (fun h => ?_) <;> try simp (disch := omega) only [go_sem, outSl, outHp, zeroS, List.map_nil, List.take_length, h]) | (refine wantNBt (fun h => ?_) (fun h => ?_) <;> try simp (disch := omega) only [go_sem, outSl, outHp, zeroS, List.map_nil, List.take_length, h]) | (refine wantBf (fun h => ?_) (fun h => ?_) <;> try simp (disch := omega) only [go_sem, outSl, outHp, zeroS, List.map_nil, List.take_length, h]) | (refine wantBt (fun h => ?_) (fun h => ?_) <;> try simp (disch := omega) only [go_sem, outSl, outHp, zeroS, List.map_nil, List.take_length, h]) | (refine boolD (fun h => ?_) (fun h => ?_) <;> try simp (disch := omega) only [go_sem, outSl, outHp, zeroS, List.map_nil, List.take_length, h]) | (refine boolE (fun h => ?_) (fun h => ?_) <;> try simp (disch := omega) only [go_sem, outSl, outHp, zeroS, List.map_nil, List.take_length, h]) | (refine boolN (fun h => ?_) (fun h => ?_) <;> try simp (disch := omega) only [go_sem, outSl, outHp, zeroS, List.map_nil, List.take_length, h]) | (refine boolNB (fun h => ?_) (fun h => ?_) <;> try simp (disch := omega) only [go_sem, outSl, outHp, zeroS, List.map_nil, List.take_length, h]) | (refine boolB (fun h => ?_) (fun h => ?_) <;> try simp (disch := omega) only [go_sem, outSl, outHp, zeroS, List.map_nil, List.take_length, h]))

theorem copy_run {n : Nat} {v : V} (hg : Good n v) (hn : n ≤ 65536) (hv : v.bulk ≤ 2 ^ 20) : PRun C0 26 [encV v] (encV v) := by
  have hr := copied_run n v hg hv 65536 (by omega) (by omega)
  refine prun_of ac26 rfl ?_
  rw [encV_eq] at hr ⊢
  (repeat' first | simp (disch := omega) only [go_sem, ac26, enter] | refine pure_of _ (hr) ?_ | (refine wantDf (fun h => ?_) (fun h => ?_) <;> try simp (disch := omega) only [go_sem, ac26, enter , h]) | (refine wantDt (fun h => ?_) (fun h => ?_) <;> try simp (disch := omega) only [go_sem, ac26, enter , h]) | (refine wantEf (fun h => ?_) (fun h => ?_) <;> try simp (disch := omega) only [go_sem, ac26, enter , h]) | (refine wantEt (fun h => ?_) (fun h => ?_) <;> try simp (disch := omega) only [go_sem, ac26, enter , h]) | (refine wantNf (fun h => ?_) (fun h => ?_) <;> try simp (disch := omega) only [go_sem, ac26, enter , h]) | (refine wantNt (fun h => ?_) (fun h => ?_) <;> try simp (disch := omega) only [go_sem, ac26, enter , h]) | (refine wantNBf (fun h => ?_) (fun h => ?_) <;> try simp (disch := omega) only [go_sem, ac26, enter , h]) | (refine wantNBt (fun h => ?_) (fun h => ?_) <;> try simp (disch := omega) only [go_sem, ac26, enter , h]) | (refine wantBf (fun h => ?_) (fun h => ?_) <;> try simp (disch := omega) only [go_sem, ac26, enter , h]) | (refine wantBt (fun h => ?_) (fun h => ?_) <;> try simp (disch := omega) only [go_sem, ac26, enter , h]) | (refine boolD (fun h => ?_) (fun h => ?_) <;> try simp (disch := omega) only [go_sem, ac26, enter , h]) | (refine boolE (fun h => ?_) (fun h => ?_) <;> try simp (disch := omega) only [go_sem, ac26, enter , h]) | (refine boolN (fun h => ?_) (fun h => ?_) <;> try simp (disch := omega) only [go_sem, ac26, enter , h]) | (refine boolNB (fun h => ?_) (fun h => ?_) <;> try simp (disch := omega) only [go_sem, ac26, enter , h]) | (refine boolB (fun h => ?_) (fun h => ?_) <;> try simp (disch := omega) only [go_sem, ac26, enter , h]))
end Ago
/- Reading at a path. -/
set_option linter.unusedSimpArgs false
set_option linter.unusedVariables false
set_option maxRecDepth 100000
set_option maxHeartbeats 4000000
namespace Ago
open Go (IntKind)
theorem encS_of (s : Stp) : encS s = .agg [.bool s.byIndex, .str s.key, .int .i64 s.index] := rfl
def nullV : V := .mk ⟨0, false, ⟨false, [], 0⟩, ⟨0, 0, 0, 0⟩, [], []⟩ [] []
theorem nullV_enc : encV nullV = .agg [.int .i64 0, .bool false, .bool false, .str [], .int .i64 0, .int .i64 0, .int .i64 0, .int .i64 0, .int .i64 0, .str [], .tsl 1 [], .tsl 13 [], .tsl 14 []] := by
  rw [encV_eq]
  rfl
theorem nullV_good (n : Nat) : Good (n + 1) nullV := .mk (by decide) ⟨by decide, by decide⟩ (fun x hx => by simp [V.kids, nullV, V.s, V.l] at hx)
theorem nullV_bulk : nullV.bulk ≤ 2 ^ 20 := by
  unfold V.bulk
  rw [nullV_enc]
  decide

/-- the place of a key, and its value -/
def keyAt (f : List (List UInt8 × V)) (key : List UInt8) : Option Nat := f.findIdx? fun x => x.1 == key
def fieldM (f : List (List UInt8 × V)) (key : List UInt8) : Option V := (f.find? fun x => x.1 == key).map (·.2)
def fitsM (v : V) (s : Stp) : Bool := if s.byIndex then v.s.kind == 6 else v.s.kind == 7
def partM (v : V) (s : Stp) : V :=
  if s.byIndex then (if 0 ≤ s.index then (v.l[s.index.toNat]?).getD nullV else nullV) else (fieldM v.f s.key).getD nullV
def getM : V → List Stp → V × Int
  | v, [] => (v, 0)
  | v, s :: p => if v.s.kind = 0 then getM v p else if fitsM v s = false then (nullV, 6) else getM (partM v s) p

theorem field_of {f : List (List UInt8 × V)} {key : List UInt8} {k : Nat} {x : List UInt8 × V} (h : ∀ y, y ∈ f.take k → y.1 ≠ key) (hx : f[k]? = some x) (he : x.1 = key) : fieldM f key = some x.2 ∧ keyAt f key = some k := by
  induction f generalizing k with
  | nil => simp at hx
  | cons y f ih =>
    cases k with
    | zero =>
      simp at hx
      subst hx
      unfold fieldM keyAt
      rw [List.find?_cons_of_pos (by simpa using he), List.findIdx?_cons, if_pos (by simpa using he)]
      exact ⟨rfl, rfl⟩
    | succ k =>
      have hy : y.1 ≠ key := h y (by simp)
      obtain ⟨h1, h2⟩ := ih (k := k) (fun z hz => h z (by simp [hz])) (by simpa using hx)
      unfold fieldM keyAt at *
      rw [List.find?_cons_of_neg (by simpa using hy), List.findIdx?_cons, if_neg (by simpa using hy), h2]
      exact ⟨h1, rfl⟩
theorem field_none {f : List (List UInt8 × V)} {key : List UInt8} (h : ∀ y, y ∈ f → y.1 ≠ key) : fieldM f key = none ∧ keyAt f key = none := by
  unfold fieldM keyAt
  rw [List.find?_eq_none.2 (fun y hy => by simpa using h y hy), List.findIdx?_eq_none_iff.2 (fun y hy => by simpa using h y hy)]
  exact ⟨rfl, rfl⟩

theorem fits_run (v : V) (s : Stp) : PRun C0 43 [encV v, encS s] (.bool (fitsM v s)) := by
  refine prun_of ac43 rfl ?_
  rw [encV_eq, encS_of]
  unfold fitsM
  cases s.byIndex <;> (repeat' first | simp (disch := omega) only [go_sem, ac43, enter] | (refine wantDf (fun h => ?_) (fun h => ?_) <;> try simp (disch := omega) only [go_sem, ac43, enter, h]) | (refine wantDt (fun h => ?_) (fun h => ?_) <;> try simp (disch := omega) only [go_sem, ac43, enter, h]) | (refine wantEf (fun h => ?_) (fun h => ?_) <;> try simp (disch := omega) only [go_sem, ac43, enter, h]) | (refine wantEt (fun h => ?_) (fun h => ?_) <;> try simp (disch := omega) only [go_sem, ac43, enter, h]) | (refine wantNf (fun h => ?_) (fun h => ?_) <;> try simp (disch := omega) only [go_sem, ac43, enter, h]) | (refine wantNt (fun h => ?_) (fun h => ?_) <;> try simp (disch := omega) only [go_sem, ac43, enter, h]) | (refine wantNBf (fun h => ?_) (fun h => ?_) <;> try simp (disch := omega) only [go_sem, ac43, enter, h]) | (refine wantNBt (fun h => ?_) (fun h => ?_) <;> try simp (disch := omega) only [go_sem, ac43, enter, h]) | (refine wantBf (fun h => ?_) (fun h => ?_) <;> try simp (disch := omega) only [go_sem, ac43, enter, h]) | (refine wantBt (fun h => ?_) (fun h => ?_) <;> try simp (disch := omega) only [go_sem, ac43, enter, h]) | (refine boolD (fun h => ?_) (fun h => ?_) <;> try simp (disch := omega) only [go_sem, ac43, enter, h]) | (refine boolE (fun h => ?_) (fun h => ?_) <;> try simp (disch := omega) only [go_sem, ac43, enter, h]) | (refine boolN (fun h => ?_) (fun h => ?_) <;> try simp (disch := omega) only [go_sem, ac43, enter, h]) | (refine boolNB (fun h => ?_) (fun h => ?_) <;> try simp (disch := omega) only [go_sem, ac43, enter, h]) | (refine boolB (fun h => ?_) (fun h => ?_) <;> try simp (disch := omega) only [go_sem, ac43, enter, h]))

theorem fieldV_run {n : Nat} (v : V) (key : List UInt8) (hg : Good n v) (hn : n ≤ 65536) (hv : v.bulk ≤ 2 ^ 20) (h7 : v.s.kind = 7) : PRun C0 61 [encV v, .str key] (.tup [encV ((fieldM v.f key).getD nullV), .bool (fieldM v.f key).isSome]) := by
  have L := V.lens hv
  obtain ⟨hd, ho, hk⟩ := hg
  refine prun_of ac61 rfl ?_
  rw [encV_eq v]
  have hle := encV_eq v
  (repeat' first | simp (disch := omega) only [go_sem, ac61, enter] | (refine wantDf (fun h => ?_) (fun h => ?_) <;> try simp (disch := omega) only [go_sem, ac61, enter, h]) | (refine wantDt (fun h => ?_) (fun h => ?_) <;> try simp (disch := omega) only [go_sem, ac61, enter, h]) | (refine wantEf (fun h => ?_) (fun h => ?_) <;> try simp (disch := omega) only [go_sem, ac61, enter, h]) | (refine wantEt (fun h => ?_) (fun h => ?_) <;> try simp (disch := omega) only [go_sem, ac61, enter, h]) | (refine wantNf (fun h => ?_) (fun h => ?_) <;> try simp (disch := omega) only [go_sem, ac61, enter, h]) | (refine wantNt (fun h => ?_) (fun h => ?_) <;> try simp (disch := omega) only [go_sem, ac61, enter, h]) | (refine wantNBf (fun h => ?_) (fun h => ?_) <;> try simp (disch := omega) only [go_sem, ac61, enter, h]) | (refine wantNBt (fun h => ?_) (fun h => ?_) <;> try simp (disch := omega) only [go_sem, ac61, enter, h]) | (refine wantBf (fun h => ?_) (fun h => ?_) <;> try simp (disch := omega) only [go_sem, ac61, enter, h]) | (refine wantBt (fun h => ?_) (fun h => ?_) <;> try simp (disch := omega) only [go_sem, ac61, enter, h]) | (refine boolD (fun h => ?_) (fun h => ?_) <;> try simp (disch := omega) only [go_sem, ac61, enter, h]) | (refine boolE (fun h => ?_) (fun h => ?_) <;> try simp (disch := omega) only [go_sem, ac61, enter, h]) | (refine boolN (fun h => ?_) (fun h => ?_) <;> try simp (disch := omega) only [go_sem, ac61, enter, h]) | (refine boolNB (fun h => ?_) (fun h => ?_) <;> try simp (disch := omega) only [go_sem, ac61, enter, h]) | (refine boolB (fun h => ?_) (fun h => ?_) <;> try simp (disch := omega) only [go_sem, ac61, enter, h]))
  refine loop_of (α := Nat) (fun k => { tmps := slots 29 [(1, .str key), (2, .ptr 13 0 0 0), (4, .ptr 13 1 0 0), (9, .tsl 14 (v.f.map encFd)), (10, .int .i64 v.f.length), (11, .int .i64 k)], heap := [.row 13 [encV v] false true 0, .row 13 [zeroS] false true 1], base := 0 }) (fun k => k ≤ v.f.length ∧ ∀ y, y ∈ v.f.take k → y.1 ≠ key) (fun k => v.f.length - k) 0 (by rw [encV_eq]; rfl) (by simp) ?_
  rintro k ⟨hk1, hk2⟩
  rw [encV_eq v]
  by_cases hlt : k < v.f.length
  · obtain ⟨x, hx⟩ := get_some hlt
    have hxm := List.mem_of_getElem? hx
    have hll := L.fields
    have hx2 := map_get (g := encFd) hx
    rw [encFd_eq x] at hx2
    by_cases he : x.1 = key
    · obtain ⟨h1, _⟩ := field_of hk2 hx he
      have hgx := hk x.2 (by unfold V.kids; rw [if_pos h7]; exact List.mem_map_of_mem hxm)
      have hr := copied_run _ x.2 hgx (by have := (L.fkids x hxm).1; omega) 65536 (by omega) (by omega)
      rw [h1]
      have he2 : (x.1 == key) = true := by simpa using he
      simp only [Option.getD_some, Option.isSome_some]
      rw [encV_eq x.2] at hr ⊢
      (repeat' first | simp (disch := omega) only [go_sem, hx2, zeroS, he2] | refine pure_of _ (hr) ?_ | (refine wantDf (fun h => ?_) (fun h => ?_) <;> try simp (disch := omega) only [go_sem, hx2, zeroS, he2 , h]) | (refine wantDt (fun h => ?_) (fun h => ?_) <;> try simp (disch := omega) only [go_sem, hx2, zeroS, he2 , h]) | (refine wantEf (fun h => ?_) (fun h => ?_) <;> try simp (disch := omega) only [go_sem, hx2, zeroS, he2 , h]) | (refine wantEt (fun h => ?_) (fun h => ?_) <;> try simp (disch := omega) only [go_sem, hx2, zeroS, he2 , h]) | (refine wantNf (fun h => ?_) (fun h => ?_) <;> try simp (disch := omega) only [go_sem, hx2, zeroS, he2 , h]) | (refine wantNt (fun h => ?_) (fun h => ?_) <;> try simp (disch := omega) only [go_sem, hx2, zeroS, he2 , h]) | (refine wantNBf (fun h => ?_) (fun h => ?_) <;> try simp (disch := omega) only [go_sem, hx2, zeroS, he2 , h]) | (refine wantNBt (fun h => ?_) (fun h => ?_) <;> try simp (disch := omega) only [go_sem, hx2, zeroS, he2 , h]) | (refine wantBf (fun h => ?_) (fun h => ?_) <;> try simp (disch := omega) only [go_sem, hx2, zeroS, he2 , h]) | (refine wantBt (fun h => ?_) (fun h => ?_) <;> try simp (disch := omega) only [go_sem, hx2, zeroS, he2 , h]) | (refine boolD (fun h => ?_) (fun h => ?_) <;> try simp (disch := omega) only [go_sem, hx2, zeroS, he2 , h]) | (refine boolE (fun h => ?_) (fun h => ?_) <;> try simp (disch := omega) only [go_sem, hx2, zeroS, he2 , h]) | (refine boolN (fun h => ?_) (fun h => ?_) <;> try simp (disch := omega) only [go_sem, hx2, zeroS, he2 , h]) | (refine boolNB (fun h => ?_) (fun h => ?_) <;> try simp (disch := omega) only [go_sem, hx2, zeroS, he2 , h]) | (refine boolB (fun h => ?_) (fun h => ?_) <;> try simp (disch := omega) only [go_sem, hx2, zeroS, he2 , h]))
    · have he2 : (x.1 == key) = false := by simpa using he
      (repeat' first | simp (disch := omega) only [go_sem, hx2, zeroS, he2] | (refine wantDf (fun h => ?_) (fun h => ?_) <;> try simp (disch := omega) only [go_sem, hx2, zeroS, he2, h]) | (refine wantDt (fun h => ?_) (fun h => ?_) <;> try simp (disch := omega) only [go_sem, hx2, zeroS, he2, h]) | (refine wantEf (fun h => ?_) (fun h => ?_) <;> try simp (disch := omega) only [go_sem, hx2, zeroS, he2, h]) | (refine wantEt (fun h => ?_) (fun h => ?_) <;> try simp (disch := omega) only [go_sem, hx2, zeroS, he2, h]) | (refine wantNf (fun h => ?_) (fun h => ?_) <;> try simp (disch := omega) only [go_sem, hx2, zeroS, he2, h]) | (refine wantNt (fun h => ?_) (fun h => ?_) <;> try simp (disch := omega) only [go_sem, hx2, zeroS, he2, h]) | (refine wantNBf (fun h => ?_) (fun h => ?_) <;> try simp (disch := omega) only [go_sem, hx2, zeroS, he2, h]) | (refine wantNBt (fun h => ?_) (fun h => ?_) <;> try simp (disch := omega) only [go_sem, hx2, zeroS, he2, h]) | (refine wantBf (fun h => ?_) (fun h => ?_) <;> try simp (disch := omega) only [go_sem, hx2, zeroS, he2, h]) | (refine wantBt (fun h => ?_) (fun h => ?_) <;> try simp (disch := omega) only [go_sem, hx2, zeroS, he2, h]) | (refine boolD (fun h => ?_) (fun h => ?_) <;> try simp (disch := omega) only [go_sem, hx2, zeroS, he2, h]) | (refine boolE (fun h => ?_) (fun h => ?_) <;> try simp (disch := omega) only [go_sem, hx2, zeroS, he2, h]) | (refine boolN (fun h => ?_) (fun h => ?_) <;> try simp (disch := omega) only [go_sem, hx2, zeroS, he2, h]) | (refine boolNB (fun h => ?_) (fun h => ?_) <;> try simp (disch := omega) only [go_sem, hx2, zeroS, he2, h]) | (refine boolB (fun h => ?_) (fun h => ?_) <;> try simp (disch := omega) only [go_sem, hx2, zeroS, he2, h]))
      refine ⟨k + 1, rfl, ⟨hlt, fun y hy => ?_⟩, by omega⟩
      rw [List.take_add_one, hx] at hy
      rcases List.mem_append.1 hy with hy | hy
      · exact hk2 y hy
      · have e : y = x := by simpa using hy
        rw [e]
        exact he
  · rw [take_len hlt hk1] at hk2
    rw [(field_none hk2).1]
    simp only [Option.getD_none, Option.isSome_none, nullV_enc]
    (repeat' first | simp (disch := omega) only [go_sem, zeroS] | (refine wantDf (fun h => ?_) (fun h => ?_) <;> try simp (disch := omega) only [go_sem, zeroS, h]) | (refine wantDt (fun h => ?_) (fun h => ?_) <;> try simp (disch := omega) only [go_sem, zeroS, h]) | (refine wantEf (fun h => ?_) (fun h => ?_) <;> try simp (disch := omega) only [go_sem, zeroS, h]) | (refine wantEt (fun h => ?_) (fun h => ?_) <;> try simp (disch := omega) only [go_sem, zeroS, h]) | (refine wantNf (fun h => ?_) (fun h => ?_) <;> try simp (disch := omega) only [go_sem, zeroS, h]) | (refine wantNt (fun h => ?_) (fun h => ?_) <;> try simp (disch := omega) only [go_sem, zeroS, h]) | (refine wantNBf (fun h => ?_) (fun h => ?_) <;> try simp (disch := omega) only [go_sem, zeroS, h]) | (refine wantNBt (fun h => ?_) (fun h => ?_) <;> try simp (disch := omega) only [go_sem, zeroS, h]) | (refine wantBf (fun h => ?_) (fun h => ?_) <;> try simp (disch := omega) only [go_sem, zeroS, h]) | (refine wantBt (fun h => ?_) (fun h => ?_) <;> try simp (disch := omega) only [go_sem, zeroS, h]) | (refine boolD (fun h => ?_) (fun h => ?_) <;> try simp (disch := omega) only [go_sem, zeroS, h]) | (refine boolE (fun h => ?_) (fun h => ?_) <;> try simp (disch := omega) only [go_sem, zeroS, h]) | (refine boolN (fun h => ?_) (fun h => ?_) <;> try simp (disch := omega) only [go_sem, zeroS, h]) | (refine boolNB (fun h => ?_) (fun h => ?_) <;> try simp (disch := omega) only [go_sem, zeroS, h]) | (refine boolB (fun h => ?_) (fun h => ?_) <;> try simp (disch := omega) only [go_sem, zeroS, h]))

theorem part_run {n : Nat} (v : V) (s : Stp) (hg : Good n v) (hn : n ≤ 65536) (hv : v.bulk ≤ 2 ^ 20) (hf : fitsM v s = true) : PRun C0 44 [encV v, encS s] (encV (partM v s)) := by
  refine prun_of ac44 rfl ?_
  rw [encS_of]
  unfold fitsM at hf
  cases hb : s.byIndex with
  | true =>
    rw [encV_eq v]
    by_cases h0 : 0 ≤ s.index
    · by_cases h1 : s.index < v.l.length
      · obtain ⟨x, hx⟩ := get_some (s := v.l) (k := s.index.toNat) (by omega)
        have hx2 := map_get (g := encV) hx
        have hp : partM v s = x := by simp [partM, hb, h0, hx]
        rw [hp]
        rw [encV_eq x] at hx2 ⊢
        (repeat' first | simp (disch := omega) only [go_sem, ac44, enter, hx2] | (refine wantDf (fun h => ?_) (fun h => ?_) <;> try simp (disch := omega) only [go_sem, ac44, enter, hx2, h]) | (refine wantDt (fun h => ?_) (fun h => ?_) <;> try simp (disch := omega) only [go_sem, ac44, enter, hx2, h]) | (refine wantEf (fun h => ?_) (fun h => ?_) <;> try simp (disch := omega) only [go_sem, ac44, enter, hx2, h]) | (refine wantEt (fun h => ?_) (fun h => ?_) <;> try simp (disch := omega) only [go_sem, ac44, enter, hx2, h]) | (refine wantNf (fun h => ?_) (fun h => ?_) <;> try simp (disch := omega) only [go_sem, ac44, enter, hx2, h]) | (refine wantNt (fun h => ?_) (fun h => ?_) <;> try simp (disch := omega) only [go_sem, ac44, enter, hx2, h]) | (refine wantNBf (fun h => ?_) (fun h => ?_) <;> try simp (disch := omega) only [go_sem, ac44, enter, hx2, h]) | (refine wantNBt (fun h => ?_) (fun h => ?_) <;> try simp (disch := omega) only [go_sem, ac44, enter, hx2, h]) | (refine wantBf (fun h => ?_) (fun h => ?_) <;> try simp (disch := omega) only [go_sem, ac44, enter, hx2, h]) | (refine wantBt (fun h => ?_) (fun h => ?_) <;> try simp (disch := omega) only [go_sem, ac44, enter, hx2, h]) | (refine boolD (fun h => ?_) (fun h => ?_) <;> try simp (disch := omega) only [go_sem, ac44, enter, hx2, h]) | (refine boolE (fun h => ?_) (fun h => ?_) <;> try simp (disch := omega) only [go_sem, ac44, enter, hx2, h]) | (refine boolN (fun h => ?_) (fun h => ?_) <;> try simp (disch := omega) only [go_sem, ac44, enter, hx2, h]) | (refine boolNB (fun h => ?_) (fun h => ?_) <;> try simp (disch := omega) only [go_sem, ac44, enter, hx2, h]) | (refine boolB (fun h => ?_) (fun h => ?_) <;> try simp (disch := omega) only [go_sem, ac44, enter, hx2, h]))
      · have hp : partM v s = nullV := by
          unfold partM
          rw [if_pos hb, if_pos h0, List.getElem?_eq_none (by omega)]
          rfl
        rw [hp, nullV_enc]
        (repeat' first | simp (disch := omega) only [go_sem, ac44, enter] | (refine wantDf (fun h => ?_) (fun h => ?_) <;> try simp (disch := omega) only [go_sem, ac44, enter, h]) | (refine wantDt (fun h => ?_) (fun h => ?_) <;> try simp (disch := omega) only [go_sem, ac44, enter, h]) | (refine wantEf (fun h => ?_) (fun h => ?_) <;> try simp (disch := omega) only [go_sem, ac44, enter, h]) | (refine wantEt (fun h => ?_) (fun h => ?_) <;> try simp (disch := omega) only [go_sem, ac44, enter, h]) | (refine wantNf (fun h => ?_) (fun h => ?_) <;> try simp (disch := omega) only [go_sem, ac44, enter, h]) | (refine wantNt (fun h => ?_) (fun h => ?_) <;> try simp (disch := omega) only [go_sem, ac44, enter, h]) | (refine wantNBf (fun h => ?_) (fun h => ?_) <;> try simp (disch := omega) only [go_sem, ac44, enter, h]) | (refine wantNBt (fun h => ?_) (fun h => ?_) <;> try simp (disch := omega) only [go_sem, ac44, enter, h]) | (refine wantBf (fun h => ?_) (fun h => ?_) <;> try simp (disch := omega) only [go_sem, ac44, enter, h]) | (refine wantBt (fun h => ?_) (fun h => ?_) <;> try simp (disch := omega) only [go_sem, ac44, enter, h]) | (refine boolD (fun h => ?_) (fun h => ?_) <;> try simp (disch := omega) only [go_sem, ac44, enter, h]) | (refine boolE (fun h => ?_) (fun h => ?_) <;> try simp (disch := omega) only [go_sem, ac44, enter, h]) | (refine boolN (fun h => ?_) (fun h => ?_) <;> try simp (disch := omega) only [go_sem, ac44, enter, h]) | (refine boolNB (fun h => ?_) (fun h => ?_) <;> try simp (disch := omega) only [go_sem, ac44, enter, h]) | (refine boolB (fun h => ?_) (fun h => ?_) <;> try simp (disch := omega) only [go_sem, ac44, enter, h]))
    · have hp : partM v s = nullV := by simp [partM, hb, h0]
      rw [hp, nullV_enc]
      (repeat' first | simp (disch := omega) only [go_sem, ac44, enter] | (refine wantDf (fun h => ?_) (fun h => ?_) <;> try simp (disch := omega) only [go_sem, ac44, enter, h]) | (refine wantDt (fun h => ?_) (fun h => ?_) <;> try simp (disch := omega) only [go_sem, ac44, enter, h]) | (refine wantEf (fun h => ?_) (fun h => ?_) <;> try simp (disch := omega) only [go_sem, ac44, enter, h]) | (refine wantEt (fun h => ?_) (fun h => ?_) <;> try simp (disch := omega) only [go_sem, ac44, enter, h]) | (refine wantNf (fun h => ?_) (fun h => ?_) <;> try simp (disch := omega) only [go_sem, ac44, enter, h]) | (refine wantNt (fun h => ?_) (fun h => ?_) <;> try simp (disch := omega) only [go_sem, ac44, enter, h]) | (refine wantNBf (fun h => ?_) (fun h => ?_) <;> try simp (disch := omega) only [go_sem, ac44, enter, h]) | (refine wantNBt (fun h => ?_) (fun h => ?_) <;> try simp (disch := omega) only [go_sem, ac44, enter, h]) | (refine wantBf (fun h => ?_) (fun h => ?_) <;> try simp (disch := omega) only [go_sem, ac44, enter, h]) | (refine wantBt (fun h => ?_) (fun h => ?_) <;> try simp (disch := omega) only [go_sem, ac44, enter, h]) | (refine boolD (fun h => ?_) (fun h => ?_) <;> try simp (disch := omega) only [go_sem, ac44, enter, h]) | (refine boolE (fun h => ?_) (fun h => ?_) <;> try simp (disch := omega) only [go_sem, ac44, enter, h]) | (refine boolN (fun h => ?_) (fun h => ?_) <;> try simp (disch := omega) only [go_sem, ac44, enter, h]) | (refine boolNB (fun h => ?_) (fun h => ?_) <;> try simp (disch := omega) only [go_sem, ac44, enter, h]) | (refine boolB (fun h => ?_) (fun h => ?_) <;> try simp (disch := omega) only [go_sem, ac44, enter, h]))
  | false =>
    rw [hb] at hf
    have h7 : v.s.kind = 7 := by simpa using hf
    have hr := fieldV_run v s.key hg hn hv h7
    have hp : partM v s = (fieldM v.f s.key).getD nullV := by simp [partM, hb]
    rw [hp]
    generalize (fieldM v.f s.key).getD nullV = x at hr ⊢
    rw [encV_eq v] at hr ⊢
    rw [encV_eq x] at hr ⊢
    (repeat' first | simp (disch := omega) only [go_sem, ac44, enter] | refine pure_of _ (hr) ?_ | (refine wantDf (fun h => ?_) (fun h => ?_) <;> try simp (disch := omega) only [go_sem, ac44, enter , h]) | (refine wantDt (fun h => ?_) (fun h => ?_) <;> try simp (disch := omega) only [go_sem, ac44, enter , h]) | (refine wantEf (fun h => ?_) (fun h => ?_) <;> try simp (disch := omega) only [go_sem, ac44, enter , h]) | (refine wantEt (fun h => ?_) (fun h => ?_) <;> try simp (disch := omega) only [go_sem, ac44, enter , h]) | (refine wantNf (fun h => ?_) (fun h => ?_) <;> try simp (disch := omega) only [go_sem, ac44, enter , h]) | (refine wantNt (fun h => ?_) (fun h => ?_) <;> try simp (disch := omega) only [go_sem, ac44, enter , h]) | (refine wantNBf (fun h => ?_) (fun h => ?_) <;> try simp (disch := omega) only [go_sem, ac44, enter , h]) | (refine wantNBt (fun h => ?_) (fun h => ?_) <;> try simp (disch := omega) only [go_sem, ac44, enter , h]) | (refine wantBf (fun h => ?_) (fun h => ?_) <;> try simp (disch := omega) only [go_sem, ac44, enter , h]) | (refine wantBt (fun h => ?_) (fun h => ?_) <;> try simp (disch := omega) only [go_sem, ac44, enter , h]) | (refine boolD (fun h => ?_) (fun h => ?_) <;> try simp (disch := omega) only [go_sem, ac44, enter , h]) | (refine boolE (fun h => ?_) (fun h => ?_) <;> try simp (disch := omega) only [go_sem, ac44, enter , h]) | (refine boolN (fun h => ?_) (fun h => ?_) <;> try simp (disch := omega) only [go_sem, ac44, enter , h]) | (refine boolNB (fun h => ?_) (fun h => ?_) <;> try simp (disch := omega) only [go_sem, ac44, enter , h]) | (refine boolB (fun h => ?_) (fun h => ?_) <;> try simp (disch := omega) only [go_sem, ac44, enter , h]))

theorem field_mem {f : List (List UInt8 × V)} {key : List UInt8} {x : V} (h : fieldM f key = some x) : ∃ y, y ∈ f ∧ y.2 = x := by
  unfold fieldM at h
  rw [Option.map_eq_some_iff] at h
  obtain ⟨y, h1, h2⟩ := h
  exact ⟨y, List.mem_of_find?_eq_some h1, h2⟩

theorem part_good {n : Nat} {v : V} {s : Stp} (hg : Good (n + 1) v) (hv : v.bulk ≤ 2 ^ 20) (hf : fitsM v s = true) : (∃ m, m ≤ n + 1 ∧ Good m (partM v s)) ∧ (partM v s).bulk ≤ 2 ^ 20 := by
  have L := V.lens hv
  have hnull : (∃ m, m ≤ n + 1 ∧ Good m nullV) ∧ nullV.bulk ≤ 2 ^ 20 := ⟨⟨n + 1, Nat.le_refl _, nullV_good n⟩, nullV_bulk⟩
  cases hg with
  | mk hd ho hk =>
    unfold fitsM at hf
    unfold partM
    cases hb : s.byIndex with
    | true =>
      rw [hb] at hf
      have h6 : v.s.kind = 6 := by simpa using hf
      simp only [if_true]
      split
      · cases hx : v.l[s.index.toNat]? with
        | none => exact hnull
        | some x =>
          have hxm := List.mem_of_getElem? hx
          exact ⟨⟨n, by omega, hk x (by unfold V.kids; rw [if_neg (by omega)]; exact hxm)⟩, by have := L.kids x hxm; simp only [Option.getD_some]; omega⟩
      · exact hnull
    | false =>
      rw [hb] at hf
      have h7 : v.s.kind = 7 := by simpa using hf
      simp only [Bool.false_eq_true, if_false]
      cases hx : fieldM v.f s.key with
      | none => exact hnull
      | some x =>
        obtain ⟨y, hy, rfl⟩ := field_mem hx
        exact ⟨⟨n, by omega, hk y.2 (by unfold V.kids; rw [if_pos h7]; exact List.mem_map_of_mem hy)⟩, by have := (L.fkids y hy).1; simp only [Option.getD_some]; omega⟩
end Ago
