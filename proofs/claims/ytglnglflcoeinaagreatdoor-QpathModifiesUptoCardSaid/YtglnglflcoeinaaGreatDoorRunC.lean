/- Layer 7 of the references: what is wrong with a value. -/
import Derived.Test.YtglnglflcoeinaaGreatDoorRunB
import Derived.Test.YtglnglflcoeinaaGreatDoorRunA
import Derived.Test.YtglnglflcoeinaaGreatDoorMachE
set_option linter.unusedSimpArgs false
set_option linter.unusedVariables false
set_option maxRecDepth 100000
set_option maxHeartbeats 4000000
namespace Ago
open Go (IntKind)
/-- Only a list has elements, and only a map fields. -/
def OwnOk (v : V) : Prop := (v.s.kind = 6 ∨ v.l.length = 0) ∧ (v.s.kind = 7 ∨ v.f.length = 0)
end Ago
/- Layer 7 of the references, continued: what is wrong with a value. -/
set_option maxRecDepth 100000
set_option maxHeartbeats 4000000
namespace Ago
open Go (IntKind)

end Ago
/- Layer 7 of the references, continued: how values are walked. -/
set_option maxRecDepth 100000
set_option maxHeartbeats 4000000
namespace Ago
open Go (IntKind)
def V.kids (v : V) : List V := if v.s.kind = 7 then v.f.map (·.2) else v.l

theorem kids_run (v : V) (hv : v.bulk ≤ 2 ^ 24) : PRun C0 58 [encV v] (.tsl 13 (v.kids.map encV)) := by
  have L := V.lens hv
  refine prun_of ac58 rfl ?_
  rw [encV_eq]
  by_cases h7 : v.s.kind = 7
  · (repeat' first | simp (disch := omega) only [go_sem, ac58, enter] | ((apply spl) <;> intro h <;> try simp (disch := omega) only [go_sem, ac58, enter, h]))
    refine loop_of (α := Nat × List AV) (fun a => { tmps := slots 27 [(1, .ptr 13 0 0 0), (3, outSl 13 1 a.2), (4, .int .i64 a.1)], heap := [.row 13 [encV v] false true 0] ++ outHp 13 1 a.2, base := 0 }) (fun a => a.1 ≤ v.f.length ∧ a.2 = (v.f.take a.1).map fun x => encV x.2) (fun a => v.f.length - a.1) (0, []) (by rw [encV_eq]; rfl) (by simp) ?_
    rintro ⟨k, els⟩ ⟨hk, hl⟩
    simp only at hk hl
    rw [encV_eq]
    by_cases hlt : k < v.f.length
    · obtain ⟨x, hx⟩ := get_some hlt
      have hx2 := map_get (g := encFd) hx
      rw [encFd_eq] at hx2
      have hnew : els ++ [encV x.2] = (v.f.take (k + 1)).map fun x => encV x.2 := by rw [hl, List.take_add_one, hx]; simp
      rw [encV_eq x.2] at hnew
      have hlen : els.length = k := by rw [hl]; simp; omega
      have hfl := L.fields
      cases els with
      | nil =>
        (repeat' first | simp (disch := omega) only [go_sem, hx2, List.length_map, outSl, outHp] | ((apply spl) <;> intro h <;> try simp (disch := omega) only [go_sem, hx2, List.length_map, outSl, outHp, h]))
        refine ⟨(k + 1, (v.f.take (k + 1)).map fun x => encV x.2), ?_, ⟨hlt, rfl⟩, by simp only; omega⟩
        simp only [← hnew]
        rfl
      | cons y els =>
        simp only [List.length_cons] at hlen
        (repeat' first | simp (disch := omega) only [go_sem, hx2, List.length_map, outSl, outHp] | ((apply spl) <;> intro h <;> try simp (disch := omega) only [go_sem, hx2, List.length_map, outSl, outHp, h]))
        refine ⟨(k + 1, (v.f.take (k + 1)).map fun x => encV x.2), ?_, ⟨hlt, rfl⟩, by simp only; omega⟩
        simp only [← hnew, List.cons_append, outSl, outHp, List.length_append, List.length_cons, List.length_nil]
        rfl
    · have hf : els = v.kids.map encV := by
        rw [hl, take_len hlt hk]
        simp [V.kids, h7]
      rw [← hf]
      cases els with
      | nil =>
        (repeat' first | simp (disch := omega) only [go_sem, List.length_map, outSl, outHp] | ((apply spl) <;> intro h <;> try simp (disch := omega) only [go_sem, List.length_map, outSl, outHp, h]))
      | cons y els =>
        (repeat' first | simp (disch := omega) only [go_sem, List.length_map, outSl, outHp, List.take_length] | ((apply spl) <;> intro h <;> try simp (disch := omega) only [go_sem, List.length_map, outSl, outHp, List.take_length, h]))
  · (repeat' first | simp (disch := omega) only [go_sem, ac58, enter] | ((apply spl) <;> intro h <;> try simp (disch := omega) only [go_sem, ac58, enter, h]))
    simp [V.kids, h7]

/-- A valid value of so much depth, as far as it matters. -/
inductive Good : Nat → V → Prop where
  | mk {n : Nat} {v : V} (h : decOk v.s.num = true) (ho : OwnOk v) (hk : ∀ x, x ∈ v.kids → Good n x) : Good (n + 1) v

theorem kids_bulk {v : V} (hv : v.bulk ≤ 2 ^ 24) : (∀ x, x ∈ v.kids → x.bulk < v.bulk) ∧ v.kids.length < 2 ^ 24 := by
  have L := V.lens hv
  unfold V.kids
  split
  · refine ⟨fun x hx => ?_, by simp only [List.length_map]; exact L.fields⟩
    obtain ⟨y, hy, rfl⟩ := List.mem_map.1 hx
    exact (L.fkids y hy).1
  · exact ⟨L.kids, L.list⟩

end Ago
/- Paths: steps of values. -/
set_option maxRecDepth 100000
set_option maxHeartbeats 4000000
namespace Ago
open Go (IntKind)
structure Stp where
  byIndex : Bool
  key : List UInt8
  index : Int
  deriving DecidableEq
def encS (s : Stp) : AV := .agg [.bool s.byIndex, .str s.key, .int .i64 s.index]

end Ago
/- value.Copy: the same value. -/
set_option maxRecDepth 100000
set_option maxHeartbeats 4000000
namespace Ago
open Go (IntKind)
attribute [go_sem] List.length_map encB_len
theorem copied_run : ∀ (n : Nat) (v : V), Good n v → v.bulk ≤ 2 ^ 24 → ∀ (left : Int), n ≤ left → left < 2 ^ 30 → PRun C0 45 [encV v, .int .i64 left] (encV v) := by
  intro n
  induction n with
  | zero => intro v h; cases h
  | succ n ih =>
    intro v hg hv left hl1 hl2
    obtain ⟨hd, ⟨ho1, ho2⟩, hk⟩ := hg
    have L := V.lens hv
    have hcl := cloneP (code := code) (clR := clR) (clP := clP) (f := 62) rfl (encB v.s.bytes) (by have := L.bytes; rw [encB_len]; unfold lim; omega) (by have := L.bytes; rw [encB_len]; omega)
    refine prun_of ac45 rfl ?_
    rw [encV_eq]
    have hle := encV_eq v
    simp (disch := omega) only [go_sem, ac45, enter]
    refine pure_of _ hcl ?_
    (repeat' first | simp (disch := omega) only [go_sem] | ((apply spl) <;> intro h <;> try simp (disch := omega) only [go_sem, h]))
    refine loop_of (α := Nat × List AV) (fun a => { tmps := slots 59 [(1, .int .i64 left), (2, .ptr 13 0 0 0), (4, .ptr 13 1 0 0), (5, outSl 13 2 a.2), (21, .tsl 13 (v.l.map encV)), (22, .int .i64 v.l.length), (23, .int .i64 a.1)], heap := [.row 13 [encV v] false true 0, .row 13 [zeroS] false true 1] ++ outHp 13 2 a.2, base := 0 }) (fun a => a.1 ≤ v.l.length ∧ a.2 = (v.l.take a.1).map encV) (fun a => v.l.length - a.1) (0, []) (by rw [encV_eq]; rfl) (by simp) ?_
    rintro ⟨k, els⟩ ⟨hk1, hels⟩
    simp only at hk1 hels
    rw [encV_eq]
    by_cases hlt : k < v.l.length
    · obtain ⟨x, hx⟩ := get_some hlt
      have hxm := List.mem_of_getElem? hx
      have hx2 := map_get (g := encV) hx
      have hkind : v.s.kind = 6 := by omega
      have hgx : Good n x := hk x (by unfold V.kids; rw [if_neg (by omega)]; exact hxm)
      have hr := ih x hgx (by have := L.kids x hxm; omega) (left - 1) (by omega) (by omega)
      have hnew : els ++ [encV x] = (v.l.take (k + 1)).map encV := by rw [hels, List.take_add_one, hx]; simp
      rw [encV_eq x] at hnew hr hx2
      have hlen : els.length = k := by rw [hels]; simp; omega
      have hll := L.list
      cases els with
      | nil =>
        (repeat' first | simp (disch := omega) only [go_sem, hx2, List.length_map, outSl, outHp, zeroS] | refine pure_of _ (hr) ?_ | ((apply spl) <;> intro h <;> try simp (disch := omega) only [go_sem, hx2, List.length_map, outSl, outHp, zeroS , h]))
        refine ⟨(k + 1, (v.l.take (k + 1)).map encV), ?_, ⟨hlt, rfl⟩, by simp only; omega⟩
        simp only [← hnew, hle]
        rfl
      | cons y els =>
        simp only [List.length_cons] at hlen
        (repeat' first | simp (disch := omega) only [go_sem, hx2, List.length_map, outSl, outHp, zeroS] | refine pure_of _ (hr) ?_ | ((apply spl) <;> intro h <;> try simp (disch := omega) only [go_sem, hx2, List.length_map, outSl, outHp, zeroS , h]))
        refine ⟨(k + 1, (v.l.take (k + 1)).map encV), ?_, ⟨hlt, rfl⟩, by simp only; omega⟩
        simp only [← hnew, hle, List.cons_append, outSl, outHp, List.length_append, List.length_cons, List.length_nil]
        rfl
    · rw [take_len hlt hk1] at hels
      cases els with
      | nil =>
        (repeat' first | simp (disch := omega) only [go_sem, outSl, outHp, zeroS] | ((apply spl) <;> intro h <;> try simp (disch := omega) only [go_sem, outSl, outHp, zeroS, h]))
        refine loop_of (α := Nat × List AV) (fun a => { tmps := slots 59 [(1, .int .i64 left), (2, .ptr 13 0 0 0), (4, .ptr 13 1 0 0), (5, .snil 13), (8, outSl 14 2 a.2), (36, .tsl 14 (v.f.map encFd)), (37, .int .i64 v.f.length), (38, .int .i64 a.1)], heap := [.row 13 [encV v] false true 0, .row 13 [zeroS] false true 1] ++ outHp 14 2 a.2, base := 0 }) (fun a => a.1 ≤ v.f.length ∧ a.2 = (v.f.take a.1).map encFd) (fun a => v.f.length - a.1) (0, []) (by rw [encV_eq]; rfl) (by simp) ?_
        clear hk1 hlt
        rintro ⟨k, els⟩ ⟨hk1, hels2⟩
        simp only at hk1 hels2
        rw [encV_eq]
        by_cases hlt : k < v.f.length
        · obtain ⟨x, hx⟩ := get_some hlt
          have hxm := List.mem_of_getElem? hx
          have hx2 := map_get (g := encFd) hx
          have hkind : v.s.kind = 7 := by omega
          have hgx : Good n x.2 := hk x.2 (by unfold V.kids; rw [if_pos hkind]; exact List.mem_map_of_mem hxm)
          have hr := ih x.2 hgx (by have := (L.fkids x hxm).1; omega) (left - 1) (by omega) (by omega)
          have hnew : els ++ [encFd x] = (v.f.take (k + 1)).map encFd := by rw [hels2, List.take_add_one, hx]; simp
          rw [encFd_eq x] at hnew hx2
          rw [encV_eq] at hr
          have hlen : els.length = k := by rw [hels2]; simp; omega
          have hll := L.fields
          cases els with
          | nil =>
            (repeat' first | simp (disch := omega) only [go_sem, hx2, outSl, outHp, zeroS] | refine pure_of _ (hr) ?_ | ((apply spl) <;> intro h <;> try simp (disch := omega) only [go_sem, hx2, outSl, outHp, zeroS , h]))
            refine ⟨(k + 1, (v.f.take (k + 1)).map encFd), ?_, ⟨hlt, rfl⟩, by simp only; omega⟩
            simp only [← hnew, hle]
            rfl
          | cons y els =>
            simp only [List.length_cons] at hlen
            (repeat' first | simp (disch := omega) only [go_sem, hx2, outSl, outHp, zeroS] | refine pure_of _ (hr) ?_ | ((apply spl) <;> intro h <;> try simp (disch := omega) only [go_sem, hx2, outSl, outHp, zeroS , h]))
            refine ⟨(k + 1, (v.f.take (k + 1)).map encFd), ?_, ⟨hlt, rfl⟩, by simp only; omega⟩
            simp only [← hnew, hle, List.cons_append, outSl, outHp, List.length_append, List.length_cons, List.length_nil]
            rfl
        · rw [take_len hlt hk1] at hels2
          rw [← hels, ← hels2]
          cases els with
          | nil => (repeat' first | simp (disch := omega) only [go_sem, outSl, outHp, zeroS] | ((apply spl) <;> intro h <;> try simp (disch := omega) only [go_sem, outSl, outHp, zeroS, h]))
          | cons y els => (repeat' first | simp (disch := omega) only [go_sem, outSl, outHp, zeroS, List.take_length] | ((apply spl) <;> intro h <;> try simp (disch := omega) only [go_sem, outSl, outHp, zeroS, List.take_length, h]))
      | cons y els =>
        have hkind : v.s.kind = 6 := by
          have : v.l.length ≠ 0 := fun h0 => by
            rw [List.eq_nil_of_length_eq_zero h0] at hels
            cases hels
          omega
        have hf0 : v.f = [] := List.eq_nil_of_length_eq_zero (by omega)
        (repeat' first | simp (disch := omega) only [go_sem, outSl, outHp, zeroS, hf0, List.map_nil] | ((apply spl) <;> intro h <;> try simp (disch := omega) only [go_sem, outSl, outHp, zeroS, hf0, List.map_nil, h]))
        refine loop_of (α := Unit) (fun _ => { tmps := slots 59 [(1, .int .i64 left), (2, .ptr 13 0 0 0), (4, .ptr 13 1 0 0), (5, .sref 13 2 0 (els.length + 1)), (8, .snil 14), (36, .tsl 14 []), (37, .int .i64 0), (38, .int .i64 0)], heap := [.row 13 [encV v] false true 0, .row 13 [zeroS] false true 1, .row 13 (y :: els) false true 2], base := 0 }) (fun _ => True) (fun _ => 0) () (by rw [encV_eq, hf0]; rfl) trivial ?_
        rintro _ _
        rw [encV_eq, ← hels, hf0]
        (repeat' first | simp (disch := omega) only [go_sem, outSl, outHp, zeroS, List.map_nil, List.take_length] | ((apply spl) <;> intro h <;> try simp (disch := omega) only [go_sem, outSl, outHp, zeroS, List.map_nil, List.take_length, h]))

theorem copy_run {n : Nat} {v : V} (hg : Good n v) (hn : n ≤ 65536) (hv : v.bulk ≤ 2 ^ 24) : PRun C0 26 [encV v] (encV v) := by
  have hr := copied_run n v hg hv 65536 (by omega) (by omega)
  refine prun_of ac26 rfl ?_
  rw [encV_eq] at hr ⊢
  (repeat' first | simp (disch := omega) only [go_sem, ac26, enter] | refine pure_of _ (hr) ?_ | ((apply spl) <;> intro h <;> try simp (disch := omega) only [go_sem, ac26, enter , h]))
end Ago
