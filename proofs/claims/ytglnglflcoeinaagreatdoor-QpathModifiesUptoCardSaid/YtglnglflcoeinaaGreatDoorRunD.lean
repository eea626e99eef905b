/- Valid paths. -/
import Derived.Test.YtglnglflcoeinaaGreatDoorRunC
import Derived.Test.YtglnglflcoeinaaGreatDoorRunB
import Derived.Test.YtglnglflcoeinaaGreatDoorRunA
set_option linter.unusedSimpArgs false
set_option linter.unusedVariables false
set_option maxRecDepth 100000
set_option maxHeartbeats 4000000
namespace Ago
open Go (IntKind)
attribute [go_sem] List.length_map encB_len
/-- R08.Valid -/
noncomputable def stpOk (s : Stp) : Bool := if s.byIndex then s.key == [] && decide (0 ≤ s.index) && decide (s.index ≤ 65536) else s.index == 0 && decide (s.key.length ≤ 1024) && utf s.key
noncomputable def pathOk (p : List Stp) : Bool := decide (p.length ≤ 48) && p.all stpOk
theorem validPath_run (p : List Stp) (hp : p.length < 2 ^ 30) (hk : ∀ s, s ∈ p → s.key.length < 2 ^ 30) : PRun C0 12 [.tsl 3 (p.map encS)] (.bool (pathOk p)) := by
  refine prun_of ac12 rfl ?_
  by_cases hl : 48 < p.length
  · (repeat' first | simp (disch := omega) only [go_sem, ac12, enter] | ((apply spl) <;> intro h <;> try simp (disch := omega) only [go_sem, ac12, enter, h]))
    have : ¬ p.length ≤ 48 := by omega
    simp [pathOk, this]
  · (repeat' first | simp (disch := omega) only [go_sem, ac12, enter] | ((apply spl) <;> intro h <;> try simp (disch := omega) only [go_sem, ac12, enter, h]))
    refine loop_of (α := Nat) (fun k => { tmps := slots 74 [(0, .tsl 3 (p.map encS)), (3, .int .i64 k)], heap := [], base := 0 }) (fun k => k ≤ p.length ∧ (p.take k).all stpOk = true) (fun k => p.length - k) 0 rfl ⟨Nat.zero_le _, rfl⟩ ?_
    rintro k ⟨hk1, hk2⟩
    by_cases hlt : k < p.length
    · obtain ⟨s, hs⟩ := get_some hlt
      have hs2 := map_get (g := encS) hs
      rw [show encS s = .agg [.bool s.byIndex, .str s.key, .int .i64 s.index] from rfl] at hs2
      have hu := utf_run s.key (hk s (List.mem_of_getElem? hs))
      have stop : stpOk s = false → pathOk p = false := fun h => by
        unfold pathOk
        rw [not_all hs h]
        simp
      cases hb : s.byIndex with
      | true =>
        rw [hb] at hs2
        by_cases h1 : s.key = []
        · have h2 : (s.key == []) = true := by simp [h1]
          (repeat' first | simp (disch := omega) only [go_sem, hs2, h2, bne] | ((apply spl) <;> intro h <;> try simp (disch := omega) only [go_sem, hs2, h2, bne, h]))
          all_goals first
            | exact ⟨k + 1, rfl, ⟨hlt, take_succ_all hs hk2 (by simp [stpOk, hb, h1]; omega)⟩, by omega⟩
            | rw [stop (by simp [stpOk, hb, h1]; omega)]
        · have h2 : (s.key == []) = false := by simp [h1]
          (repeat' first | simp (disch := omega) only [go_sem, hs2, h2, bne] | ((apply spl) <;> intro h <;> try simp (disch := omega) only [go_sem, hs2, h2, bne, h]))
          all_goals rw [stop (by simp [stpOk, hb, h1])]
      | false =>
        rw [hb] at hs2
        (repeat' first | simp (disch := omega) only [go_sem, hs2] | refine pure_of _ (hu) ?_ | ((apply spl) <;> intro h <;> try simp (disch := omega) only [go_sem, hs2 , h]))
        all_goals first
          | exact ⟨k + 1, rfl, ⟨hlt, take_succ_all hs hk2 (by simp [stpOk, hb]; simp_all; omega)⟩, by omega⟩
          | rw [stop (by simp [stpOk, hb]; simp_all; omega)]
          | rw [stop (by simp [stpOk, hb]; simp_all)]
          | rw [stop (by simp [stpOk, hb]; omega)]
    · (repeat' first | simp (disch := omega) only [go_sem] | ((apply spl) <;> intro h <;> try simp (disch := omega) only [go_sem, h]))
      rw [take_len hlt hk1] at hk2
      have : p.length ≤ 48 := by omega
      simp [pathOk, hk2, this]
end Ago
/- Reading at a path. -/
set_option maxRecDepth 100000
set_option maxHeartbeats 4000000
namespace Ago
open Go (IntKind)
theorem encS_of (s : Stp) : encS s = .agg [.bool s.byIndex, .str s.key, .int .i64 s.index] := rfl
def nullV : V := .mk ⟨0, false, ⟨false, [], 0⟩, ⟨0, 0, 0, 0⟩, [], []⟩ [] []
theorem nullV_enc : encV nullV = .agg [.int .i64 0, .bool false, .bool false, .str [], .int .i64 0, .int .i64 0, .int .i64 0, .int .i64 0, .int .i64 0, .str [], .tsl 1 [], .tsl 13 [], .tsl 14 []] := by
  rw [encV_eq]
  rfl
theorem nullV_good (n : Nat) : Good (n + 1) nullV := .mk (by decide) ⟨by decide, by decide⟩ (fun x hx => by simp [V.kids, nullV, V.s, V.l] at hx)
theorem nullV_bulk : nullV.bulk ≤ 2 ^ 24 := by
  unfold V.bulk
  rw [nullV_enc]
  decide

/-- the place of a key, and its value -/
def keyAt (f : List (List UInt8 × V)) (key : List UInt8) : Option Nat := f.findIdx? fun x => x.1 == key
def fieldM (f : List (List UInt8 × V)) (key : List UInt8) : Option V := (f.find? fun x => x.1 == key).map (·.2)
def fitsM (v : V) (s : Stp) : Bool := if s.byIndex then v.s.kind == 6 else v.s.kind == 7
def partM (v : V) (s : Stp) : V :=
  if s.byIndex then (if 0 ≤ s.index then (v.l[s.index.toNat]?).getD nullV else nullV) else (fieldM v.f s.key).getD nullV
def getM : V → List Stp → V × Int
  | v, [] => (v, 0)
  | v, s :: p => if v.s.kind = 0 then getM v p else if fitsM v s = false then (nullV, 6) else getM (partM v s) p

theorem field_of {f : List (List UInt8 × V)} {key : List UInt8} {k : Nat} {x : List UInt8 × V} (h : ∀ y, y ∈ f.take k → y.1 ≠ key) (hx : f[k]? = some x) (he : x.1 = key) : fieldM f key = some x.2 ∧ keyAt f key = some k := by
  induction f generalizing k with
  | nil => simp at hx
  | cons y f ih =>
    cases k with
    | zero =>
      simp at hx
      subst hx
      unfold fieldM keyAt
      rw [List.find?_cons_of_pos (by simpa using he), List.findIdx?_cons, if_pos (by simpa using he)]
      exact ⟨rfl, rfl⟩
    | succ k =>
      have hy : y.1 ≠ key := h y (by simp)
      obtain ⟨h1, h2⟩ := ih (k := k) (fun z hz => h z (by simp [hz])) (by simpa using hx)
      unfold fieldM keyAt at *
      rw [List.find?_cons_of_neg (by simpa using hy), List.findIdx?_cons, if_neg (by simpa using hy), h2]
      exact ⟨h1, rfl⟩
theorem field_none {f : List (List UInt8 × V)} {key : List UInt8} (h : ∀ y, y ∈ f → y.1 ≠ key) : fieldM f key = none ∧ keyAt f key = none := by
  unfold fieldM keyAt
  rw [List.find?_eq_none.2 (fun y hy => by simpa using h y hy), List.findIdx?_eq_none_iff.2 (fun y hy => by simpa using h y hy)]
  exact ⟨rfl, rfl⟩

theorem fits_run (v : V) (s : Stp) : PRun C0 43 [encV v, encS s] (.bool (fitsM v s)) := by
  refine prun_of ac43 rfl ?_
  rw [encV_eq, encS_of]
  unfold fitsM
  cases s.byIndex <;> (repeat' first | simp (disch := omega) only [go_sem, ac43, enter] | ((apply spl) <;> intro h <;> try simp (disch := omega) only [go_sem, ac43, enter, h]))

theorem fieldV_run {n : Nat} (v : V) (key : List UInt8) (hg : Good n v) (hn : n ≤ 65536) (hv : v.bulk ≤ 2 ^ 24) (h7 : v.s.kind = 7) : PRun C0 61 [encV v, .str key] (.tup [encV ((fieldM v.f key).getD nullV), .bool (fieldM v.f key).isSome]) := by
  have L := V.lens hv
  obtain ⟨hd, ho, hk⟩ := hg
  refine prun_of ac61 rfl ?_
  rw [encV_eq v]
  have hle := encV_eq v
  (repeat' first | simp (disch := omega) only [go_sem, ac61, enter] | ((apply spl) <;> intro h <;> try simp (disch := omega) only [go_sem, ac61, enter, h]))
  refine loop_of (α := Nat) (fun k => { tmps := slots 29 [(1, .str key), (2, .ptr 13 0 0 0), (4, .ptr 13 1 0 0), (9, .tsl 14 (v.f.map encFd)), (10, .int .i64 v.f.length), (11, .int .i64 k)], heap := [.row 13 [encV v] false true 0, .row 13 [zeroS] false true 1], base := 0 }) (fun k => k ≤ v.f.length ∧ ∀ y, y ∈ v.f.take k → y.1 ≠ key) (fun k => v.f.length - k) 0 (by rw [encV_eq]; rfl) (by simp) ?_
  rintro k ⟨hk1, hk2⟩
  rw [encV_eq v]
  by_cases hlt : k < v.f.length
  · obtain ⟨x, hx⟩ := get_some hlt
    have hxm := List.mem_of_getElem? hx
    have hll := L.fields
    have hx2 := map_get (g := encFd) hx
    rw [encFd_eq x] at hx2
    by_cases he : x.1 = key
    · obtain ⟨h1, _⟩ := field_of hk2 hx he
      have hgx := hk x.2 (by unfold V.kids; rw [if_pos h7]; exact List.mem_map_of_mem hxm)
      have hr := copied_run _ x.2 hgx (by have := (L.fkids x hxm).1; omega) 65536 (by omega) (by omega)
      rw [h1]
      have he2 : (x.1 == key) = true := by simpa using he
      simp only [Option.getD_some, Option.isSome_some]
      rw [encV_eq x.2] at hr ⊢
      (repeat' first | simp (disch := omega) only [go_sem, hx2, zeroS, he2] | refine pure_of _ (hr) ?_ | ((apply spl) <;> intro h <;> try simp (disch := omega) only [go_sem, hx2, zeroS, he2 , h]))
    · have he2 : (x.1 == key) = false := by simpa using he
      (repeat' first | simp (disch := omega) only [go_sem, hx2, zeroS, he2] | ((apply spl) <;> intro h <;> try simp (disch := omega) only [go_sem, hx2, zeroS, he2, h]))
      refine ⟨k + 1, rfl, ⟨hlt, fun y hy => ?_⟩, by omega⟩
      rw [List.take_add_one, hx] at hy
      rcases List.mem_append.1 hy with hy | hy
      · exact hk2 y hy
      · have e : y = x := by simpa using hy
        rw [e]
        exact he
  · rw [take_len hlt hk1] at hk2
    rw [(field_none hk2).1]
    simp only [Option.getD_none, Option.isSome_none, nullV_enc]
    (repeat' first | simp (disch := omega) only [go_sem, zeroS] | ((apply spl) <;> intro h <;> try simp (disch := omega) only [go_sem, zeroS, h]))

theorem part_run {n : Nat} (v : V) (s : Stp) (hg : Good n v) (hn : n ≤ 65536) (hv : v.bulk ≤ 2 ^ 24) (hf : fitsM v s = true) : PRun C0 44 [encV v, encS s] (encV (partM v s)) := by
  refine prun_of ac44 rfl ?_
  rw [encS_of]
  unfold fitsM at hf
  cases hb : s.byIndex with
  | true =>
    rw [encV_eq v]
    by_cases h0 : 0 ≤ s.index
    · by_cases h1 : s.index < v.l.length
      · obtain ⟨x, hx⟩ := get_some (s := v.l) (k := s.index.toNat) (by omega)
        have hx2 := map_get (g := encV) hx
        have hp : partM v s = x := by simp [partM, hb, h0, hx]
        rw [hp]
        rw [encV_eq x] at hx2 ⊢
        (repeat' first | simp (disch := omega) only [go_sem, ac44, enter, hx2] | ((apply spl) <;> intro h <;> try simp (disch := omega) only [go_sem, ac44, enter, hx2, h]))
      · have hp : partM v s = nullV := by
          unfold partM
          rw [if_pos hb, if_pos h0, List.getElem?_eq_none (by omega)]
          rfl
        rw [hp, nullV_enc]
        (repeat' first | simp (disch := omega) only [go_sem, ac44, enter] | ((apply spl) <;> intro h <;> try simp (disch := omega) only [go_sem, ac44, enter, h]))
    · have hp : partM v s = nullV := by simp [partM, hb, h0]
      rw [hp, nullV_enc]
      (repeat' first | simp (disch := omega) only [go_sem, ac44, enter] | ((apply spl) <;> intro h <;> try simp (disch := omega) only [go_sem, ac44, enter, h]))
  | false =>
    rw [hb] at hf
    have h7 : v.s.kind = 7 := by simpa using hf
    have hr := fieldV_run v s.key hg hn hv h7
    have hp : partM v s = (fieldM v.f s.key).getD nullV := by simp [partM, hb]
    rw [hp]
    generalize (fieldM v.f s.key).getD nullV = x at hr ⊢
    rw [encV_eq v] at hr ⊢
    rw [encV_eq x] at hr ⊢
    (repeat' first | simp (disch := omega) only [go_sem, ac44, enter] | refine pure_of _ (hr) ?_ | ((apply spl) <;> intro h <;> try simp (disch := omega) only [go_sem, ac44, enter , h]))

theorem field_mem {f : List (List UInt8 × V)} {key : List UInt8} {x : V} (h : fieldM f key = some x) : ∃ y, y ∈ f ∧ y.2 = x := by
  unfold fieldM at h
  rw [Option.map_eq_some_iff] at h
  obtain ⟨y, h1, h2⟩ := h
  exact ⟨y, List.mem_of_find?_eq_some h1, h2⟩

theorem part_good {n : Nat} {v : V} {s : Stp} (hg : Good (n + 1) v) (hv : v.bulk ≤ 2 ^ 24) (hf : fitsM v s = true) : (∃ m, m ≤ n + 1 ∧ Good m (partM v s)) ∧ (partM v s).bulk ≤ 2 ^ 24 := by
  have L := V.lens hv
  have hnull : (∃ m, m ≤ n + 1 ∧ Good m nullV) ∧ nullV.bulk ≤ 2 ^ 24 := ⟨⟨n + 1, Nat.le_refl _, nullV_good n⟩, nullV_bulk⟩
  cases hg with
  | mk hd ho hk =>
    unfold fitsM at hf
    unfold partM
    cases hb : s.byIndex with
    | true =>
      rw [hb] at hf
      have h6 : v.s.kind = 6 := by simpa using hf
      simp only [if_true]
      split
      · cases hx : v.l[s.index.toNat]? with
        | none => exact hnull
        | some x =>
          have hxm := List.mem_of_getElem? hx
          exact ⟨⟨n, by omega, hk x (by unfold V.kids; rw [if_neg (by omega)]; exact hxm)⟩, by have := L.kids x hxm; simp only [Option.getD_some]; omega⟩
      · exact hnull
    | false =>
      rw [hb] at hf
      have h7 : v.s.kind = 7 := by simpa using hf
      simp only [Bool.false_eq_true, if_false]
      cases hx : fieldM v.f s.key with
      | none => exact hnull
      | some x =>
        obtain ⟨y, hy, rfl⟩ := field_mem hx
        exact ⟨⟨n, by omega, hk y.2 (by unfold V.kids; rw [if_pos h7]; exact List.mem_map_of_mem hy)⟩, by have := (L.fkids y hy).1; simp only [Option.getD_some]; omega⟩
end Ago
/- Identical values; valid paths. -/
set_option maxRecDepth 100000
set_option maxHeartbeats 4000000
namespace Ago
open Go (IntKind)
/-- R07.Same of a value and itself. -/
theorem sameRefl_run : ∀ (n : Nat) (v : V), v.bulk ≤ n → n ≤ 2 ^ 24 → PRun C0 29 [encV v, encV v] (.bool true) := by
  intro n
  induction n with
  | zero =>
    intro v hv
    have : 1 ≤ v.bulk := bulk_one _
    omega
  | succ n ih =>
    intro v hv hn
    have L := V.lens (v := v) (N := 2 ^ 24) (by omega)
    have hb := omap_encB v.s.bytes
    refine prun_of ac29 rfl ?_
    rw [encV_eq v]
    (repeat' first | simp (disch := omega) only [go_sem, ac29, enter, hb, bne_self_eq_false] | ((apply spl) <;> intro h <;> try simp (disch := omega) only [go_sem, ac29, enter, hb, bne_self_eq_false, h]))
    refine loop_of (α := Nat) (fun k => { tmps := slots 122 [(2, .ptr 13 0 0 0), (3, .ptr 13 1 0 0), (5, .int .i64 k)], heap := [.row 13 [encV v] false true 0, .row 13 [encV v] false true 1], base := 0 }) (fun k => k ≤ v.l.length) (fun k => v.l.length - k) 0 (by rw [encV_eq]; rfl) (Nat.zero_le _) ?_
    rintro k hk1
    rw [encV_eq v]
    have hll := L.list
    have hlf := L.fields
    by_cases hlt : k < v.l.length
    · obtain ⟨x, hx⟩ := get_some hlt
      have hx2 := map_get (g := encV) hx
      have hr := ih x (by have := L.kids x (List.mem_of_getElem? hx); omega) (by omega)
      rw [encV_eq x] at hx2 hr
      (repeat' first | simp (disch := omega) only [go_sem, hx2] | refine pure_of _ (hr) ?_ | ((apply spl) <;> intro h <;> try simp (disch := omega) only [go_sem, hx2 , h]))
      exact ⟨k + 1, rfl, hlt, by omega⟩
    · (repeat' first | simp (disch := omega) only [go_sem] | ((apply spl) <;> intro h <;> try simp (disch := omega) only [go_sem, h]))
      refine loop_of (α := Nat) (fun k => { tmps := slots 122 [(2, .ptr 13 0 0 0), (3, .ptr 13 1 0 0), (6, .int .i64 k)], heap := [.row 13 [encV v] false true 0, .row 13 [encV v] false true 1], base := 0 }) (fun k => k ≤ v.f.length) (fun k => v.f.length - k) 0 (by rw [encV_eq]; rfl) (Nat.zero_le _) ?_
      clear hk1 hlt
      rintro k hk1
      rw [encV_eq v]
      by_cases hlt : k < v.f.length
      · obtain ⟨x, hx⟩ := get_some hlt
        have hx2 := map_get (g := encFd) hx
        have hr := ih x.2 (by have := (L.fkids x (List.mem_of_getElem? hx)).1; omega) (by omega)
        rw [encFd_eq x] at hx2
        rw [encV_eq] at hr
        have hkk : (x.1 == x.1) = true := by simp
        (repeat' first | simp (disch := omega) only [go_sem, hx2, hkk, bne_self_eq_false] | refine pure_of _ (hr) ?_ | ((apply spl) <;> intro h <;> try simp (disch := omega) only [go_sem, hx2, hkk, bne_self_eq_false , h]))
        exact ⟨k + 1, rfl, hlt, by omega⟩
      · (repeat' first | simp (disch := omega) only [go_sem] | ((apply spl) <;> intro h <;> try simp (disch := omega) only [go_sem, h]))
end Ago
/- Reading at a path: both ways. -/
set_option maxRecDepth 100000
set_option maxHeartbeats 4000000
namespace Ago
open Go (IntKind)
def Fine (v : V) : Prop := (∃ m, m ≤ 100 ∧ Good m v) ∧ v.bulk ≤ 2 ^ 24
theorem nullV_fine : Fine nullV := ⟨⟨1, by omega, nullV_good 0⟩, nullV_bulk⟩
theorem part_fine {v : V} {s : Stp} (h : Fine v) (hf : fitsM v s = true) : Fine (partM v s) := by
  obtain ⟨⟨m, hm, hg⟩, hv⟩ := h
  cases m with
  | zero => cases hg
  | succ m =>
    obtain ⟨⟨m', h1, h2⟩, h3⟩ := part_good hg hv hf
    exact ⟨⟨m', by omega, h2⟩, h3⟩
theorem getM_fine : ∀ (p : List Stp) (v : V), Fine v → Fine (getM v p).1
  | [], v, h => h
  | s :: p, v, h => by
    unfold getM
    split
    · exact getM_fine p v h
    · split
      · exact nullV_fine
      · rename_i hf
        exact getM_fine p _ (part_fine h (by simpa using hf))

theorem getM_null : ∀ (p : List Stp) (v : V), v.s.kind = 0 → getM v p = (v, 0)
  | [], v, _ => rfl
  | s :: p, v, h => by
    unfold getM
    rw [if_pos h]
    exact getM_null p v h

theorem get_run (v : V) (p : List Stp) (hv : Fine v) (hp : p.length < 2 ^ 30) : PRun C0 25 [encV v, .tsl 3 (p.map encS)] (.tup [encV (getM v p).1, .int .i64 (getM v p).2]) := by
  refine prun_of ac25 rfl ?_
  rw [encV_eq v]
  (repeat' first | simp (disch := omega) only [go_sem, ac25, enter] | ((apply spl) <;> intro h <;> try simp (disch := omega) only [go_sem, ac25, enter, h]))
  refine loop_of (α := Nat × V) (fun a => { tmps := slots 29 [(2, .ptr 13 0 0 0), (4, .ptr 13 1 0 0), (8, .tsl 3 (p.map encS)), (9, .int .i64 p.length), (10, .int .i64 a.1)], heap := [.row 13 [encV a.2] false true 0, .row 13 [zeroS] false true 1], base := 0 }) (fun a => a.1 ≤ p.length ∧ getM v p = getM a.2 (p.drop a.1) ∧ Fine a.2) (fun a => p.length - a.1) (0, v) (by rw [encV_eq]; rfl) ⟨Nat.zero_le _, rfl, hv⟩ ?_
  rintro ⟨k, w⟩ ⟨hk, hg, hw⟩
  simp only at hk hg hw
  by_cases hlt : k < p.length
  · obtain ⟨s, hs⟩ := get_some hlt
    have hs2 := map_get (g := encS) hs
    have hd : p.drop k = s :: p.drop (k + 1) := by
      rw [List.drop_eq_getElem_cons hlt]
      congr 1
      rw [List.getElem?_eq_getElem hlt] at hs
      exact Option.some.inj hs
    rw [hd] at hg
    by_cases h0 : w.s.kind = 0
    · have hg2 : getM v p = getM w (p.drop (k + 1)) := by rw [hg, getM, if_pos h0]
      rw [encS_of] at hs2
      rw [encV_eq w]
      (repeat' first | simp (disch := omega) only [go_sem, hs2, zeroS] | ((apply spl) <;> intro h <;> try simp (disch := omega) only [go_sem, hs2, zeroS, h]))
      exact ⟨(k + 1, w), by rw [encV_eq w]; rfl, ⟨hlt, hg2, hw⟩, by simp only; omega⟩
    · have hfr := fits_run w s
      cases hf : fitsM w s with
      | false =>
        have hg2 : getM v p = (nullV, 6) := by rw [hg, getM, if_neg h0, if_pos hf]
        rw [hg2, nullV_enc]
        rw [hf] at hfr
        rw [encS_of] at hs2 hfr
        rw [encV_eq w] at hfr ⊢
        (repeat' first | simp (disch := omega) only [go_sem, hs2, zeroS] | refine pure_of _ (hfr) ?_ | ((apply spl) <;> intro h <;> try simp (disch := omega) only [go_sem, hs2, zeroS , h]))
      | true =>
        have hg2 : getM v p = getM (partM w s) (p.drop (k + 1)) := by rw [hg, getM, if_neg h0, if_neg (by rw [hf]; simp)]
        have hfine := part_fine hw hf
        obtain ⟨⟨m, hm, hgood⟩, hwb⟩ := hw
        have hpr := part_run w s hgood (by omega) hwb hf
        rw [hf] at hfr
        generalize partM w s = x at hg2 hfine hpr
        rw [encS_of] at hs2 hfr hpr
        rw [encV_eq w] at hfr hpr ⊢
        rw [encV_eq x] at hpr
        (repeat' first | simp (disch := omega) only [go_sem, hs2, zeroS] | refine pure_of _ (hfr) ?_ | refine pure_of _ (hpr) ?_ | ((apply spl) <;> intro h <;> try simp (disch := omega) only [go_sem, hs2, zeroS , h]))
        exact ⟨(k + 1, x), by rw [encV_eq x]; rfl, ⟨hlt, hg2, hfine⟩, by simp only; omega⟩
  · have hd : p.drop k = [] := List.drop_eq_nil_of_le (by omega)
    rw [hd] at hg
    rw [hg]
    simp only [getM]
    rw [encV_eq w]
    (repeat' first | simp (disch := omega) only [go_sem, zeroS] | ((apply spl) <;> intro h <;> try simp (disch := omega) only [go_sem, zeroS, h]))

theorem getM_err : ∀ (p : List Stp) (v : V), (getM v p).2 = 0 ∨ getM v p = (nullV, 6)
  | [], v => .inl rfl
  | s :: p, v => by
    unfold getM
    split
    · exact getM_err p v
    · split
      · exact .inr rfl
      · exact getM_err p _

theorem qGet_run (v : V) (p : List Stp) (hv : Fine v) (hp : p.length < 2 ^ 30) : PRun C0 13 [encV v, .tsl 3 (p.map encS)] (.tup [encV (getM v p).1, .int .i64 (getM v p).2]) := by
  have h1 := get_run v p hv hp
  obtain ⟨⟨m, hm, hg⟩, hb⟩ := getM_fine p v hv
  have h2 := copy_run hg (by omega) hb
  refine prun_of ac13 rfl ?_
  rcases getM_err p v with he | he
  · rw [he] at h1 ⊢
    generalize (getM v p).1 = x at h1 h2 ⊢
    rw [encV_eq v] at h1 ⊢
    rw [encV_eq x] at h1 h2 ⊢
    (repeat' first | simp (disch := omega) only [go_sem, ac13, enter] | refine pure_of _ (h1) ?_ | refine pure_of _ (h2) ?_ | ((apply spl) <;> intro h <;> try simp (disch := omega) only [go_sem, ac13, enter , h]))
  · rw [he] at h1 ⊢
    simp only [nullV_enc] at h1
    rw [nullV_enc]
    rw [encV_eq v] at h1 ⊢
    (repeat' first | simp (disch := omega) only [go_sem, ac13, enter] | refine pure_of _ (h1) ?_ | ((apply spl) <;> intro h <;> try simp (disch := omega) only [go_sem, ac13, enter , h]))

/-! ### The reference -/

def findM (v : V) (s : Stp) : Int × Int :=
  if s.byIndex then (if v.s.kind ≠ 6 then (0, 6) else if s.index < 0 ∨ (v.l.length : Int) ≤ s.index then (0, 7) else (s.index, 0))
  else if v.s.kind ≠ 7 then (0, 6) else match keyAt v.f s.key with
    | some i => ((i : Int), 0)
    | none => (0, 7)

theorem find_run (v : V) (s : Stp) (hv : v.bulk ≤ 2 ^ 24) : PRun C0 27 [encV v, encS s] (.tup [.int .i64 (findM v s).1, .int .i64 (findM v s).2]) := by
  have L := V.lens hv
  have hll := L.list
  have hlf := L.fields
  refine prun_of ac27 rfl ?_
  rw [encV_eq v, encS_of]
  cases hb : s.byIndex with
  | true =>
    by_cases h6 : v.s.kind = 6
    · by_cases h0 : s.index < 0
      · have hm : findM v s = (0, 7) := by simp [findM, hb, h6, h0]
        rw [hm]
        (repeat' first | simp (disch := omega) only [go_sem, ac27, enter] | ((apply spl) <;> intro h <;> try simp (disch := omega) only [go_sem, ac27, enter, h]))
      · by_cases h1 : (v.l.length : Int) ≤ s.index
        · have hm : findM v s = (0, 7) := by simp [findM, hb, h6, h1]
          rw [hm]
          (repeat' first | simp (disch := omega) only [go_sem, ac27, enter] | ((apply spl) <;> intro h <;> try simp (disch := omega) only [go_sem, ac27, enter, h]))
        · have hm : findM v s = (s.index, 0) := by simp [findM, hb, h6, h0, h1]
          rw [hm]
          (repeat' first | simp (disch := omega) only [go_sem, ac27, enter] | ((apply spl) <;> intro h <;> try simp (disch := omega) only [go_sem, ac27, enter, h]))
    · have hm : findM v s = (0, 6) := by simp [findM, hb, h6]
      rw [hm]
      (repeat' first | simp (disch := omega) only [go_sem, ac27, enter] | ((apply spl) <;> intro h <;> try simp (disch := omega) only [go_sem, ac27, enter, h]))
  | false =>
    by_cases h7 : v.s.kind = 7
    · (repeat' first | simp (disch := omega) only [go_sem, ac27, enter] | ((apply spl) <;> intro h <;> try simp (disch := omega) only [go_sem, ac27, enter, h]))
      refine loop_of (α := Nat) (fun k => { tmps := slots 45 [(2, .ptr 13 0 0 0), (3, .ptr 3 1 0 0), (6, .int .i64 k)], heap := [.row 13 [encV v] false true 0, .row 3 [encS s] false true 1], base := 0 }) (fun k => k ≤ v.f.length ∧ ∀ y, y ∈ v.f.take k → y.1 ≠ s.key) (fun k => v.f.length - k) 0 (by rw [encV_eq, encS_of, hb]; rfl) (by simp) ?_
      rintro k ⟨hk1, hk2⟩
      rw [encV_eq v, encS_of, hb]
      by_cases hlt : k < v.f.length
      · obtain ⟨x, hx⟩ := get_some hlt
        have hx2 := map_get (g := encFd) hx
        rw [encFd_eq x] at hx2
        by_cases he : x.1 = s.key
        · have hm : findM v s = ((k : Int), 0) := by simp [findM, hb, h7, (field_of hk2 hx he).2]
          have he2 : (x.1 == s.key) = true := by simpa using he
          rw [hm]
          (repeat' first | simp (disch := omega) only [go_sem, hx2, he2] | ((apply spl) <;> intro h <;> try simp (disch := omega) only [go_sem, hx2, he2, h]))
        · have he2 : (x.1 == s.key) = false := by simpa using he
          (repeat' first | simp (disch := omega) only [go_sem, hx2, he2] | ((apply spl) <;> intro h <;> try simp (disch := omega) only [go_sem, hx2, he2, h]))
          refine ⟨k + 1, rfl, ⟨hlt, fun y hy => ?_⟩, by omega⟩
          rw [List.take_add_one, hx] at hy
          rcases List.mem_append.1 hy with hy | hy
          · exact hk2 y hy
          · have e : y = x := by simpa using hy
            rw [e]
            exact he
      · rw [take_len hlt hk1] at hk2
        have hm : findM v s = (0, 7) := by simp [findM, hb, h7, (field_none hk2).2]
        rw [hm]
        (repeat' first | simp (disch := omega) only [go_sem] | ((apply spl) <;> intro h <;> try simp (disch := omega) only [go_sem, h]))
    · have hm : findM v s = (0, 6) := by simp [findM, hb, h7]
      rw [hm]
      (repeat' first | simp (disch := omega) only [go_sem, ac27, enter] | ((apply spl) <;> intro h <;> try simp (disch := omega) only [go_sem, ac27, enter, h]))
end Ago
/- Paths of values. -/
set_option maxRecDepth 100000
set_option maxHeartbeats 4000000
namespace Ago
open Go (IntKind)
theorem stp_eq (x y : Stp) : (x.byIndex == y.byIndex && (x.key == y.key && x.index == y.index)) = decide (x = y) := by
  obtain ⟨a, b, c⟩ := x
  obtain ⟨d, e, f⟩ := y
  by_cases h1 : a = d <;> by_cases h2 : b = e <;> by_cases h3 : c = f <;> simp [h1, h2, h3]
theorem encS_eq (s : Stp) : encS s = .agg [.bool s.byIndex, .str s.key, .int .i64 s.index] := rfl
theorem pathEqual_run (p q : List Stp) (hp : p.length < 2 ^ 30) (hq : q.length < 2 ^ 30) : PRun C0 11 [.tsl 3 (p.map encS), .tsl 3 (q.map encS)] (.bool (decide (p = q))) := by
  refine prun_of ac11 rfl ?_
  by_cases hl : p.length = q.length
  · (repeat' first | simp (disch := omega) only [go_sem, ac11, enter, List.length_map, hl] | ((apply spl) <;> intro h <;> try simp (disch := omega) only [go_sem, ac11, enter, List.length_map, hl, h]))
    refine loop_of (α := Nat) (fun k => { tmps := slots 26 [(0, .tsl 3 (p.map encS)), (1, .tsl 3 (q.map encS)), (5, .int .i64 k)], heap := [], base := 0 }) (fun k => k ≤ p.length ∧ p.take k = q.take k) (fun k => p.length - k) 0 rfl ⟨Nat.zero_le _, rfl⟩ ?_
    rintro k ⟨hk, he⟩
    by_cases hlt : k < p.length
    · obtain ⟨x, hx⟩ := get_some hlt
      obtain ⟨y, hy⟩ := get_some (s := q) (k := k) (by omega)
      have hx2 := map_get (g := encS) hx
      have hy2 := map_get (g := encS) hy
      rw [encS_eq x] at hx2
      rw [encS_eq y] at hy2
      have hxy := stp_eq x y
      by_cases h : x = y
      · subst h
        simp only [decide_true] at hxy
        (repeat' first | simp (disch := omega) only [go_sem, hx2, hy2, List.length_map, hxy] | ((apply spl) <;> intro h <;> try simp (disch := omega) only [go_sem, hx2, hy2, List.length_map, hxy, h]))
        exact ⟨k + 1, rfl, ⟨hlt, by rw [List.take_add_one, List.take_add_one, he, hx, hy]⟩, by omega⟩
      · have hne : ¬ p = q := fun e => h (by rw [e, hy] at hx; exact (Option.some.inj hx).symm)
        simp only [h, decide_false] at hxy
        (repeat' first | simp (disch := omega) only [go_sem, hx2, hy2, List.length_map, hxy] | ((apply spl) <;> intro h <;> try simp (disch := omega) only [go_sem, hx2, hy2, List.length_map, hxy, h]))
        simp [hne]
    · (repeat' first | simp (disch := omega) only [go_sem, List.length_map] | ((apply spl) <;> intro h <;> try simp (disch := omega) only [go_sem, List.length_map, h]))
      rw [take_len hlt hk, take_len (by omega) (by omega)] at he
      simp [he]
  · have hne : ¬ p = q := fun e => hl (by rw [e])
    (repeat' first | simp (disch := omega) only [go_sem, ac11, enter, List.length_map] | ((apply spl) <;> intro h <;> try simp (disch := omega) only [go_sem, ac11, enter, List.length_map, h]))
    simp [hne]
end Ago
/- Layer 7 of the references, continued: how many values there are. -/
set_option maxRecDepth 100000
set_option maxHeartbeats 4000000
namespace Ago
open Go (IntKind)
end Ago
/- THE LAW QpathSteps: for every value it returns true. -/
set_option maxRecDepth 100000
set_option maxHeartbeats 4000000
namespace Ago
open Go (IntKind)
end Ago
/- What the bulk of paths bounds. -/
namespace Ago
def encP (p : List Stp) : AV := .tsl 3 (p.map encS)
def encPs (l : List (List Stp)) : AV := .tsl 1 (l.map encP)
theorem encP_bulk {p : List Stp} {N : Nat} (h : (encP p).bulk ≤ N) : p.length < N ∧ ∀ s, s ∈ p → s.key.length < N := by
  unfold encP at h
  rw [AV.bulk] at h
  have h1 := bulks_len (p.map encS)
  rw [List.length_map] at h1
  refine ⟨by omega, fun s hs => ?_⟩
  have h2 := bulks_mem (List.mem_map_of_mem (f := encS) hs)
  have h3 : (encS s).bulk = s.key.length + 4 := by simp [encS, AV.bulk, AV.bulks]; omega
  omega
theorem encPs_bulk {l : List (List Stp)} {N : Nat} (h : (encPs l).bulk ≤ N) : l.length < N ∧ ∀ p, p ∈ l → (encP p).bulk ≤ N := by
  unfold encPs at h
  rw [AV.bulk] at h
  have h1 := bulks_len (l.map encP)
  rw [List.length_map] at h1
  refine ⟨by omega, fun p hp => ?_⟩
  have h2 := bulks_mem (List.mem_map_of_mem (f := encP) hp)
  omega
end Ago
/- THE LAW QpathGets. -/
set_option maxRecDepth 100000
set_option maxHeartbeats 4000000
namespace Ago
open Go (IntKind)
theorem refPartL_run (v x : V) (k : Nat) (h6 : v.s.kind = 6) (hx : v.l[k]? = some x) : PRun C0 28 [encV v, .int .i64 k] (encV x) := by
  have hx2 := map_get (g := encV) hx
  refine prun_of ac28 rfl ?_
  rw [encV_eq x] at hx2 ⊢
  rw [encV_eq v]
  (repeat' first | simp (disch := omega) only [go_sem, ac28, enter, hx2] | ((apply spl) <;> intro h <;> try simp (disch := omega) only [go_sem, ac28, enter, hx2, h]))
theorem refPartF_run (v : V) (x : List UInt8 × V) (k : Nat) (h7 : v.s.kind = 7) (hx : v.f[k]? = some x) : PRun C0 28 [encV v, .int .i64 k] (encV x.2) := by
  have hx2 := map_get (g := encFd) hx
  refine prun_of ac28 rfl ?_
  rw [encFd_eq x] at hx2
  rw [encV_eq x.2, encV_eq v]
  (repeat' first | simp (disch := omega) only [go_sem, ac28, enter, hx2] | ((apply spl) <;> intro h <;> try simp (disch := omega) only [go_sem, ac28, enter, hx2, h]))

theorem keyAt_some {f : List (List UInt8 × V)} {key : List UInt8} {i : Nat} (h : keyAt f key = some i) : ∃ x, f[i]? = some x ∧ fieldM f key = some x.2 := by
  obtain ⟨hlt, h1, h2⟩ := List.findIdx?_eq_some_iff_getElem.1 h
  have hx : f[i]? = some f[i] := List.getElem?_eq_getElem hlt
  refine ⟨f[i], hx, (field_of (k := i) (fun y hy => ?_) hx (by simpa using h1)).1⟩
  obtain ⟨j, hj, e⟩ := List.mem_iff_getElem.1 hy
  rw [List.getElem_take] at e
  have hji : j < i := by simp at hj; omega
  have := h2 j hji
  rw [e] at this
  simpa using this

theorem find_fits {v : V} {s : Stp} : (fitsM v s = false → findM v s = (0, 6)) ∧ (fitsM v s = true → (findM v s = (0, 7) ∧ partM v s = nullV) ∨ ∃ i : Nat, findM v s = ((i : Int), 0) ∧ PRun C0 28 [encV v, .int .i64 i] (encV (partM v s))) := by
  cases hb : s.byIndex with
  | true =>
    by_cases h6 : v.s.kind = 6
    · refine ⟨by simp [fitsM, hb, h6], fun _ => ?_⟩
      by_cases h0 : s.index < 0
      · have : ¬ 0 ≤ s.index := by omega
        exact .inl ⟨by simp [findM, hb, h6, h0], by simp [partM, hb, this]⟩
      · by_cases h1 : (v.l.length : Int) ≤ s.index
        · refine .inl ⟨by simp [findM, hb, h6, h1], ?_⟩
          unfold partM
          rw [if_pos hb, if_pos (by omega), List.getElem?_eq_none (by omega)]
          rfl
        · obtain ⟨x, hx⟩ := get_some (s := v.l) (k := s.index.toNat) (by omega)
          refine .inr ⟨s.index.toNat, ?_, ?_⟩
          · have : findM v s = (s.index, 0) := by simp [findM, hb, h6, h0, h1]
            rw [this]
            congr 1
            omega
          · have : partM v s = x := by
              unfold partM
              rw [if_pos hb, if_pos (by omega), hx]
              rfl
            rw [this]
            exact refPartL_run v x _ h6 hx
    · exact ⟨fun _ => by simp [findM, hb, h6], fun h => by simp [fitsM, hb, h6] at h⟩
  | false =>
    by_cases h7 : v.s.kind = 7
    · refine ⟨by simp [fitsM, hb, h7], fun _ => ?_⟩
      cases hk : keyAt v.f s.key with
      | none =>
        refine .inl ⟨by simp [findM, hb, h7, hk], ?_⟩
        have hn : fieldM v.f s.key = none := (field_none fun y hy => by simpa using List.findIdx?_eq_none_iff.1 hk y hy).1
        simp [partM, hb, hn]
      | some i =>
        obtain ⟨x, h1, h2⟩ := keyAt_some hk
        refine .inr ⟨i, by simp [findM, hb, h7, hk], ?_⟩
        have : partM v s = x.2 := by simp [partM, hb, h2]
        rw [this]
        exact refPartF_run v x i h7 h1
    · exact ⟨fun _ => by simp [findM, hb, h7], fun h => by simp [fitsM, hb, h7] at h⟩

theorem refGet_run (v : V) (p : List Stp) (hv : Fine v) (hp : p.length < 2 ^ 30) : PRun C0 14 [encV v, .tsl 3 (p.map encS)] (.tup [encV (getM v p).1, .int .i64 (getM v p).2]) := by
  refine prun_of ac14 rfl ?_
  rw [encV_eq v]
  (repeat' first | simp (disch := omega) only [go_sem, ac14, enter] | ((apply spl) <;> intro h <;> try simp (disch := omega) only [go_sem, ac14, enter, h]))
  refine loop_of (α := Nat × V × AV) (fun a => { tmps := slots 38 [(1, .tsl 3 (p.map encS)), (2, .ptr 13 0 0 0), (4, .ptr 13 1 0 0), (6, .int .i64 a.1)], heap := [.row 13 [a.2.2] false true 0, .row 13 [zeroS] false true 1], base := 0 }) (fun a => a.1 ≤ p.length ∧ getM v p = getM a.2.1 (p.drop a.1) ∧ Fine a.2.1 ∧ (a.2.2 = encV a.2.1 ∨ (a.2.2 = zeroS ∧ a.2.1 = nullV))) (fun a => p.length - a.1) (0, v, encV v) (by rw [encV_eq]; rfl) ⟨Nat.zero_le _, rfl, hv, .inl rfl⟩ ?_
  rintro ⟨k, w, z⟩ ⟨hk, hg, hw, hz⟩
  simp only at hk hg hw hz
  by_cases hlt : k < p.length
  · obtain ⟨s, hs⟩ := get_some hlt
    have hs2 := map_get (g := encS) hs
    have hd : p.drop k = s :: p.drop (k + 1) := by
      rw [List.drop_eq_getElem_cons hlt]
      congr 1
      rw [List.getElem?_eq_getElem hlt] at hs
      exact Option.some.inj hs
    rw [hd] at hg
    by_cases h0 : w.s.kind = 0
    · have hg2 : getM v p = getM w (p.drop (k + 1)) := by rw [hg, getM, if_pos h0]
      rw [encS_of] at hs2
      rcases hz with hz | ⟨hz, hz2⟩
      · rw [hz, encV_eq w]
        (repeat' first | simp (disch := omega) only [go_sem, hs2, zeroS] | ((apply spl) <;> intro h <;> try simp (disch := omega) only [go_sem, hs2, zeroS, h]))
        exact ⟨(k + 1, w, encV w), by rw [encV_eq w]; rfl, ⟨hlt, hg2, hw, .inl rfl⟩, by simp only; omega⟩
      · rw [hz]
        (repeat' first | simp (disch := omega) only [go_sem, hs2, zeroS] | ((apply spl) <;> intro h <;> try simp (disch := omega) only [go_sem, hs2, zeroS, h]))
        exact ⟨(k + 1, w, zeroS), rfl, ⟨hlt, hg2, hw, .inr ⟨rfl, hz2⟩⟩, by simp only; omega⟩
    · have hze : z = encV w := by
        rcases hz with hz | ⟨_, hz⟩
        · exact hz
        · rw [hz] at h0; exact (h0 rfl).elim
      rw [hze]
      have hfr := find_run w s hw.2
      obtain ⟨hf1, hf2⟩ := find_fits (v := w) (s := s)
      cases hf : fitsM w s with
      | false =>
        have hg2 : getM v p = (nullV, 6) := by rw [hg, getM, if_neg h0, if_pos hf]
        rw [hg2, nullV_enc]
        rw [hf1 hf] at hfr
        rw [encS_of] at hs2 hfr
        rw [encV_eq w] at hfr ⊢
        (repeat' first | simp (disch := omega) only [go_sem, hs2, zeroS] | refine pure_of _ (hfr) ?_ | ((apply spl) <;> intro h <;> try simp (disch := omega) only [go_sem, hs2, zeroS , h]))
      | true =>
        have hg2 : getM v p = getM (partM w s) (p.drop (k + 1)) := by rw [hg, getM, if_neg h0, if_neg (by rw [hf]; simp)]
        have hfine := part_fine hw hf
        rcases hf2 hf with ⟨h1, h2⟩ | ⟨i, h1, h2⟩
        · rw [h1] at hfr
          rw [h2] at hg2
          rw [encS_of] at hs2 hfr
          rw [encV_eq w] at hfr ⊢
          (repeat' first | simp (disch := omega) only [go_sem, hs2, zeroS] | refine pure_of _ (hfr) ?_ | ((apply spl) <;> intro h <;> try simp (disch := omega) only [go_sem, hs2, zeroS , h]))
          exact ⟨(k + 1, nullV, zeroS), rfl, ⟨hlt, hg2, nullV_fine, .inr ⟨rfl, rfl⟩⟩, by simp only; omega⟩
        · rw [h1] at hfr
          generalize partM w s = x at hg2 hfine h2
          rw [encS_of] at hs2 hfr
          rw [encV_eq w] at hfr h2 ⊢
          rw [encV_eq x] at h2
          (repeat' first | simp (disch := omega) only [go_sem, hs2, zeroS] | refine pure_of _ (hfr) ?_ | refine pure_of _ (h2) ?_ | ((apply spl) <;> intro h <;> try simp (disch := omega) only [go_sem, hs2, zeroS , h]))
          exact ⟨(k + 1, x, encV x), by rw [encV_eq x]; rfl, ⟨hlt, hg2, hfine, .inl rfl⟩, by simp only; omega⟩
  · have hd : p.drop k = [] := List.drop_eq_nil_of_le (by omega)
    rw [hd] at hg
    rw [hg]
    simp only [getM]
    rcases hz with hz | ⟨hz, hz2⟩
    · rw [hz, encV_eq w]
      (repeat' first | simp (disch := omega) only [go_sem, zeroS] | ((apply spl) <;> intro h <;> try simp (disch := omega) only [go_sem, zeroS, h]))
    · rw [hz, hz2, nullV_enc]
      (repeat' first | simp (disch := omega) only [go_sem, zeroS] | ((apply spl) <;> intro h <;> try simp (disch := omega) only [go_sem, zeroS, h]))

theorem alike_run (v : V) (e : Int) (hv : v.bulk ≤ 2 ^ 24) : PRun C0 15 [encV v, .int .i64 e, encV v, .int .i64 e] (.bool true) := by
  have h := sameRefl_run _ v (Nat.le_refl _) hv
  refine prun_of ac15 rfl ?_
  rw [encV_eq v] at h ⊢
  (repeat' first | simp (disch := omega) only [go_sem, ac15, enter] | refine pure_of _ (h) ?_ | ((apply spl) <;> intro h <;> try simp (disch := omega) only [go_sem, ac15, enter , h]))

end Ago
