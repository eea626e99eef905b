/- R09.Replace and More. -/
import Derived.Test.YtglnglflcoeinaaRunD
import Derived.Test.YtglnglflcoeinaaRunE
import Derived.Test.YtglnglflcoeinaaRunF
set_option linter.unusedSimpArgs false
set_option linter.unusedVariables false
set_option maxRecDepth 100000
set_option maxHeartbeats 4000000
namespace Ago
open Go (IntKind)
/-- A list, or a map, and nothing else. -/
def listV (l : List V) : V := .mk ⟨6, false, ⟨false, [], 0⟩, ⟨0, 0, 0, 0⟩, [], []⟩ l []
def mapV (f : List (List UInt8 × V)) : V := .mk ⟨7, false, ⟨false, [], 0⟩, ⟨0, 0, 0, 0⟩, [], []⟩ [] f
theorem listV_enc (l : List V) : encV (listV l) = .agg [.int .i64 6, .bool false, .bool false, .str [], .int .i64 0, .int .i64 0, .int .i64 0, .int .i64 0, .int .i64 0, .str [], .tsl 1 [], .tsl 13 (l.map encV), .tsl 14 []] := by
  rw [encV_eq]
  rfl
theorem mapV_enc (f : List (List UInt8 × V)) : encV (mapV f) = .agg [.int .i64 7, .bool false, .bool false, .str [], .int .i64 0, .int .i64 0, .int .i64 0, .int .i64 0, .int .i64 0, .str [], .tsl 1 [], .tsl 13 [], .tsl 14 (f.map encFd)] := by
  rw [encV_eq]
  rfl
def outS (k : Int) (x y : AV) : AV := .agg [.int .i64 k, .bool false, .bool false, .str [], .int .i64 0, .int .i64 0, .int .i64 0, .int .i64 0, .int .i64 0, .str [], .snil 1, x, y]
/-- A box with a list that grows. -/
def boxL (b : Nat) : List AV → Heap
  | [] => [.row 13 [outS 6 (.snil 13) (.snil 14)] false true b]
  | x :: l => [.row 13 [outS 6 (.sref 13 (b + 1) 0 (l.length + 1)) (.snil 14)] false false b, .row 13 (x :: l) false true (b + 1)]
def boxF (b : Nat) : List AV → Heap
  | [] => [.row 13 [outS 7 (.snil 13) (.snil 14)] false true b]
  | x :: l => [.row 13 [outS 7 (.snil 13) (.sref 14 (b + 1) 0 (l.length + 1))] false false b, .row 14 (x :: l) false true (b + 1)]
end Ago
/- Strongly valid values; what put makes. -/
set_option maxRecDepth 100000
set_option maxHeartbeats 4000000
namespace Ago
open Go (IntKind)
/-- A valid value of so much depth. -/
inductive Gd : Nat → V → Prop where
  | mk {n : Nat} {v : V} (h : oneM v = 0) (hk : ∀ x, x ∈ v.kids → Gd n x) : Gd (n + 1) v
theorem one_zero {v : V} (h : oneM v = 0) : ownM v = true ∧ decOk v.s.num = true ∧ (v.s.kind = 3 → tmOk v.s.time = true) ∧ utf v.s.text = true ∧ v.s.text.length ≤ 65536 ∧ v.s.bytes.length ≤ 65536 ∧ keysM (v.f.map (·.1)) = 0 := by
  unfold oneM at h
  split at h
  · cases h
  · rename_i h1
    split at h
    · cases h
    · rename_i h2
      split at h
      · cases h
      · rename_i h3
        split at h
        · cases h
        · rename_i h4
          rw [not_or] at h2 h4
          refine ⟨by simpa using h1, by simpa using h2.1, fun hk => ?_, by simpa using h3, by omega, by omega, h⟩
          cases ht : tmOk v.s.time with
          | true => rfl
          | false => exact (h2.2 ⟨hk, ht⟩).elim
theorem own_ok {v : V} (h : ownM v = true) : OwnOk v := by
  unfold ownM at h
  simp only [Bool.and_eq_true, Bool.or_eq_true, beq_iff_eq, decide_eq_true_eq] at h
  exact ⟨by omega, by omega⟩
theorem Gd.good {n : Nat} {v : V} (h : Gd n v) : Good n v := by
  induction h with
  | mk h _ ih => exact .mk (one_zero h).2.1 (own_ok (one_zero h).1) ih
theorem Gd.mono {n : Nat} {v : V} (h : Gd n v) : ∀ {m : Nat}, n ≤ m → Gd m v := by
  induction h with
  | mk h _ ih =>
    intro m hm
    obtain ⟨m, rfl⟩ : ∃ k, m = k + 1 := ⟨m - 1, by omega⟩
    exact .mk h fun x hx => ih x hx (by omega)
theorem seqL_zero {F : V → Int → Int × Int} : ∀ (l : List V) (s : Int), (seqL F l s).2 = 0 → ∀ x, x ∈ l → ∃ s', (F x s').2 = 0
  | [], _, _, x, hx => by cases hx
  | y :: l, s, h, x, hx => by
    rw [seqL_step] at h
    split at h
    · rename_i h1
      rcases List.mem_cons.1 hx with rfl | hx
      · exact ⟨s, h1⟩
      · exact seqL_zero l _ h x hx
    · rename_i h1
      exact (h1 h).elim
theorem look_gd : ∀ (k : Nat) (v : V) (d s : Int), 0 ≤ d → (lookM k v d s).2 = 0 → Gd (49 - d).toNat v
  | 0, v, d, s, _, h => by simp [lookM] at h
  | k + 1, v, d, s, hd, h => by
    unfold lookM at h
    split at h
    · cases h
    · split at h
      · cases h
      · split at h
        · rename_i h3
          exact (h3 h).elim
        · rename_i h1 _ h3
          have hk := seqL_zero _ _ h
          rw [show (49 - d).toNat = (49 - (d + 1)).toNat + 1 by omega]
          refine .mk (Classical.not_not.1 h3) fun x hx => ?_
          obtain ⟨s', hs'⟩ := hk x hx
          exact look_gd k x (d + 1) s' (by omega) hs'
theorem check_gd {v : V} (h : checkM v = 0) : Gd 48 v := look_gd 49 v 1 0 (by omega) h

/-! ### The shapes of valid values -/

theorem own_shape {v : V} (h : ownM v = true) : (v.s.kind = 0 → v = nullV) ∧ (v.s.kind = 6 → v = listV v.l) ∧ (v.s.kind = 7 → v = mapV v.f) := by
  unfold ownM numZ tmZ at h
  obtain ⟨⟨k, b, ⟨ng, dg, ex⟩, ⟨tk, td, tn, tf⟩, tx, by_⟩, l, f⟩ := v
  simp only [V.s, V.l, V.f, Bool.and_eq_true, Bool.or_eq_true, beq_iff_eq, decide_eq_true_eq] at h ⊢
  refine ⟨fun hk => ?_, fun hk => ?_, fun hk => ?_⟩
  all_goals subst hk
  all_goals simp at h
  all_goals simp [nullV, listV, mapV, h]
theorem Gd.own {n : Nat} {v : V} (h : Gd n v) : ownM v = true := by
  cases h with
  | mk h _ => exact (one_zero h).1
theorem Gd.kids {n : Nat} {v : V} (h : Gd (n + 1) v) : ∀ x, x ∈ v.kids → Gd n x := by
  cases h with
  | mk _ hk => exact hk
theorem nullV_gd (n : Nat) : Gd (n + 1) nullV := .mk (by decide) fun x hx => by simp [V.kids, nullV, V.s, V.l] at hx
theorem listV_one (l : List V) : oneM (listV l) = 0 := by
  have h : ownM (listV l) = true := by simp [ownM, listV, V.s, V.l, V.f, numZ, tmZ]
  rw [one_own h]
  unfold oneI
  simp [listV, V.s, V.f, keysM, keysGo]
theorem mapV_one (f : List (List UInt8 × V)) : oneM (mapV f) = keysM (f.map (·.1)) := by
  have h : ownM (mapV f) = true := by simp [ownM, mapV, V.s, V.l, V.f, numZ, tmZ]
  rw [one_own h]
  unfold oneI
  simp [mapV, V.s, V.f]
theorem listV_kids (l : List V) : (listV l).kids = l := by simp [V.kids, listV, V.s, V.l]
theorem mapV_kids (f : List (List UInt8 × V)) : (mapV f).kids = f.map (·.2) := by simp [V.kids, mapV, V.s, V.f]
end Ago
/- Where a key stands among the fields: slices.IndexFunc. -/
set_option maxRecDepth 100000
set_option maxHeartbeats 4000000
set_option pp.maxSteps 200000
namespace Ago
open Go (IntKind)
end Ago
/- qpath.put. -/
set_option maxRecDepth 100000
set_option maxHeartbeats 4000000
namespace Ago
open Go (IntKind)
theorem part_gd {n : Nat} {v : V} {s : Stp} (hg : Gd (n + 1) v) (hv : v.bulk ≤ 2 ^ 24) (hf : fitsM v s = true) : (∃ m, m ≤ n + 1 ∧ Gd m (partM v s)) ∧ (partM v s).bulk ≤ max v.bulk nullV.bulk := by
  have L := V.lens hv
  have hnull : (∃ m, m ≤ n + 1 ∧ Gd m nullV) ∧ nullV.bulk ≤ max v.bulk nullV.bulk := ⟨⟨n + 1, Nat.le_refl _, nullV_gd n⟩, Nat.le_max_right _ _⟩
  have hk := hg.kids
  unfold fitsM at hf
  unfold partM
  cases hb : s.byIndex with
  | true =>
    rw [hb] at hf
    have h6 : v.s.kind = 6 := by simpa using hf
    simp only [if_true]
    split
    · cases hx : v.l[s.index.toNat]? with
      | none => exact hnull
      | some x =>
        have hxm := List.mem_of_getElem? hx
        exact ⟨⟨n, by omega, hk x (by unfold V.kids; rw [if_neg (by omega)]; exact hxm)⟩, by have := L.kids x hxm; simp only [Option.getD_some]; omega⟩
    · exact hnull
  | false =>
    rw [hb] at hf
    have h7 : v.s.kind = 7 := by simpa using hf
    simp only [Bool.false_eq_true, if_false]
    cases hx : fieldM v.f s.key with
    | none => exact hnull
    | some x =>
      obtain ⟨y, hy, rfl⟩ := field_mem hx
      exact ⟨⟨n, by omega, hk y.2 (by unfold V.kids; rw [if_pos h7]; exact List.mem_map_of_mem hy)⟩, by have := (L.fkids y hy).1; simp only [Option.getD_some]; omega⟩
theorem small_bulk : nullV.bulk ≤ 100 ∧ (listV []).bulk ≤ 100 ∧ (mapV []).bulk ≤ 100 := by
  refine ⟨?_, ?_, ?_⟩
  · unfold V.bulk; rw [nullV_enc]; decide
  · unfold V.bulk; rw [listV_enc]; decide
  · unfold V.bulk; rw [mapV_enc]; decide
theorem part_sub {n : Nat} {w : V} {s : Stp} (hn : n ≤ 48) (hg : Gd n w) (hv : w.bulk ≤ 2 ^ 24) (hf : fitsM w s = true) : (∃ n, n ≤ 48 ∧ Gd n (partM w s)) ∧ (partM w s).bulk ≤ 2 ^ 24 := by
  cases n with
  | zero => cases hg
  | succ n =>
    obtain ⟨⟨m, h1, h2⟩, h3⟩ := part_gd hg hv hf
    exact ⟨⟨m, by omega, h2⟩, by have := small_bulk.1; omega⟩
theorem keyAt_get {f : List (List UInt8 × V)} {key : List UInt8} {i : Nat} (h : keyAt f key = some i) : ∃ z, f[i]? = some z ∧ z.1 = key := by
  obtain ⟨hlt, h1, h2⟩ := List.findIdx?_eq_some_iff_getElem.1 h
  exact ⟨f[i], List.getElem?_eq_getElem hlt, by simpa using h1⟩
end Ago
