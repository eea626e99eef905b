/- R09.Replace and More. -/
import Derived.Test.YtglnglflcoeinaaGreatDoorRunD
import Derived.Test.YtglnglflcoeinaaGreatDoorRunE
import Derived.Test.YtglnglflcoeinaaGreatDoorRunF
set_option linter.unusedSimpArgs false
set_option linter.unusedVariables false
set_option maxRecDepth 100000
set_option maxHeartbeats 4000000
namespace Ago
open Go (IntKind)
/-- A list, or a map, and nothing else. -/
def listV (l : List V) : V := .mk ⟨6, false, ⟨false, [], 0⟩, ⟨0, 0, 0, 0⟩, [], []⟩ l []
def mapV (f : List (List UInt8 × V)) : V := .mk ⟨7, false, ⟨false, [], 0⟩, ⟨0, 0, 0, 0⟩, [], []⟩ [] f
theorem listV_enc (l : List V) : encV (listV l) = .agg [.int .i64 6, .bool false, .bool false, .str [], .int .i64 0, .int .i64 0, .int .i64 0, .int .i64 0, .int .i64 0, .str [], .tsl 1 [], .tsl 13 (l.map encV), .tsl 14 []] := by
  rw [encV_eq]
  rfl
theorem mapV_enc (f : List (List UInt8 × V)) : encV (mapV f) = .agg [.int .i64 7, .bool false, .bool false, .str [], .int .i64 0, .int .i64 0, .int .i64 0, .int .i64 0, .int .i64 0, .str [], .tsl 1 [], .tsl 13 [], .tsl 14 (f.map encFd)] := by
  rw [encV_eq]
  rfl
def outS (k : Int) (x y : AV) : AV := .agg [.int .i64 k, .bool false, .bool false, .str [], .int .i64 0, .int .i64 0, .int .i64 0, .int .i64 0, .int .i64 0, .str [], .snil 1, x, y]
/-- A box with a list that grows. -/
def boxL (b : Nat) : List AV → Heap
  | [] => [.row 13 [outS 6 (.snil 13) (.snil 14)] false true b]
  | x :: l => [.row 13 [outS 6 (.sref 13 (b + 1) 0 (l.length + 1)) (.snil 14)] false false b, .row 13 (x :: l) false true (b + 1)]
def boxF (b : Nat) : List AV → Heap
  | [] => [.row 13 [outS 7 (.snil 13) (.snil 14)] false true b]
  | x :: l => [.row 13 [outS 7 (.snil 13) (.sref 14 (b + 1) 0 (l.length + 1))] false false b, .row 14 (x :: l) false true (b + 1)]
theorem set_take {α : Type} {l : List α} {i k : Nat} {x y : α} (h : l[k]? = some y) : (l.set i x).take (k + 1) = (l.set i x).take k ++ [if k = i then x else y] := by
  have hk : k < l.length := (List.getElem?_eq_some_iff.1 h).1
  rw [List.take_add_one]
  congr 1
  rw [List.getElem?_set]
  by_cases e : i = k
  · subst e
    rw [if_pos rfl, if_pos hk, if_pos rfl]
    rfl
  · rw [if_neg e, h, if_neg (Ne.symm e)]
    rfl
theorem replL_run (l : List V) (i : Nat) (x : V) (hl : (listV l).bulk ≤ 2 ^ 24) (hi : i < l.length) : PRun C0 134 [encV (listV l), .int .i64 i, encV x] (encV (listV (l.set i x))) := by
  have L := V.lens hl
  have hll : l.length < 2 ^ 24 := L.list
  refine prun_of ac134 rfl ?_
  have hle := listV_enc l
  have hlx := encV_eq x
  rw [listV_enc, listV_enc, encV_eq x]
  (repeat' first | simp (disch := omega) only [go_sem, ac134, enter] | ((apply spl) <;> intro h <;> try simp (disch := omega) only [go_sem, ac134, enter, h]))
  refine loop_of (α := Nat × List AV) (fun a => { tmps := slots 61 [(1, .int .i64 i), (3, .ptr 13 0 0 0), (5, .ptr 13 1 0 0), (6, .ptr 13 2 0 0), (7, .ptr 13 3 0 0), (8, .int .i64 a.1)], heap := [.row 13 [encV (listV l)] false true 0, .row 13 [encV x] false true 1, .row 13 [zeroS] false true 2] ++ boxL 3 a.2, base := 0 })
    (fun a => a.1 ≤ l.length ∧ a.2 = ((l.set i x).take a.1).map encV) (fun a => l.length - a.1) (0, []) (by rw [hle, hlx]; rfl) (by simp) ?_
  rintro ⟨k, els⟩ ⟨hk, hels⟩
  simp only at hk hels
  rw [hle, hlx]
  by_cases hlt : k < l.length
  · obtain ⟨y, hy⟩ := get_some hlt
    have hy2 := map_get (g := encV) hy
    have hnew : els ++ [encV (if k = i then x else y)] = ((l.set i x).take (k + 1)).map encV := by rw [hels, set_take hy]; simp
    have hlen : els.length = k := by rw [hels]; simp; omega
    rw [encV_eq y] at hy2
    by_cases he : k = i
    · rw [if_pos he, hlx] at hnew
      cases els with
      | nil =>
        (repeat' first | simp (disch := omega) only [go_sem, hy2, outS, boxL, zeroS] | ((apply spl) <;> intro h <;> try simp (disch := omega) only [go_sem, hy2, outS, boxL, zeroS, h]))
        refine ⟨(k + 1, ((l.set i x).take (k + 1)).map encV), ?_, ⟨hlt, rfl⟩, by simp only; omega⟩
        simp only [← hnew, hle, hlx]
        rfl
      | cons z els =>
        simp only [List.length_cons] at hlen
        (repeat' first | simp (disch := omega) only [go_sem, hy2, outS, boxL, zeroS] | ((apply spl) <;> intro h <;> try simp (disch := omega) only [go_sem, hy2, outS, boxL, zeroS, h]))
        refine ⟨(k + 1, ((l.set i x).take (k + 1)).map encV), ?_, ⟨hlt, rfl⟩, by simp only; omega⟩
        simp only [← hnew, hle, hlx, List.cons_append, boxL, outS, List.length_append, List.length_cons, List.length_nil]
        rfl
    · rw [if_neg he, encV_eq y] at hnew
      cases els with
      | nil =>
        (repeat' first | simp (disch := omega) only [go_sem, hy2, outS, boxL, zeroS] | ((apply spl) <;> intro h <;> try simp (disch := omega) only [go_sem, hy2, outS, boxL, zeroS, h]))
        refine ⟨(k + 1, ((l.set i x).take (k + 1)).map encV), ?_, ⟨hlt, rfl⟩, by simp only; omega⟩
        simp only [← hnew, hle, hlx]
        rfl
      | cons z els =>
        simp only [List.length_cons] at hlen
        (repeat' first | simp (disch := omega) only [go_sem, hy2, outS, boxL, zeroS] | ((apply spl) <;> intro h <;> try simp (disch := omega) only [go_sem, hy2, outS, boxL, zeroS, h]))
        refine ⟨(k + 1, ((l.set i x).take (k + 1)).map encV), ?_, ⟨hlt, rfl⟩, by simp only; omega⟩
        simp only [← hnew, hle, hlx, List.cons_append, boxL, outS, List.length_append, List.length_cons, List.length_nil]
        rfl
  · rw [List.take_of_length_le (by simp; omega)] at hels
    rw [← hels]
    cases els with
    | nil =>
      have h0 : (l.set i x).length = 0 := by
        have := congrArg List.length hels
        simpa using this.symm
      simp at h0
      subst h0
      simp at hi
    | cons z els =>
      (repeat' first | simp (disch := omega) only [go_sem, outS, boxL, zeroS] | ((apply spl) <;> intro h <;> try simp (disch := omega) only [go_sem, outS, boxL, zeroS, h]))
      refine loop_of (α := Unit) (fun _ => { tmps := slots 61 [(1, .int .i64 i), (3, .ptr 13 0 0 0), (5, .ptr 13 1 0 0), (6, .ptr 13 2 0 0), (7, .ptr 13 3 0 0), (10, .int .i64 0)], heap := [.row 13 [encV (listV l)] false true 0, .row 13 [encV x] false true 1, .row 13 [zeroS] false true 2] ++ boxL 3 (z :: els), base := 0 }) (fun _ => True) (fun _ => 0) () (by rw [hle, hlx]; rfl) trivial ?_
      rintro _ _
      rw [hle, hlx]
      (repeat' first | simp (disch := omega) only [go_sem, outS, boxL, zeroS, List.take_length] | ((apply spl) <;> intro h <;> try simp (disch := omega) only [go_sem, outS, boxL, zeroS, List.take_length, h]))
theorem replF_run (f : List (List UInt8 × V)) (i : Nat) (x : V) (y0 : List UInt8 × V) (hl : (mapV f).bulk ≤ 2 ^ 24) (hi : f[i]? = some y0) : PRun C0 134 [encV (mapV f), .int .i64 i, encV x] (encV (mapV (f.set i (y0.1, x)))) := by
  have L := V.lens hl
  have hll : f.length < 2 ^ 24 := L.fields
  refine prun_of ac134 rfl ?_
  have hle := mapV_enc f
  have hlx := encV_eq x
  rw [mapV_enc, mapV_enc, encV_eq x]
  (repeat' first | simp (disch := omega) only [go_sem, ac134, enter] | ((apply spl) <;> intro h <;> try simp (disch := omega) only [go_sem, ac134, enter, h]))
  refine loop_of (α := Unit) (fun _ => { tmps := slots 61 [(1, .int .i64 i), (3, .ptr 13 0 0 0), (5, .ptr 13 1 0 0), (6, .ptr 13 2 0 0), (7, .ptr 13 3 0 0), (8, .int .i64 0)], heap := [.row 13 [encV (mapV f)] false true 0, .row 13 [encV x] false true 1, .row 13 [zeroS] false true 2] ++ boxF 3 [], base := 0 }) (fun _ => True) (fun _ => 0) () (by rw [hle, hlx]; rfl) trivial ?_
  rintro _ _
  rw [hle, hlx]
  (repeat' first | simp (disch := omega) only [go_sem, outS, boxF, zeroS] | ((apply spl) <;> intro h <;> try simp (disch := omega) only [go_sem, outS, boxF, zeroS, h]))
  refine loop_of (α := Nat × List AV) (fun a => { tmps := slots 61 [(1, .int .i64 i), (3, .ptr 13 0 0 0), (5, .ptr 13 1 0 0), (6, .ptr 13 2 0 0), (7, .ptr 13 3 0 0), (10, .int .i64 a.1)], heap := [.row 13 [encV (mapV f)] false true 0, .row 13 [encV x] false true 1, .row 13 [zeroS] false true 2] ++ boxF 3 a.2, base := 0 })
    (fun a => a.1 ≤ f.length ∧ a.2 = ((f.set i (y0.1, x)).take a.1).map encFd) (fun a => f.length - a.1) (0, []) (by rw [hle, hlx]; rfl) (by simp) ?_
  rintro ⟨k, els⟩ ⟨hk, hels⟩
  simp only at hk hels
  rw [hle, hlx]
  by_cases hlt : k < f.length
  · obtain ⟨y, hy⟩ := get_some hlt
    have hy2 := map_get (g := encFd) hy
    have hnew : els ++ [encFd (if k = i then (y0.1, x) else y)] = ((f.set i (y0.1, x)).take (k + 1)).map encFd := by rw [hels, set_take hy]; simp
    have hlen : els.length = k := by rw [hels]; simp; omega
    rw [encFd_eq y] at hy2
    by_cases he : k = i
    · have hy0 : y = y0 := by rw [he] at hy; rw [hy] at hi; exact Option.some.inj hi
      subst hy0
      rw [if_pos he, encFd_eq] at hnew
      cases els with
      | nil =>
        (repeat' first | simp (disch := omega) only [go_sem, hy2, outS, boxF, zeroS] | ((apply spl) <;> intro h <;> try simp (disch := omega) only [go_sem, hy2, outS, boxF, zeroS, h]))
        refine ⟨(k + 1, ((f.set i (y.1, x)).take (k + 1)).map encFd), ?_, ⟨hlt, rfl⟩, by simp only; omega⟩
        simp only [← hnew, hle, hlx]
        rfl
      | cons z els =>
        simp only [List.length_cons] at hlen
        (repeat' first | simp (disch := omega) only [go_sem, hy2, outS, boxF, zeroS] | ((apply spl) <;> intro h <;> try simp (disch := omega) only [go_sem, hy2, outS, boxF, zeroS, h]))
        refine ⟨(k + 1, ((f.set i (y.1, x)).take (k + 1)).map encFd), ?_, ⟨hlt, rfl⟩, by simp only; omega⟩
        simp only [← hnew, hle, hlx, List.cons_append, boxF, outS, List.length_append, List.length_cons, List.length_nil]
        rfl
    · rw [if_neg he, encFd_eq y] at hnew
      cases els with
      | nil =>
        (repeat' first | simp (disch := omega) only [go_sem, hy2, outS, boxF, zeroS] | ((apply spl) <;> intro h <;> try simp (disch := omega) only [go_sem, hy2, outS, boxF, zeroS, h]))
        refine ⟨(k + 1, ((f.set i (y0.1, x)).take (k + 1)).map encFd), ?_, ⟨hlt, rfl⟩, by simp only; omega⟩
        simp only [← hnew, hle, hlx]
        rfl
      | cons z els =>
        simp only [List.length_cons] at hlen
        (repeat' first | simp (disch := omega) only [go_sem, hy2, outS, boxF, zeroS] | ((apply spl) <;> intro h <;> try simp (disch := omega) only [go_sem, hy2, outS, boxF, zeroS, h]))
        refine ⟨(k + 1, ((f.set i (y0.1, x)).take (k + 1)).map encFd), ?_, ⟨hlt, rfl⟩, by simp only; omega⟩
        simp only [← hnew, hle, hlx, List.cons_append, boxF, outS, List.length_append, List.length_cons, List.length_nil]
        rfl
  · rw [List.take_of_length_le (by simp; omega)] at hels
    rw [← hels]
    cases els with
    | nil =>
      (repeat' first | simp (disch := omega) only [go_sem, outS, boxF, zeroS] | ((apply spl) <;> intro h <;> try simp (disch := omega) only [go_sem, outS, boxF, zeroS, h]))
    | cons z els =>
      (repeat' first | simp (disch := omega) only [go_sem, outS, boxF, zeroS, List.take_length] | ((apply spl) <;> intro h <;> try simp (disch := omega) only [go_sem, outS, boxF, zeroS, List.take_length, h]))
theorem more_run (f : List (List UInt8 × V)) (key : List UInt8) (x : V) (hl : (mapV f).bulk ≤ 2 ^ 24) : PRun C0 135 [encV (mapV f), .str key, encV x] (encV (mapV (f ++ [(key, x)]))) := by
  have L := V.lens hl
  have hlf : f.length < 2 ^ 24 := L.fields
  have hkx := encFd_eq (key, x)
  refine prun_of ac135 rfl ?_
  rw [mapV_enc, mapV_enc, encV_eq x]
  cases f with
  | nil =>
    (repeat' first | simp (disch := omega) only [go_sem, ac135, enter] | ((apply spl) <;> intro h <;> try simp (disch := omega) only [go_sem, ac135, enter, h]))
    rw [hkx]
  | cons y f =>
    have hlf2 : f.length < 2 ^ 24 - 1 := by
      have : f.length + 1 < 2 ^ 24 := by simpa using hlf
      omega
    have hlen : (f.map encFd).length = f.length := List.length_map _
    (repeat' first | simp (disch := omega) only [go_sem, ac135, enter, List.length_append, List.map_append, List.length_append] | ((apply spl) <;> intro h <;> try simp (disch := omega) only [go_sem, ac135, enter, List.length_append, List.map_append, List.length_append, h]))
    rw [List.take_of_length_le (by simp), hkx]
end Ago
/- Strongly valid values; what put makes. -/
set_option maxRecDepth 100000
set_option maxHeartbeats 4000000
namespace Ago
open Go (IntKind)
/-- A valid value of so much depth. -/
inductive Gd : Nat → V → Prop where
  | mk {n : Nat} {v : V} (h : oneM v = 0) (hk : ∀ x, x ∈ v.kids → Gd n x) : Gd (n + 1) v
theorem one_zero {v : V} (h : oneM v = 0) : ownM v = true ∧ decOk v.s.num = true ∧ (v.s.kind = 3 → tmOk v.s.time = true) ∧ utf v.s.text = true ∧ v.s.text.length ≤ 65536 ∧ v.s.bytes.length ≤ 65536 ∧ keysM (v.f.map (·.1)) = 0 := by
  unfold oneM at h
  split at h
  · cases h
  · rename_i h1
    split at h
    · cases h
    · rename_i h2
      split at h
      · cases h
      · rename_i h3
        split at h
        · cases h
        · rename_i h4
          rw [not_or] at h2 h4
          refine ⟨by simpa using h1, by simpa using h2.1, fun hk => ?_, by simpa using h3, by omega, by omega, h⟩
          cases ht : tmOk v.s.time with
          | true => rfl
          | false => exact (h2.2 ⟨hk, ht⟩).elim
theorem own_ok {v : V} (h : ownM v = true) : OwnOk v := by
  unfold ownM at h
  simp only [Bool.and_eq_true, Bool.or_eq_true, beq_iff_eq, decide_eq_true_eq] at h
  exact ⟨by omega, by omega⟩
theorem Gd.good {n : Nat} {v : V} (h : Gd n v) : Good n v := by
  induction h with
  | mk h _ ih => exact .mk (one_zero h).2.1 (own_ok (one_zero h).1) ih
theorem Gd.mono {n : Nat} {v : V} (h : Gd n v) : ∀ {m : Nat}, n ≤ m → Gd m v := by
  induction h with
  | mk h _ ih =>
    intro m hm
    obtain ⟨m, rfl⟩ : ∃ k, m = k + 1 := ⟨m - 1, by omega⟩
    exact .mk h fun x hx => ih x hx (by omega)
theorem seqL_zero {F : V → Int → Int × Int} : ∀ (l : List V) (s : Int), (seqL F l s).2 = 0 → ∀ x, x ∈ l → ∃ s', (F x s').2 = 0
  | [], _, _, x, hx => by cases hx
  | y :: l, s, h, x, hx => by
    rw [seqL_step] at h
    split at h
    · rename_i h1
      rcases List.mem_cons.1 hx with rfl | hx
      · exact ⟨s, h1⟩
      · exact seqL_zero l _ h x hx
    · rename_i h1
      exact (h1 h).elim
theorem look_gd : ∀ (k : Nat) (v : V) (d s : Int), 0 ≤ d → (lookM k v d s).2 = 0 → Gd (49 - d).toNat v
  | 0, v, d, s, _, h => by simp [lookM] at h
  | k + 1, v, d, s, hd, h => by
    unfold lookM at h
    split at h
    · cases h
    · split at h
      · cases h
      · split at h
        · rename_i h3
          exact (h3 h).elim
        · rename_i h1 _ h3
          have hk := seqL_zero _ _ h
          rw [show (49 - d).toNat = (49 - (d + 1)).toNat + 1 by omega]
          refine .mk (Classical.not_not.1 h3) fun x hx => ?_
          obtain ⟨s', hs'⟩ := hk x hx
          exact look_gd k x (d + 1) s' (by omega) hs'
theorem check_gd {v : V} (h : checkM v = 0) : Gd 48 v := look_gd 49 v 1 0 (by omega) h

/-! ### The shapes of valid values -/

theorem own_shape {v : V} (h : ownM v = true) : (v.s.kind = 0 → v = nullV) ∧ (v.s.kind = 6 → v = listV v.l) ∧ (v.s.kind = 7 → v = mapV v.f) := by
  unfold ownM numZ tmZ at h
  obtain ⟨⟨k, b, ⟨ng, dg, ex⟩, ⟨tk, td, tn, tf⟩, tx, by_⟩, l, f⟩ := v
  simp only [V.s, V.l, V.f, Bool.and_eq_true, Bool.or_eq_true, beq_iff_eq, decide_eq_true_eq] at h ⊢
  refine ⟨fun hk => ?_, fun hk => ?_, fun hk => ?_⟩
  all_goals subst hk
  all_goals simp at h
  all_goals simp [nullV, listV, mapV, h]
theorem Gd.own {n : Nat} {v : V} (h : Gd n v) : ownM v = true := by
  cases h with
  | mk h _ => exact (one_zero h).1
theorem Gd.kids {n : Nat} {v : V} (h : Gd (n + 1) v) : ∀ x, x ∈ v.kids → Gd n x := by
  cases h with
  | mk _ hk => exact hk
theorem nullV_gd (n : Nat) : Gd (n + 1) nullV := .mk (by decide) fun x hx => by simp [V.kids, nullV, V.s, V.l] at hx
theorem listV_one (l : List V) : oneM (listV l) = 0 := by
  have h : ownM (listV l) = true := by simp [ownM, listV, V.s, V.l, V.f, numZ, tmZ]
  rw [one_own h]
  unfold oneI
  simp [listV, V.s, V.f, keysM, keysGo]
theorem mapV_one (f : List (List UInt8 × V)) : oneM (mapV f) = keysM (f.map (·.1)) := by
  have h : ownM (mapV f) = true := by simp [ownM, mapV, V.s, V.l, V.f, numZ, tmZ]
  rw [one_own h]
  unfold oneI
  simp [mapV, V.s, V.f]
theorem listV_kids (l : List V) : (listV l).kids = l := by simp [V.kids, listV, V.s, V.l]
theorem mapV_kids (f : List (List UInt8 × V)) : (mapV f).kids = f.map (·.2) := by simp [V.kids, mapV, V.s, V.f]
end Ago
/- Where a key stands among the fields: slices.IndexFunc. -/
set_option maxRecDepth 100000
set_option maxHeartbeats 4000000
set_option pp.maxSteps 200000
namespace Ago
open Go (IntKind)
/-- put's blocks, when the fields are copied. -/
def putB (x y : AV) (key : List UInt8) (idx : Int) : Heap :=
  [.row 13 [x] false true 1, .row 13 [zeroS] false true 2, .row 3 [.agg [.bool false, .str key, .int .i64 idx]] false true 3, .row 13 [y] false true 4, .gone]
def boxM (z : AV) : AV := .agg [.int .i64 7, .bool false, .bool false, .str [], .int .i64 0, .int .i64 0, .int .i64 0, .int .i64 0, .int .i64 0, .str [], .tsl 1 [], .tsl 13 [], z]
def putH (x y : AV) (key : List UInt8) (idx : Int) (a : AV) (l : List AV) : Heap := .row 13 [boxM (.sref 14 6 0 (l.length + 1))] false false 0 :: (putB x y key idx ++ [.row 14 (a :: l) false true 6])
theorem put1_run (x y : AV) (key : List UInt8) (idx : Int) (a : AV) (l : List AV) (k : List UInt8 × V) : RunOf C0 132 [encFd k, .ptr 3 3 0 0] (putH x y key idx a l) (.bool (k.1 == key)) (putH x y key idx a l) := by
  refine runR_of ac132 rfl ?_
  rw [encFd_eq]
  unfold putH putB boxM
  (repeat' first | simp (disch := omega) only [go_sem, ac132, enter, zeroS] | ((apply spl) <;> intro h <;> try simp (disch := omega) only [go_sem, ac132, enter, zeroS, h]))
  exact postR_of (.inr rfl) (.bool (k.1 == key)) rfl rfl rfl
theorem idxNil_run (x y : AV) (key : List UInt8) (idx : Int) (b : AV) : RunOf C0 131 [.snil 14, .fn 132 [.ptr 3 3 0 0]] (.row 13 [b] false true 0 :: putB x y key idx) (.int .i64 (-1)) (.row 13 [b] false true 0 :: putB x y key idx) := by
  refine runR_of ac131 rfl ?_
  unfold putB
  (repeat' first | simp (disch := omega) only [go_sem, ac131, enter, zeroS] | ((apply spl) <;> intro h <;> try simp (disch := omega) only [go_sem, ac131, enter, zeroS, h]))
  refine loop_of (α := Unit) (fun _ => { tmps := slots 19 [(0, .snil 14), (1, .fn 132 [.ptr 3 3 0 0]), (7, .int .i64 0), (8, .int .i64 0)], heap := (.row 13 [b] false true 0 :: putB x y key idx), base := 6 }) (fun _ => True) (fun _ => 0) () rfl trivial ?_
  rintro _ _
  unfold putB
  (repeat' first | simp (disch := omega) only [go_sem, zeroS] | ((apply spl) <;> intro h <;> try simp (disch := omega) only [go_sem, zeroS, h]))
  exact postR_of (.inr rfl) (.int .i64 (-1)) rfl rfl rfl
theorem idx_run (x y : AV) (key : List UInt8) (idx : Int) (f : List (List UInt8 × V)) (a : AV) (l : List AV) (hf : a :: l = f.map encFd) (hl : f.length < 2 ^ 30) : RunOf C0 131 [.sref 14 6 0 (l.length + 1), .fn 132 [.ptr 3 3 0 0]] (putH x y key idx a l) (.int .i64 (match keyAt f key with | some i => (i : Int) | none => -1)) (putH x y key idx a l) := by
  have hlen : l.length + 1 = f.length := by
    have := congrArg List.length hf
    simpa using this
  refine runR_of ac131 rfl ?_
  unfold putH putB
  (repeat' first | simp (disch := omega) only [go_sem, ac131, enter, zeroS] | ((apply spl) <;> intro h <;> try simp (disch := omega) only [go_sem, ac131, enter, zeroS, h]))
  refine loop_of (α := Nat) (fun k => { tmps := slots 19 [(0, .sref 14 6 0 (l.length + 1)), (1, .fn 132 [.ptr 3 3 0 0]), (7, .int .i64 (l.length + 1 : Nat)), (8, .int .i64 k)], heap := putH x y key idx a l, base := 7 })
    (fun k => k ≤ f.length ∧ ∀ z, z ∈ f.take k → z.1 ≠ key) (fun k => f.length - k) 0 rfl ⟨Nat.zero_le _, by simp⟩ ?_
  rintro k ⟨hk1, hk2⟩
  by_cases hlt : k < f.length
  · obtain ⟨z, hz⟩ := get_some hlt
    have hz2 : (a :: l)[k]? = some (encFd z) := by rw [hf]; exact map_get (g := encFd) hz
    have hr := put1_run x y key idx a l z
    rw [encFd_eq z] at hz2 hr
    unfold putH putB at hr ⊢
    by_cases he : z.1 = key
    · have he2 : (z.1 == key) = true := by simpa using he
      rw [(field_of hk2 hz he).2]
      rw [he2] at hr
      (repeat' first | simp (disch := omega) only [go_sem, hz2] | (refine call_of _ _ hr ?_) | ((apply spl) <;> intro h <;> try simp (disch := omega) only [go_sem, hz2 , h]))
      exact postR_of (.inr rfl) (.int .i64 k) rfl rfl rfl
    · have he2 : (z.1 == key) = false := by simpa using he
      rw [he2] at hr
      (repeat' first | simp (disch := omega) only [go_sem, hz2] | (refine call_of _ _ hr ?_) | ((apply spl) <;> intro h <;> try simp (disch := omega) only [go_sem, hz2 , h]))
      refine ⟨k + 1, rfl, ⟨hlt, fun y hy => ?_⟩, by omega⟩
      rw [List.take_add_one, hz] at hy
      rcases List.mem_append.1 hy with hy | hy
      · exact hk2 y hy
      · have e : y = z := by simpa using hy
        rw [e]
        exact he
  · rw [take_len hlt hk1] at hk2
    rw [(field_none hk2).2]
    unfold putH putB
    (repeat' first | simp (disch := omega) only [go_sem] | ((apply spl) <;> intro h <;> try simp (disch := omega) only [go_sem, h]))
    exact postR_of (.inr rfl) (.int .i64 (-1)) rfl rfl rfl
end Ago
/- qpath.put. -/
set_option maxRecDepth 100000
set_option maxHeartbeats 4000000
namespace Ago
open Go (IntKind)
def putL (l : List V) (i : Nat) (y : V) : List V := (l ++ List.replicate (i + 1 - l.length) nullV).set i y
def putF (f : List (List UInt8 × V)) (key : List UInt8) (y : V) : List (List UInt8 × V) :=
  match keyAt f key with
  | some i => f.set i (key, y)
  | none => f ++ [(key, y)]
/-- What put makes of a valid value, and its error. -/
def putM : List Stp → V → V → V × Int
  | [], _, x => (x, 0)
  | s :: p, v, x =>
    if s.byIndex then
      if v.s.kind = 0 ∨ v.s.kind = 6 then
        let r := putM p (partM (listV v.l) s) x
        if r.2 ≠ 0 then (nullV, r.2) else if 65536 ≤ s.index then (nullV, 10) else (listV (putL v.l s.index.toNat r.1), 0)
      else (nullV, 6)
    else if v.s.kind = 0 ∨ v.s.kind = 7 then
      let r := putM p (partM (mapV v.f) s) x
      if r.2 ≠ 0 then (nullV, r.2) else (mapV (putF v.f s.key r.1), 0)
    else (nullV, 6)
def stpIn (s : Stp) : Prop := s.byIndex = true → 0 ≤ s.index ∧ s.index < 2 ^ 30
theorem clF_nil (H : Heap) : RunOf C0 130 [.tsl 14 []] H (.snil 14) (H ++ [.gone]) := cloneR (n := 14) (b := 184) rfl rfl
theorem clF_cons (H : Heap) (y : AV) (l : List AV) (hl : l.length < 2 ^ 30) : RunOf C0 130 [.tsl 14 (y :: l)] H (.sref 14 (H.length + 1) 0 (l.length + 1)) (H ++ [.gone, .row 14 (y :: l) false true (H.length + 1)]) := by
  refine cloneR (n := 14) (b := 184) rfl ?_
  simp [xAppend, Heap.elems, Heap.append, lim, freshRow, Heap.flatOf]
  omega
theorem part_gd {n : Nat} {v : V} {s : Stp} (hg : Gd (n + 1) v) (hv : v.bulk ≤ 2 ^ 24) (hf : fitsM v s = true) : (∃ m, m ≤ n + 1 ∧ Gd m (partM v s)) ∧ (partM v s).bulk ≤ max v.bulk nullV.bulk := by
  have L := V.lens hv
  have hnull : (∃ m, m ≤ n + 1 ∧ Gd m nullV) ∧ nullV.bulk ≤ max v.bulk nullV.bulk := ⟨⟨n + 1, Nat.le_refl _, nullV_gd n⟩, Nat.le_max_right _ _⟩
  have hk := hg.kids
  unfold fitsM at hf
  unfold partM
  cases hb : s.byIndex with
  | true =>
    rw [hb] at hf
    have h6 : v.s.kind = 6 := by simpa using hf
    simp only [if_true]
    split
    · cases hx : v.l[s.index.toNat]? with
      | none => exact hnull
      | some x =>
        have hxm := List.mem_of_getElem? hx
        exact ⟨⟨n, by omega, hk x (by unfold V.kids; rw [if_neg (by omega)]; exact hxm)⟩, by have := L.kids x hxm; simp only [Option.getD_some]; omega⟩
    · exact hnull
  | false =>
    rw [hb] at hf
    have h7 : v.s.kind = 7 := by simpa using hf
    simp only [Bool.false_eq_true, if_false]
    cases hx : fieldM v.f s.key with
    | none => exact hnull
    | some x =>
      obtain ⟨y, hy, rfl⟩ := field_mem hx
      exact ⟨⟨n, by omega, hk y.2 (by unfold V.kids; rw [if_pos h7]; exact List.mem_map_of_mem hy)⟩, by have := (L.fkids y hy).1; simp only [Option.getD_some]; omega⟩
theorem small_bulk : nullV.bulk ≤ 100 ∧ (listV []).bulk ≤ 100 ∧ (mapV []).bulk ≤ 100 := by
  refine ⟨?_, ?_, ?_⟩
  · unfold V.bulk; rw [nullV_enc]; decide
  · unfold V.bulk; rw [listV_enc]; decide
  · unfold V.bulk; rw [mapV_enc]; decide
/-- null as an empty map, or a map. -/
theorem as_map {n : Nat} {v : V} (hg : Gd n v) (hk : v.s.kind = 0 ∨ v.s.kind = 7) : Gd n (mapV v.f) ∧ (mapV v.f).bulk ≤ max v.bulk 100 := by
  obtain ⟨sh0, sh6, sh7⟩ := own_shape hg.own
  rcases hk with hk | hk
  · have hv0 := sh0 hk
    have hf0 : v.f = [] := by rw [hv0]; rfl
    rw [hf0]
    refine ⟨?_, by have := small_bulk.2.2; omega⟩
    cases hg with
    | mk _ _ => exact .mk (by rw [mapV_one]; rfl) fun x hx => by rw [mapV_kids] at hx; cases hx
  · rw [← sh7 hk]
    exact ⟨hg, by omega⟩
theorem as_list {n : Nat} {v : V} (hg : Gd n v) (hk : v.s.kind = 0 ∨ v.s.kind = 6) : Gd n (listV v.l) ∧ (listV v.l).bulk ≤ max v.bulk 100 := by
  obtain ⟨sh0, sh6, sh7⟩ := own_shape hg.own
  rcases hk with hk | hk
  · have hv0 := sh0 hk
    have hf0 : v.l = [] := by rw [hv0]; rfl
    rw [hf0]
    refine ⟨?_, by have := small_bulk.2.1; omega⟩
    cases hg with
    | mk _ _ => exact .mk (listV_one []) fun x hx => by rw [listV_kids] at hx; cases hx
  · rw [← sh6 hk]
    exact ⟨hg, by omega⟩
theorem part_sub {n : Nat} {w : V} {s : Stp} (hn : n ≤ 100) (hg : Gd n w) (hv : w.bulk ≤ 2 ^ 24) (hf : fitsM w s = true) : (∃ n, n ≤ 100 ∧ Gd n (partM w s)) ∧ (partM w s).bulk ≤ 2 ^ 24 := by
  cases n with
  | zero => cases hg
  | succ n =>
    obtain ⟨⟨m, h1, h2⟩, h3⟩ := part_gd hg hv hf
    exact ⟨⟨m, by omega, h2⟩, by have := small_bulk.1; omega⟩
theorem keyAt_get {f : List (List UInt8 × V)} {key : List UInt8} {i : Nat} (h : keyAt f key = some i) : ∃ z, f[i]? = some z ∧ z.1 = key := by
  obtain ⟨hlt, h1, h2⟩ := List.findIdx?_eq_some_iff_getElem.1 h
  exact ⟨f[i], List.getElem?_eq_getElem hlt, by simpa using h1⟩
theorem putKey_step (s : Stp) (p : List Stp) (v x : V) (R : V × Int) {n : Nat} (hn : n ≤ 100) (hg : Gd n v) (hv : v.bulk ≤ 2 ^ 24) (hp' : p.length < 2 ^ 30 - 1) (hb : s.byIndex = false)
    (hr : v.s.kind = 0 ∨ v.s.kind = 7 → PRun C0 125 [encV (partM (mapV v.f) s), .tsl 3 (p.map encS), encV x] (.tup [encV R.1, .int .i64 R.2])) :
    PRun C0 125 [encV v, .tsl 3 ((s :: p).map encS), encV x] (.tup [encV (if v.s.kind = 0 ∨ v.s.kind = 7 then if R.2 ≠ 0 then (nullV, R.2) else (mapV (putF v.f s.key R.1), 0) else (nullV, 6)).1, .int .i64 (if v.s.kind = 0 ∨ v.s.kind = 7 then if R.2 ≠ 0 then (nullV, R.2) else (mapV (putF v.f s.key R.1), 0) else (nullV, 6)).2]) := by
  obtain ⟨sh0, sh6, sh7⟩ := own_shape hg.own
  have hpl : List.take p.length (p.map encS) = p.map encS := List.take_of_length_le (by simp)
  refine prun_of ac125 rfl ?_
  by_cases hk : v.s.kind = 0 ∨ v.s.kind = 7
  · have hr := hr hk
    rw [if_pos hk]
    have hfit : fitsM (mapV v.f) s = true := by simp [fitsM, hb, mapV, V.s]
    have h43 := fits_run (mapV v.f) s
    rw [hfit] at h43
    obtain ⟨hgm, hbm⟩ := as_map hg hk
    have hbm : (mapV v.f).bulk ≤ 2 ^ 24 := by omega
    have h44 := part_run (mapV v.f) s hgm.good (by omega) hbm hfit
    obtain ⟨hpg, hpb⟩ := part_sub hn hgm hbm hfit
    generalize partM (mapV v.f) s = w at h44 hr
    rw [mapV_enc] at h43 h44
    rw [encS_of] at h43 h44
    rw [hb] at h43 h44
    rw [encV_eq w] at h44 hr
    rw [encV_eq x] at hr ⊢
    rw [encV_eq R.1] at hr
    rw [List.map_cons, encS_of, hb]
    have hlf : v.f.length < 2 ^ 24 := (V.lens hbm).fields
    have hR := encFd_eq (s.key, R.1)
    have hnil := idxNil_run (encV x) (encV R.1) s.key s.index (boxM (.snil 14))
    unfold putB boxM at hnil
    rw [encV_eq x, encV_eq R.1] at hnil
    by_cases he : R.2 = 0
    · rw [if_neg (by rw [he]; simp)]
      rw [he] at hr
      rcases hk with hk | hk
      · have hv0 := sh0 hk
        have hf0 : v.f = [] := by rw [hv0]; rfl
        have hput : putF v.f s.key R.1 = [(s.key, R.1)] := by rw [hf0]; rfl
        rw [hput, mapV_enc]
        rw [hv0, nullV_enc]
        rw [hf0, List.map_nil] at h43 h44
        (repeat' first | simp (disch := omega) only [go_sem, ac125, enter, zeroS, List.length_map, hpl] | refine pure_of _ (h43) ?_ | refine pure_of _ (h44) ?_ | refine pure_of _ (hr) ?_ | (refine call_of _ _ (clF_nil _) ?_) | (refine call_of _ _ hnil ?_) | ((apply spl) <;> intro h <;> try simp (disch := omega) only [go_sem, ac125, enter, zeroS, List.length_map, hpl , h]))
        rw [hR]
      · cases hvf : v.f with
        | nil =>
          have hput : putF [] s.key R.1 = [(s.key, R.1)] := rfl
          rw [hput, mapV_enc]
          rw [sh7 hk, mapV_enc]
          rw [hvf] at h43 h44 ⊢
          rw [List.map_nil] at h43 h44
          (repeat' first | simp (disch := omega) only [go_sem, ac125, enter, zeroS, List.length_map, List.map_nil, hpl] | refine pure_of _ (h43) ?_ | refine pure_of _ (h44) ?_ | refine pure_of _ (hr) ?_ | (refine call_of _ _ (clF_nil _) ?_) | (refine call_of _ _ hnil ?_) | ((apply spl) <;> intro h <;> try simp (disch := omega) only [go_sem, ac125, enter, zeroS, List.length_map, List.map_nil, hpl , h]))
          rw [hR]
        | cons z f =>
          have hlf2 : f.length < 2 ^ 24 - 1 := by
            rw [hvf] at hlf
            have : f.length + 1 < 2 ^ 24 := by simpa using hlf
            omega
          have hcl : ∀ H : Heap, RunOf C0 130 [.tsl 14 (encFd z :: f.map encFd)] H (.sref 14 (H.length + 1) 0 (f.length + 1)) (H ++ [.gone, .row 14 (encFd z :: f.map encFd) false true (H.length + 1)]) := fun H => by
            have := clF_cons H (encFd z) (f.map encFd) (by rw [List.length_map]; omega)
            rwa [List.length_map] at this
          have hidx := idx_run (encV x) (encV R.1) s.key s.index v.f (encFd z) (f.map encFd) (by rw [hvf]; rfl) (by omega)
          unfold putH putB boxM at hidx
          rw [encV_eq x, encV_eq R.1] at hidx
          rw [hvf] at hidx h43 h44
          rw [List.length_map] at hidx
          rw [List.map_cons] at h43 h44
          rw [sh7 hk, mapV_enc, mapV_enc, hvf]
          cases hka : keyAt (z :: f) s.key with
          | none =>
            rw [hka] at hidx
            have hput : (putF (z :: f) s.key R.1).map encFd = encFd z :: (f.map encFd ++ [encFd (s.key, R.1)]) := by
              unfold putF
              rw [hka]
              simp
            rw [hput, hR]
            have hta : ∀ e, List.take (f.length + 1) (f.map encFd ++ [e]) = f.map encFd ++ [e] := fun e => List.take_of_length_le (by simp)
            (repeat' first | simp (disch := omega) only [go_sem, ac125, enter, zeroS, List.length_map, List.map_cons, List.length_append, hpl, hta] | refine pure_of _ (h43) ?_ | refine pure_of _ (h44) ?_ | refine pure_of _ (hr) ?_ | (refine call_of _ _ (hcl _) ?_) | (refine call_of _ _ hidx ?_) | ((apply spl) <;> intro h <;> try simp (disch := omega) only [go_sem, ac125, enter, zeroS, List.length_map, List.map_cons, List.length_append, hpl, hta , h]))
          | some i =>
            rw [hka] at hidx
            obtain ⟨z', hz', hzk⟩ := keyAt_get hka
            have hi : i < f.length + 1 := by
              have := (List.getElem?_eq_some_iff.1 hz').1
              simpa using this
            have hz2 : (encFd z :: f.map encFd)[i]? = some (encFd z') := map_get (g := encFd) hz'
            have hput : (putF (z :: f) s.key R.1).map encFd = (encFd z :: f.map encFd).set i (encFd (z'.1, R.1)) := by
              unfold putF
              rw [hka, hzk]
              exact List.map_set
            rw [hput, encFd_eq (z'.1, R.1)]
            rw [encFd_eq z'] at hz2
            have hta : ∀ e, List.take (f.length + 1) ((encFd z :: f.map encFd).set i e) = (encFd z :: f.map encFd).set i e := fun e => List.take_of_length_le (by simp)
            (repeat' first | simp (disch := omega) only [go_sem, ac125, enter, zeroS, List.length_map, List.map_cons, List.length_append, List.length_set, hpl, hz2, hta] | refine pure_of _ (h43) ?_ | refine pure_of _ (h44) ?_ | refine pure_of _ (hr) ?_ | (refine call_of _ _ (hcl _) ?_) | (refine call_of _ _ hidx ?_) | ((apply spl) <;> intro h <;> try simp (disch := omega) only [go_sem, ac125, enter, zeroS, List.length_map, List.map_cons, List.length_append, List.length_set, hpl, hz2, hta , h]))
    · rw [if_pos he, nullV_enc]
      rcases hk with hk | hk
      · have hv0 := sh0 hk
        have hf0 : v.f = [] := by rw [hv0]; rfl
        rw [hv0, nullV_enc]
        rw [hf0, List.map_nil] at h43 h44
        (repeat' first | simp (disch := omega) only [go_sem, ac125, enter, zeroS, List.length_map, hpl] | refine pure_of _ (h43) ?_ | refine pure_of _ (h44) ?_ | refine pure_of _ (hr) ?_ | ((apply spl) <;> intro h <;> try simp (disch := omega) only [go_sem, ac125, enter, zeroS, List.length_map, hpl , h]))
      · rw [sh7 hk, mapV_enc]
        (repeat' first | simp (disch := omega) only [go_sem, ac125, enter, zeroS, List.length_map, hpl] | refine pure_of _ (h43) ?_ | refine pure_of _ (h44) ?_ | refine pure_of _ (hr) ?_ | ((apply spl) <;> intro h <;> try simp (disch := omega) only [go_sem, ac125, enter, zeroS, List.length_map, hpl , h]))
  · rw [if_neg hk, nullV_enc]
    have hfit : fitsM v s = false := by simp [fitsM, hb]; omega
    have h43 := fits_run v s
    rw [hfit, encS_of, hb, encV_eq v] at h43
    rw [encV_eq v, encV_eq x, List.map_cons, encS_of, hb]
    (repeat' first | simp (disch := omega) only [go_sem, ac125, enter, zeroS, List.length_map, hpl] | refine pure_of _ (h43) ?_ | ((apply spl) <;> intro h <;> try simp (disch := omega) only [go_sem, ac125, enter, zeroS, List.length_map, hpl , h]))
end Ago
