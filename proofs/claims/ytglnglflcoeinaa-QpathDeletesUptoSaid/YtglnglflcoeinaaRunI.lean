/- The reference's put, at an index. -/
import Derived.Test.YtglnglflcoeinaaRunH
import Derived.Test.YtglnglflcoeinaaRunE
import Derived.Test.YtglnglflcoeinaaRunD
import Derived.Test.YtglnglflcoeinaaRunG
set_option linter.unusedSimpArgs false
set_option linter.unusedVariables false
set_option maxRecDepth 100000
set_option maxHeartbeats 4000000
namespace Ago
open Go (IntKind)
theorem calm_rowN {n : Nat} {els : List AV} {fam : Nat} (h : ∀ x, x ∈ els → Still x) : Calm (.row n els false false fam) := by
  refine ⟨?_, fun f g => ?_, rfl⟩
  · show els.flatMap (AV.refsN 6) = []
    rw [List.flatMap_eq_nil_iff]
    exact fun x hx => (h x hx).1
  · show Blk.row n (els.map (AV.renN f 6)) false false (g fam) = .row n els false false (g fam)
    congr 1
    rw [List.map_congr_left (g := id) (fun x hx => (h x hx).2 f), List.map_id]
theorem still_encV (v : V) : Still (encV v) := by
  rw [encV_eq]
  exact ⟨rfl, fun _ => rfl⟩
end Ago
/- Few values: what Small says. -/
set_option maxRecDepth 100000
set_option maxHeartbeats 4000000
namespace Ago
open Go (IntKind)
/-- No list and no map in it has more parts. -/
inductive Few (N : Nat) : V → Prop where
  | mk {v : V} (hl : v.l.length ≤ N) (hf : v.f.length ≤ N) (hk : ∀ x, x ∈ v.l → Few N x) (hkf : ∀ x, x ∈ v.f → Few N x.2) : Few N v
theorem room_few (N : Nat) (hN : N < 2 ^ 30) : ∀ (n : Nat) (v : V), v.bulk ≤ n → n ≤ 2 ^ 24 → ∀ (left d : Int), 0 ≤ left → left ≤ N → -1 ≤ d → d < 2 ^ 30 → ∃ r : Int, PRun C0 38 [encV v, .int .i64 left, .int .i64 d] (.int .i64 r) ∧ -1 ≤ r ∧ r ≤ N ∧ (0 ≤ r → Few N v) := by
  intro n
  induction n with
  | zero =>
    intro v hv
    have : 1 ≤ v.bulk := bulk_one _
    omega
  | succ n ih =>
    intro v hv hn left d hl1 hl2 hd1 hd2
    have L := V.lens (v := v) (N := 2 ^ 24) (by omega)
    have h := prunE_of (C := C0) (f := 38) (ts := [encV v, .int .i64 left, .int .i64 d]) (k := fun w => ∃ r : Int, w = .int .i64 r ∧ -1 ≤ r ∧ r ≤ N ∧ (0 ≤ r → Few N v)) ac38 rfl (by
      rw [encV_eq]
      by_cases hdz : d ≤ 0
      · (repeat' first | simp (disch := omega) only [go_sem, ac38, enter, List.length_map] | ((first | refine wantDf ?_ ?_ | refine wantDt ?_ ?_ | refine wantEf ?_ ?_ | refine wantEt ?_ ?_ | refine wantNf ?_ ?_ | refine wantNt ?_ ?_ | refine wantNBf ?_ ?_ | refine wantNBt ?_ ?_ | refine wantBf ?_ ?_ | refine wantBt ?_ ?_ | refine boolD ?_ ?_ | refine boolE ?_ ?_ | refine boolN ?_ ?_ | refine boolNB ?_ ?_ | refine boolB ?_ ?_) <;> intro h <;> try simp (disch := omega) only [go_sem, ac38, enter, List.length_map, h]))
        exact ⟨_, rfl, by omega, by omega, fun h => by omega⟩
      by_cases hlb : (v.l.length : Int) ≤ left - 1 ∧ (v.f.length : Int) ≤ left - 1
      · obtain ⟨hlb1, hlb2⟩ := hlb
        (repeat' first | simp (disch := omega) only [go_sem, ac38, enter, List.length_map] | ((first | refine wantDf ?_ ?_ | refine wantDt ?_ ?_ | refine wantEf ?_ ?_ | refine wantEt ?_ ?_ | refine wantNf ?_ ?_ | refine wantNt ?_ ?_ | refine wantNBf ?_ ?_ | refine wantNBt ?_ ?_ | refine wantBf ?_ ?_ | refine wantBt ?_ ?_ | refine boolD ?_ ?_ | refine boolE ?_ ?_ | refine boolN ?_ ?_ | refine boolNB ?_ ?_ | refine boolB ?_ ?_) <;> intro h <;> try simp (disch := omega) only [go_sem, ac38, enter, List.length_map, h]))
        all_goals first | omega | skip
        refine loop_of (α := Nat × Int) (fun a => { tmps := slots 69 [(1, .int .i64 a.2), (2, .int .i64 d), (3, .ptr 13 0 0 0), (7, .int .i64 a.1)], heap := [.row 13 [encV v] false true 0], base := 0 }) (fun a => a.1 ≤ v.l.length ∧ -1 ≤ a.2 ∧ a.2 ≤ N ∧ (0 ≤ a.2 → ∀ x, x ∈ v.l.take a.1 → Few N x)) (fun a => v.l.length - a.1) (0, left - 1) (by rw [encV_eq]; rfl) ⟨Nat.zero_le _, by simp only; omega, by simp only; omega, by simp⟩ ?_
        rintro ⟨k, lf⟩ ⟨hk, hs3, hs4, hs5⟩
        simp only at hk hs3 hs4 hs5
        rw [encV_eq]
        by_cases hlt : k < v.l.length ∧ 0 ≤ lf
        · obtain ⟨hlt, hlf⟩ := hlt
          obtain ⟨x, hx⟩ := get_some hlt
          have hxm := List.mem_of_getElem? hx
          have hx2 := map_get (g := encV) hx
          obtain ⟨r, hr, k1, k2, k3⟩ := ih x (by have := L.kids x hxm; omega) (by omega) lf (d - 1) (by omega) (by omega) (by omega) (by omega)
          rw [encV_eq] at hx2 hr
          (repeat' first | simp (disch := omega) only [go_sem, hx2, List.length_map] | refine pure_of _ (hr) ?_ | ((first | refine wantDf ?_ ?_ | refine wantDt ?_ ?_ | refine wantEf ?_ ?_ | refine wantEt ?_ ?_ | refine wantNf ?_ ?_ | refine wantNt ?_ ?_ | refine wantNBf ?_ ?_ | refine wantNBt ?_ ?_ | refine wantBf ?_ ?_ | refine wantBt ?_ ?_ | refine boolD ?_ ?_ | refine boolE ?_ ?_ | refine boolN ?_ ?_ | refine boolNB ?_ ?_ | refine boolB ?_ ?_) <;> intro h <;> try simp (disch := omega) only [go_sem, hx2, List.length_map , h]))
          refine ⟨(k + 1, r), rfl, ⟨hlt, by simp only; omega, by simp only; omega, fun h y hy => ?_⟩, by simp only; omega⟩
          rw [List.take_add_one, hx] at hy
          rcases List.mem_append.1 hy with hy | hy
          · exact hs5 hlf y hy
          · have e : y = x := by simpa using hy
            rw [e]
            exact k3 h
        · by_cases hlt2 : k < v.l.length
          · have hlf : lf < 0 := by omega
            have hall : 0 ≤ lf → ∀ x, x ∈ v.l → Few N x := fun h => by omega
            (repeat' first | simp (disch := omega) only [go_sem, List.length_map] | ((first | refine wantDf ?_ ?_ | refine wantDt ?_ ?_ | refine wantEf ?_ ?_ | refine wantEt ?_ ?_ | refine wantNf ?_ ?_ | refine wantNt ?_ ?_ | refine wantNBf ?_ ?_ | refine wantNBt ?_ ?_ | refine wantBf ?_ ?_ | refine wantBt ?_ ?_ | refine boolD ?_ ?_ | refine boolE ?_ ?_ | refine boolN ?_ ?_ | refine boolNB ?_ ?_ | refine boolB ?_ ?_) <;> intro h <;> try simp (disch := omega) only [go_sem, List.length_map, h]))
            refine loop_of (α := Nat × Int) (fun a => { tmps := slots 69 [(1, .int .i64 a.2), (2, .int .i64 d), (3, .ptr 13 0 0 0), (8, .int .i64 a.1)], heap := [.row 13 [encV v] false true 0], base := 0 }) (fun a => a.1 ≤ v.f.length ∧ -1 ≤ a.2 ∧ a.2 ≤ N ∧ (0 ≤ a.2 → (∀ x, x ∈ v.l → Few N x) ∧ ∀ x, x ∈ v.f.take a.1 → Few N x.2)) (fun a => v.f.length - a.1) (0, lf) (by rw [encV_eq]; rfl) ⟨Nat.zero_le _, by simp only; omega, by simp only; omega, fun h => ⟨hall h, by simp⟩⟩ ?_
            clear hk hs3 hs4 hlt hlt2 hs5 hall
            rintro ⟨k, lf⟩ ⟨hk, hs3, hs4, hs5⟩
            simp only at hk hs3 hs4 hs5
            rw [encV_eq]
            by_cases hlt : k < v.f.length ∧ 0 ≤ lf
            · obtain ⟨hlt, hlf⟩ := hlt
              obtain ⟨x, hx⟩ := get_some hlt
              have hxm := List.mem_of_getElem? hx
              have hx2 := map_get (g := encFd) hx
              obtain ⟨r, hr, k1, k2, k3⟩ := ih x.2 (by have := (L.fkids x hxm).1; omega) (by omega) lf (d - 1) (by omega) (by omega) (by omega) (by omega)
              rw [encFd_eq] at hx2
              rw [encV_eq] at hr
              (repeat' first | simp (disch := omega) only [go_sem, hx2, List.length_map] | refine pure_of _ (hr) ?_ | ((first | refine wantDf ?_ ?_ | refine wantDt ?_ ?_ | refine wantEf ?_ ?_ | refine wantEt ?_ ?_ | refine wantNf ?_ ?_ | refine wantNt ?_ ?_ | refine wantNBf ?_ ?_ | refine wantNBt ?_ ?_ | refine wantBf ?_ ?_ | refine wantBt ?_ ?_ | refine boolD ?_ ?_ | refine boolE ?_ ?_ | refine boolN ?_ ?_ | refine boolNB ?_ ?_ | refine boolB ?_ ?_) <;> intro h <;> try simp (disch := omega) only [go_sem, hx2, List.length_map , h]))
              refine ⟨(k + 1, r), rfl, ⟨hlt, by simp only; omega, by simp only; omega, fun h => ⟨(hs5 hlf).1, fun y hy => ?_⟩⟩, by simp only; omega⟩
              rw [List.take_add_one, hx] at hy
              rcases List.mem_append.1 hy with hy | hy
              · exact (hs5 hlf).2 y hy
              · have e : y = x := by simpa using hy
                rw [e]
                exact k3 h
            · by_cases hlt2 : k < v.f.length
              · have hlf : lf < 0 := by omega
                (repeat' first | simp (disch := omega) only [go_sem, List.length_map] | ((first | refine wantDf ?_ ?_ | refine wantDt ?_ ?_ | refine wantEf ?_ ?_ | refine wantEt ?_ ?_ | refine wantNf ?_ ?_ | refine wantNt ?_ ?_ | refine wantNBf ?_ ?_ | refine wantNBt ?_ ?_ | refine wantBf ?_ ?_ | refine wantBt ?_ ?_ | refine boolD ?_ ?_ | refine boolE ?_ ?_ | refine boolN ?_ ?_ | refine boolNB ?_ ?_ | refine boolB ?_ ?_) <;> intro h <;> try simp (disch := omega) only [go_sem, List.length_map, h]))
                exact ⟨_, rfl, by omega, by omega, fun h => by omega⟩
              · rw [take_len hlt2 hk] at hs5
                (repeat' first | simp (disch := omega) only [go_sem, List.length_map] | ((first | refine wantDf ?_ ?_ | refine wantDt ?_ ?_ | refine wantEf ?_ ?_ | refine wantEt ?_ ?_ | refine wantNf ?_ ?_ | refine wantNt ?_ ?_ | refine wantNBf ?_ ?_ | refine wantNBt ?_ ?_ | refine wantBf ?_ ?_ | refine wantBt ?_ ?_ | refine boolD ?_ ?_ | refine boolE ?_ ?_ | refine boolN ?_ ?_ | refine boolNB ?_ ?_ | refine boolB ?_ ?_) <;> intro h <;> try simp (disch := omega) only [go_sem, List.length_map, h]))
                exact ⟨_, rfl, by omega, by omega, fun h => .mk (by omega) (by omega) (hs5 h).1 (hs5 h).2⟩
          · have hall : 0 ≤ lf → ∀ x, x ∈ v.l → Few N x := fun h => by
              have := hs5 h
              rwa [take_len hlt2 hk] at this
            (repeat' first | simp (disch := omega) only [go_sem, List.length_map] | ((first | refine wantDf ?_ ?_ | refine wantDt ?_ ?_ | refine wantEf ?_ ?_ | refine wantEt ?_ ?_ | refine wantNf ?_ ?_ | refine wantNt ?_ ?_ | refine wantNBf ?_ ?_ | refine wantNBt ?_ ?_ | refine wantBf ?_ ?_ | refine wantBt ?_ ?_ | refine boolD ?_ ?_ | refine boolE ?_ ?_ | refine boolN ?_ ?_ | refine boolNB ?_ ?_ | refine boolB ?_ ?_) <;> intro h <;> try simp (disch := omega) only [go_sem, List.length_map, h]))
            refine loop_of (α := Nat × Int) (fun a => { tmps := slots 69 [(1, .int .i64 a.2), (2, .int .i64 d), (3, .ptr 13 0 0 0), (8, .int .i64 a.1)], heap := [.row 13 [encV v] false true 0], base := 0 }) (fun a => a.1 ≤ v.f.length ∧ -1 ≤ a.2 ∧ a.2 ≤ N ∧ (0 ≤ a.2 → (∀ x, x ∈ v.l → Few N x) ∧ ∀ x, x ∈ v.f.take a.1 → Few N x.2)) (fun a => v.f.length - a.1) (0, lf) (by rw [encV_eq]; rfl) ⟨Nat.zero_le _, by simp only; omega, by simp only; omega, fun h => ⟨hall h, by simp⟩⟩ ?_
            clear hk hs3 hs4 hlt hlt2 hs5 hall
            rintro ⟨k, lf⟩ ⟨hk, hs3, hs4, hs5⟩
            simp only at hk hs3 hs4 hs5
            rw [encV_eq]
            by_cases hlt : k < v.f.length ∧ 0 ≤ lf
            · obtain ⟨hlt, hlf⟩ := hlt
              obtain ⟨x, hx⟩ := get_some hlt
              have hxm := List.mem_of_getElem? hx
              have hx2 := map_get (g := encFd) hx
              obtain ⟨r, hr, k1, k2, k3⟩ := ih x.2 (by have := (L.fkids x hxm).1; omega) (by omega) lf (d - 1) (by omega) (by omega) (by omega) (by omega)
              rw [encFd_eq] at hx2
              rw [encV_eq] at hr
              (repeat' first | simp (disch := omega) only [go_sem, hx2, List.length_map] | refine pure_of _ (hr) ?_ | ((first | refine wantDf ?_ ?_ | refine wantDt ?_ ?_ | refine wantEf ?_ ?_ | refine wantEt ?_ ?_ | refine wantNf ?_ ?_ | refine wantNt ?_ ?_ | refine wantNBf ?_ ?_ | refine wantNBt ?_ ?_ | refine wantBf ?_ ?_ | refine wantBt ?_ ?_ | refine boolD ?_ ?_ | refine boolE ?_ ?_ | refine boolN ?_ ?_ | refine boolNB ?_ ?_ | refine boolB ?_ ?_) <;> intro h <;> try simp (disch := omega) only [go_sem, hx2, List.length_map , h]))
              refine ⟨(k + 1, r), rfl, ⟨hlt, by simp only; omega, by simp only; omega, fun h => ⟨(hs5 hlf).1, fun y hy => ?_⟩⟩, by simp only; omega⟩
              rw [List.take_add_one, hx] at hy
              rcases List.mem_append.1 hy with hy | hy
              · exact (hs5 hlf).2 y hy
              · have e : y = x := by simpa using hy
                rw [e]
                exact k3 h
            · by_cases hlt2 : k < v.f.length
              · have hlf : lf < 0 := by omega
                (repeat' first | simp (disch := omega) only [go_sem, List.length_map] | ((first | refine wantDf ?_ ?_ | refine wantDt ?_ ?_ | refine wantEf ?_ ?_ | refine wantEt ?_ ?_ | refine wantNf ?_ ?_ | refine wantNt ?_ ?_ | refine wantNBf ?_ ?_ | refine wantNBt ?_ ?_ | refine wantBf ?_ ?_ | refine wantBt ?_ ?_ | refine boolD ?_ ?_ | refine boolE ?_ ?_ | refine boolN ?_ ?_ | refine boolNB ?_ ?_ | refine boolB ?_ ?_) <;> intro h <;> try simp (disch := omega) only [go_sem, List.length_map, h]))
                exact ⟨_, rfl, by omega, by omega, fun h => by omega⟩
              · rw [take_len hlt2 hk] at hs5
                (repeat' first | simp (disch := omega) only [go_sem, List.length_map] | ((first | refine wantDf ?_ ?_ | refine wantDt ?_ ?_ | refine wantEf ?_ ?_ | refine wantEt ?_ ?_ | refine wantNf ?_ ?_ | refine wantNt ?_ ?_ | refine wantNBf ?_ ?_ | refine wantNBt ?_ ?_ | refine wantBf ?_ ?_ | refine wantBt ?_ ?_ | refine boolD ?_ ?_ | refine boolE ?_ ?_ | refine boolN ?_ ?_ | refine boolNB ?_ ?_ | refine boolB ?_ ?_) <;> intro h <;> try simp (disch := omega) only [go_sem, List.length_map, h]))
                exact ⟨_, rfl, by omega, by omega, fun h => .mk (by omega) (by omega) (hs5 h).1 (hs5 h).2⟩
      · (repeat' first | simp (disch := omega) only [go_sem, ac38, enter, List.length_map] | ((first | refine wantDf ?_ ?_ | refine wantDt ?_ ?_ | refine wantEf ?_ ?_ | refine wantEt ?_ ?_ | refine wantNf ?_ ?_ | refine wantNt ?_ ?_ | refine wantNBf ?_ ?_ | refine wantNBt ?_ ?_ | refine wantBf ?_ ?_ | refine wantBt ?_ ?_ | refine boolD ?_ ?_ | refine boolE ?_ ?_ | refine boolN ?_ ?_ | refine boolNB ?_ ?_ | refine boolB ?_ ?_) <;> intro h <;> try simp (disch := omega) only [go_sem, ac38, enter, List.length_map, h]))
        all_goals first | omega | exact ⟨_, rfl, by omega, by omega, fun h => by omega⟩)
    obtain ⟨w, k1, r, rfl, k2, k3, k4⟩ := h
    exact ⟨r, k1, k2, k3, k4⟩
theorem small_few (v : V) (hv : v.bulk ≤ 2 ^ 24) (N : Nat) (hN : N < 2 ^ 30) (d : Int) (h3 : -1 ≤ d) (h4 : d < 2 ^ 30) : ∃ b, PRun C0 18 [encV v, .int .i64 N, .int .i64 d] (.bool b) ∧ (b = true → Few N v) := by
  obtain ⟨r, k1, _, _, k2⟩ := room_few N hN _ v (Nat.le_refl _) hv N d (by omega) (by omega) h3 h4
  rw [encV_eq] at k1 ⊢
  refine ⟨decide (r ≥ 0), prun_of ac18 rfl ?_, fun h => k2 (by simpa using h)⟩
  (repeat' first | simp (disch := omega) only [go_sem, ac18, enter] | refine pure_of _ (k1) ?_ | ((first | refine wantDf ?_ ?_ | refine wantDt ?_ ?_ | refine wantEf ?_ ?_ | refine wantEt ?_ ?_ | refine wantNf ?_ ?_ | refine wantNt ?_ ?_ | refine wantNBf ?_ ?_ | refine wantNBt ?_ ?_ | refine wantBf ?_ ?_ | refine wantBt ?_ ?_ | refine boolD ?_ ?_ | refine boolE ?_ ?_ | refine boolN ?_ ?_ | refine boolNB ?_ ?_ | refine boolB ?_ ?_) <;> intro h <;> try simp (disch := omega) only [go_sem, ac18, enter , h]))
/-- The law's valid. -/
theorem lawValid_run (v : V) (hv : v.bulk ≤ 2 ^ 24) : ∃ b, PRun C0 6 [encV v] (.bool b) ∧ (b = true → Gd 48 v ∧ Few 150 v) := by
  obtain ⟨b, h1, h1'⟩ := small_few v hv 150 (by omega) 60 (by omega) (by omega)
  have h2 := check_run v hv
  have h1 : PRun C0 18 [encV v, .int .i64 150, .int .i64 60] (.bool b) := h1
  cases b with
  | false =>
    refine ⟨false, prun_of ac6 rfl ?_, fun h => by cases h⟩
    rw [encV_eq] at h1 ⊢
    (repeat' first | simp (disch := omega) only [go_sem, ac6, enter] | refine pure_of _ (h1) ?_ | ((first | refine wantDf ?_ ?_ | refine wantDt ?_ ?_ | refine wantEf ?_ ?_ | refine wantEt ?_ ?_ | refine wantNf ?_ ?_ | refine wantNt ?_ ?_ | refine wantNBf ?_ ?_ | refine wantNBt ?_ ?_ | refine wantBf ?_ ?_ | refine wantBt ?_ ?_ | refine boolD ?_ ?_ | refine boolE ?_ ?_ | refine boolN ?_ ?_ | refine boolNB ?_ ?_ | refine boolB ?_ ?_) <;> intro h <;> try simp (disch := omega) only [go_sem, ac6, enter , h]))
  | true =>
    refine ⟨checkM v == 0, prun_of ac6 rfl ?_, fun h => ⟨check_gd (by simpa using h), h1' rfl⟩⟩
    rw [encV_eq] at h1 h2 ⊢
    (repeat' first | simp (disch := omega) only [go_sem, ac6, enter] | refine pure_of _ (h1) ?_ | refine pure_of _ (h2) ?_ | ((first | refine wantDf ?_ ?_ | refine wantDt ?_ ?_ | refine wantEf ?_ ?_ | refine wantEt ?_ ?_ | refine wantNf ?_ ?_ | refine wantNt ?_ ?_ | refine wantNBf ?_ ?_ | refine wantNBt ?_ ?_ | refine wantBf ?_ ?_ | refine wantBt ?_ ?_ | refine boolD ?_ ?_ | refine boolE ?_ ?_ | refine boolN ?_ ?_ | refine boolNB ?_ ?_ | refine boolB ?_ ?_) <;> intro h <;> try simp (disch := omega) only [go_sem, ac6, enter , h]))
end Ago
/- The reference's put, whole; how large what is put becomes. -/
set_option maxRecDepth 100000
set_option maxHeartbeats 4000000
namespace Ago
open Go (IntKind)
theorem Few.list {N : Nat} {v : V} (h : Few N v) : Few N (listV v.l) := by
  cases h with
  | mk hl hf hk hkf => exact .mk hl (by simp [listV, V.f]) hk fun x hx => by simp [listV, V.f] at hx
theorem Few.map {N : Nat} {v : V} (h : Few N v) : Few N (mapV v.f) := by
  cases h with
  | mk hl hf hk hkf => exact .mk (by simp [mapV, V.l]) hf (fun x hx => by simp [mapV, V.l] at hx) hkf
theorem Few.len {N : Nat} {v : V} (h : Few N v) : v.l.length ≤ N := by
  cases h with
  | mk hl hf hk hkf => exact hl
/-! ### How large -/

theorem bulks_set : ∀ {l : List AV} {i : Nat} {x y : AV}, l[i]? = some x → AV.bulks (l.set i y) + x.bulk = AV.bulks l + y.bulk
  | [], i, x, y, h => by simp at h
  | z :: l, 0, x, y, h => by
    simp at h
    subst h
    simp [AV.bulks]
    omega
  | z :: l, i + 1, x, y, h => by
    have := bulks_set (l := l) (i := i) (x := x) (y := y) (by simpa using h)
    simp [AV.bulks]
    omega
theorem bulk_listV (l : List V) : (listV l).bulk = AV.bulks (l.map encV) + 14 := by
  rw [V.bulk_eq]
  simp [listV, V.s, V.l, V.f, encB, AV.bulks]
theorem bulk_mapV (f : List (List UInt8 × V)) : (mapV f).bulk = AV.bulks (f.map encFd) + 14 := by
  rw [V.bulk_eq]
  simp [mapV, V.s, V.l, V.f, encB, AV.bulks]
theorem bulk_fd (x : List UInt8 × V) : (encFd x).bulk = x.2.bulk + x.1.length + 1 := by
  unfold V.bulk encFd
  rw [encV_eq]
  simp [AV.bulk, AV.bulks, AV.cells]
  omega
end Ago
/- Put, and the reference's Put. -/
set_option maxRecDepth 100000
set_option maxHeartbeats 4000000
namespace Ago
open Go (IntKind)
end Ago
/- What is put is what is read; putting it again changes nothing. -/
namespace Ago
end Ago
