/- The laws QpathPuts, QpathFar, QpathPutGet: their runs. -/
import Derived.Test.YtglnglflcoeinaaGreatDoorRunI
import Derived.Test.YtglnglflcoeinaaGreatDoorRunL
set_option linter.unusedSimpArgs false
set_option linter.unusedVariables false
set_option maxRecDepth 100000
set_option maxHeartbeats 4000000
namespace Ago
open Go (IntKind)
theorem near_facts {p : List Stp} (h : nearM p = true) : p.length ≤ 48 ∧ (∀ s, s ∈ p → stpIn s) ∧ ∀ s, s ∈ p → 0 ≤ s.index ∧ s.index ≤ (200 : Nat) ∧ s.key.length ≤ 1024 := by
  unfold nearM pathOk at h
  simp only [Bool.and_eq_true, decide_eq_true_eq, List.all_eq_true] at h
  obtain ⟨⟨h1, h2⟩, h3⟩ := h
  have key : ∀ s, s ∈ p → 0 ≤ s.index ∧ s.index ≤ 200 ∧ s.key.length ≤ 1024 := fun s hs => by
    have ho := h2 s hs
    have h200 := h3 s hs
    unfold stpOk at ho
    split at ho
    · simp only [Bool.and_eq_true, decide_eq_true_eq, beq_iff_eq] at ho
      refine ⟨ho.1.2, by omega, ?_⟩
      rw [ho.1.1]
      simp
    · simp only [Bool.and_eq_true, decide_eq_true_eq, beq_iff_eq] at ho
      exact ⟨by omega, by omega, ho.1.2⟩
  exact ⟨h1, fun s hs _ => by have := key s hs; omega, fun s hs => by have := key s hs; omega⟩
theorem Few.mono {N : Nat} {v : V} (h : Few N v) : ∀ {M : Nat}, N ≤ M → Few M v := by
  induction h with
  | mk hl hf _ _ ih1 ih2 => exact fun hM => .mk (by omega) (by omega) (fun x hx => ih1 x hx hM) fun x hx => ih2 x hx hM
end Ago
/- Modify, the plain part: how values grow when they are changed. -/
set_option maxRecDepth 100000
namespace Ago
open Go (IntKind)
theorem bulk_14 (v : V) : 14 ≤ v.bulk := by rw [V.bulk_eq]; omega
theorem getM_sub : ∀ (p : List Stp) (v : V) (n : Nat), n ≤ 100 → Gd n v → v.bulk ≤ 2 ^ 24 → ∃ m, m ≤ n ∧ Gd m (getM v p).1
  | [], v, n, _, hg, _ => ⟨n, Nat.le_refl _, hg⟩
  | s :: p, v, n, hn, hg, hv => by
    unfold getM
    split
    · exact getM_sub p v n hn hg hv
    · split
      · cases n with
        | zero => cases hg
        | succ n => exact ⟨1, by omega, nullV_gd 0⟩
      · rename_i hf
        cases n with
        | zero => cases hg
        | succ n =>
          obtain ⟨⟨m, h1, h2⟩, h3⟩ := part_gd hg hv (by simpa using hf)
          have hn24 : nullV.bulk ≤ 2 ^ 24 := nullV_bulk
          obtain ⟨k, h4, h5⟩ := getM_sub p (partM v s) m (by omega) h2 (by omega)
          exact ⟨k, by omega, h5⟩
theorem getM_few {N : Nat} : ∀ (p : List Stp) (v : V), Few N v → Few N (getM v p).1
  | [], v, h => h
  | s :: p, v, h => by
    unfold getM
    split
    · exact getM_few p v h
    · split
      · exact nullV_few N
      · exact getM_few p _ (part_few h)
theorem part_bulk {n : Nat} {v : V} {s : Stp} (hn : n ≤ 100) (hg : Gd n v) (hv : v.bulk ≤ 2 ^ 24) (hf : fitsM v s = true) : (partM v s).bulk ≤ v.bulk := by
  cases n with
  | zero => cases hg
  | succ n =>
    have := (part_gd hg hv hf).2
    have h1 := bulk_14 v
    rw [bulk_null] at this
    omega
theorem getM_bulk : ∀ (p : List Stp) (v : V) (n : Nat), n ≤ 100 → Gd n v → v.bulk ≤ 2 ^ 24 → (getM v p).1.bulk ≤ v.bulk
  | [], v, n, _, _, _ => Nat.le_refl _
  | s :: p, v, n, hn, hg, hv => by
    unfold getM
    split
    · exact getM_bulk p v n hn hg hv
    · split
      · show nullV.bulk ≤ _
        rw [bulk_null]
        exact bulk_14 v
      · rename_i hf
        have hf' : fitsM v s = true := by simpa using hf
        have h1 := part_bulk hn hg hv hf'
        obtain ⟨⟨m, h2, h3⟩, h4⟩ := part_sub hn hg hv hf'
        exact Nat.le_trans (getM_bulk p _ m h2 h3 h4) h1
/-- What is put takes the place of what was there. -/
theorem putM_bulk2 {I K : Nat} : ∀ (p : List Stp) (v x : V) (n : Nat), n ≤ 100 → Gd n v → v.bulk ≤ 2 ^ 24 → (∀ s, s ∈ p → 0 ≤ s.index ∧ s.index ≤ I ∧ s.key.length ≤ K) → (putM p v x).1.bulk + (getM v p).1.bulk ≤ v.bulk + x.bulk + p.length * ((I + 1) * 15 + K + 60)
  | [], v, x, n, _, _, _, h => by
    show x.bulk + v.bulk ≤ _
    omega
  | s :: p, v, x, n, hn, hg, hv, h => by
    obtain ⟨h1, h2, h3⟩ := h s (by simp)
    have ih := fun (w : V) (m : Nat) h1 h2 h3 => putM_bulk2 p w x m h1 h2 h3 fun t ht => h t (by simp [ht])
    have hnull := bulk_null
    have hgb := getM_bulk (s :: p) v n hn hg hv
    have hx14 := bulk_14 x
    have hv14 := bulk_14 v
    have hi : (s.index.toNat + 1) * 15 ≤ (I + 1) * 15 := Nat.mul_le_mul_right _ (by omega)
    have hlen : (s :: p).length * ((I + 1) * 15 + K + 60) = p.length * ((I + 1) * 15 + K + 60) + ((I + 1) * 15 + K + 60) := by rw [List.length_cons, Nat.add_mul, Nat.one_mul]
    obtain ⟨k0, k6, k7⟩ := own_shape hg.own
    rw [hlen, putM_cons]
    split
    · rename_i hb
      split
      · rename_i hk
        have hL : Gd n (listV v.l) ∧ (listV v.l).bulk ≤ v.bulk := by
          rcases hk with hk | hk
          · rw [k0 hk] at hg ⊢
            refine ⟨(as_list hg (.inl (by rw [k0 hk] at hk; exact hk))).1, ?_⟩
            rw [bulk_listV, bulk_null]
            simp [nullV, V.l, AV.bulks]
          · rw [← k6 hk]
            exact ⟨hg, Nat.le_refl _⟩
        have hfit : fitsM (listV v.l) s = true := by simp [fitsM, hb, listV, V.s]
        have e : partM (listV v.l) s = (v.l[s.index.toNat]?).getD nullV := by
          unfold partM
          rw [if_pos hb, if_pos h1]
          rfl
        have hgm : (getM v (s :: p)).1.bulk ≤ (getM (partM (listV v.l) s) p).1.bulk := by
          rcases hk with hk | hk
          · have e0 := k0 hk
            have hl0 : v.l = [] := by rw [e0]; rfl
            rw [getM_null _ v hk, e, hl0]
            simp only [List.getElem?_nil, Option.getD_none]
            rw [getM_null p nullV rfl, e0]
            exact Nat.le_refl _
          · rw [getM, if_neg (by omega), if_neg (by simp [fitsM, hb, hk])]
            have : partM v s = partM (listV v.l) s := congrArg (partM · s) (k6 hk)
            rw [this]
            exact Nat.le_refl _
        obtain ⟨⟨m, m1, m2⟩, m3⟩ := part_sub hn hL.1 (Nat.le_trans hL.2 hv) hfit
        have := ih _ m m1 m2 m3
        rw [e] at this hgm ⊢
        split
        · show nullV.bulk + _ ≤ _
          omega
        · split
          · show nullV.bulk + _ ≤ _
            omega
          · have h5 := putL_bulk v.l s.index.toNat (putM p ((v.l[s.index.toNat]?).getD nullV) x).1
            show (listV _).bulk + _ ≤ _
            omega
      · show nullV.bulk + _ ≤ _
        omega
    · rename_i hb
      split
      · rename_i hk
        have hL : Gd n (mapV v.f) ∧ (mapV v.f).bulk ≤ v.bulk := by
          rcases hk with hk | hk
          · rw [k0 hk] at hg ⊢
            refine ⟨(as_map hg (.inl (by rw [k0 hk] at hk; exact hk))).1, ?_⟩
            rw [bulk_mapV, bulk_null]
            simp [nullV, V.f, AV.bulks]
          · rw [← k7 hk]
            exact ⟨hg, Nat.le_refl _⟩
        have hfit : fitsM (mapV v.f) s = true := by simp [fitsM, hb, mapV, V.s]
        have e : partM (mapV v.f) s = (fieldM v.f s.key).getD nullV := by
          unfold partM
          rw [if_neg hb]
          rfl
        have hgm : (getM v (s :: p)).1.bulk ≤ (getM (partM (mapV v.f) s) p).1.bulk := by
          rcases hk with hk | hk
          · have e0 := k0 hk
            have hl0 : v.f = [] := by rw [e0]; rfl
            rw [getM_null _ v hk, e, hl0]
            show _ ≤ (getM nullV p).1.bulk
            rw [getM_null p nullV rfl, e0]
            exact Nat.le_refl _
          · rw [getM, if_neg (by omega), if_neg (by simp [fitsM, hb, hk])]
            have : partM v s = partM (mapV v.f) s := congrArg (partM · s) (k7 hk)
            rw [this]
            exact Nat.le_refl _
        obtain ⟨⟨m, m1, m2⟩, m3⟩ := part_sub hn hL.1 (Nat.le_trans hL.2 hv) hfit
        have := ih _ m m1 m2 m3
        rw [e] at this hgm ⊢
        split
        · show nullV.bulk + _ ≤ _
          omega
        · have h5 := putF_bulk v.f s.key (putM p ((fieldM v.f s.key).getD nullV) x).1
          show (mapV _).bulk + _ ≤ _
          omega
      · show nullV.bulk + _ ≤ _
        omega
theorem putL_few {N : Nat} {l : List V} {i : Nat} {y : V} (hN : i < N) (hl : l.length ≤ N) (hk : ∀ x, x ∈ l → Few N x) (hy : Few N y) : Few N (listV (putL l i y)) := by
  refine .mk ?_ (by simp [listV, V.f]) (fun x hx => ?_) fun x hx => by simp [listV, V.f] at hx
  · show (putL l i y).length ≤ N
    unfold putL
    rw [List.length_set, List.length_append, List.length_replicate]
    omega
  · have hx : x ∈ putL l i y := hx
    unfold putL at hx
    rcases List.mem_or_eq_of_mem_set hx with h | rfl
    · rcases List.mem_append.1 h with h | h
      · exact hk x h
      · rw [(List.mem_replicate.1 h).2]
        exact nullV_few N
    · exact hy
theorem putF_few {N : Nat} {f : List (List UInt8 × V)} {key : List UInt8} {y : V} (hl : f.length < N) (hk : ∀ x, x ∈ f → Few N x.2) (hy : Few N y) : Few N (mapV (putF f key y)) := by
  refine .mk (by simp [mapV, V.l]) ?_ (fun x hx => by simp [mapV, V.l] at hx) fun x hx => ?_
  · show (putF f key y).length ≤ N
    unfold putF
    split
    · rw [List.length_set]; omega
    · simp; omega
  · have hx : x ∈ putF f key y := hx
    unfold putF at hx
    split at hx
    · rcases List.mem_or_eq_of_mem_set hx with h | rfl
      · exact hk x h
      · exact hy
    · rcases List.mem_append.1 hx with h | h
      · exact hk x h
      · rw [List.mem_singleton.1 h]
        exact hy
theorem putM_few {N : Nat} (hN : 201 < N) : ∀ (p : List Stp) (v x : V), Few N v → Few N x → (∀ s, s ∈ p → 0 ≤ s.index ∧ s.index ≤ 200) → Few (N + 1) (putM p v x).1
  | [], v, x, _, hx, _ => hx.mono (by omega)
  | s :: p, v, x, hv, hx, h => by
    obtain ⟨h1, h2⟩ := h s (by simp)
    have ih := fun w hw => putM_few hN p w x hw hx fun t ht => h t (by simp [ht])
    have hv1 := hv.mono (M := N + 1) (by omega)
    rw [putM_cons]
    split
    · split
      · have := ih _ (part_few (s := s) hv.list)
        split
        · exact nullV_few _
        · split
          · exact nullV_few _
          · cases hv1 with
            | mk a b c d => exact putL_few (by omega) a c this
      · exact nullV_few _
    · split
      · have := ih _ (part_few (s := s) hv.map)
        split
        · exact nullV_few _
        · cases hv with
          | mk a b c d => exact putF_few (by omega) (fun x hx => (d x hx).mono (by omega)) this
      · exact nullV_few _
/-- The reference's Turn. -/
def stopS : List UInt8 := [115, 116, 111, 112]
def newV : V := .mk ⟨4, false, ⟨false, [], 0⟩, ⟨0, 0, 0, 0⟩, [110, 101, 119], []⟩ [] []
def turnM (x : V) : V × Bool × Int :=
  if x.s.kind = 1 then (nullV, false, 0) else if x.s.kind = 4 ∧ x.s.text = stopS then (nullV, false, 19) else if x.s.kind = 0 then (newV, true, 0) else (listV [x], true, 0)
theorem newV_enc : encV newV = .agg [.int .i64 4, .bool false, .bool false, .str [], .int .i64 0, .int .i64 0, .int .i64 0, .int .i64 0, .int .i64 0, .str [110, 101, 119], .tsl 1 [], .tsl 13 [], .tsl 14 []] := by
  rw [encV_eq]
  rfl
theorem newV_bulk : newV.bulk ≤ 30 := by
  unfold V.bulk
  rw [newV_enc]
  decide
theorem newV_gd : Gd 1 newV := .mk (by decide) fun x hx => by simp [V.kids, newV, V.s, V.l] at hx
theorem newV_few (N : Nat) : Few N newV := .mk (by simp [newV, V.l]) (by simp [newV, V.f]) (fun x hx => by simp [newV, V.l] at hx) fun x hx => by simp [newV, V.f] at hx
theorem turn_bulk (x : V) : (turnM x).1.bulk ≤ x.bulk + 30 := by
  have h14 := bulk_14 x
  have hn := bulk_null
  unfold turnM
  split
  · show nullV.bulk ≤ _; omega
  · split
    · show nullV.bulk ≤ _; omega
    · split
      · have := newV_bulk
        show newV.bulk ≤ _; omega
      · show (listV [x]).bulk ≤ _
        rw [bulk_listV]
        simp only [List.map_cons, List.map_nil, AV.bulks]
        have : (encV x).bulk = x.bulk := rfl
        omega
theorem turn_gd {x : V} {n : Nat} (h : Gd n x) : ∃ m, m ≤ n + 1 ∧ Gd m (turnM x).1 := by
  unfold turnM
  split
  · exact ⟨1, by omega, nullV_gd 0⟩
  · split
    · exact ⟨1, by omega, nullV_gd 0⟩
    · split
      · exact ⟨1, by omega, newV_gd⟩
      · exact ⟨n + 1, Nat.le_refl _, listV_gd fun y hy => by rw [List.mem_singleton.1 hy]; exact h⟩
theorem turn_few {x : V} {N : Nat} (hN : 1 ≤ N) (h : Few N x) : Few N (turnM x).1 := by
  unfold turnM
  split
  · exact nullV_few N
  · split
    · exact nullV_few N
    · split
      · exact newV_few N
      · refine .mk (by simp [listV, V.l]; exact hN) (by simp [listV, V.f]) (fun y hy => ?_) fun y hy => by simp [listV, V.f] at hy
        rw [List.mem_singleton.1 (show y ∈ [x] from hy)]
        exact h
/-- Modify with the reference's Turn. -/
noncomputable def modM : V → List (List Stp) → List (List Stp) → V × Int
  | v, [], gone => delM v gone
  | v, p :: r, gone =>
    if (getM v p).2 ≠ 0 then (nullV, (getM v p).2)
    else if (turnM (getM v p).1).2.2 ≠ 0 then (nullV, (turnM (getM v p).1).2.2)
    else if (turnM (getM v p).1).2.1 = false then modM v r (gone ++ [p])
    else if (putC p v (turnM (getM v p).1).1).2 ≠ 0 then (nullV, (putC p v (turnM (getM v p).1).1).2)
    else modM (putC p v (turnM (getM v p).1).1).1 r gone
/-- What holds of the value behind k changes. -/
structure Mod (k : Nat) (v : V) : Prop where
  gd : ∃ n, n ≤ 48 + k ∧ Gd n v
  bulk : v.bulk ≤ 2 ^ 20 + k * 210000
  few : Few (202 + k) v
theorem Mod.mono {k m : Nat} {v : V} (h : Mod k v) (hk : k ≤ m) : Mod m v := by
  obtain ⟨⟨n, h1, h2⟩, h3, h4⟩ := h
  refine ⟨⟨n, by omega, h2⟩, Nat.le_trans h3 (Nat.add_le_add_left (Nat.mul_le_mul_right _ hk) _), h4.mono (by omega)⟩
theorem Mod.fine {k : Nat} {v : V} (h : Mod k v) (hk : k ≤ 20) : Fine v ∧ (∃ n, n ≤ 100 ∧ Gd n v) ∧ v.bulk ≤ 2 ^ 24 ∧ Few 65536 v := by
  obtain ⟨⟨n, h1, h2⟩, h3, h4⟩ := h
  exact ⟨⟨⟨n, by omega, h2.good⟩, by omega⟩, ⟨n, by omega, h2⟩, by omega, h4.mono (by omega)⟩
theorem Mod.turn {k : Nat} {v : V} (h : Mod k v) (hk : k ≤ 20) (p : List Stp) : (∃ m, m ≤ 100 ∧ Gd m (turnM (getM v p).1).1) ∧ (turnM (getM v p).1).1.bulk ≤ 2 ^ 23 := by
  obtain ⟨⟨n, h1, h2⟩, h3, h4⟩ := h
  obtain ⟨m, m1, m2⟩ := getM_sub p v n (by omega) h2 (by omega)
  have hb := getM_bulk p v n (by omega) h2 (by omega)
  obtain ⟨j, j1, j2⟩ := turn_gd m2
  have := turn_bulk (getM v p).1
  exact ⟨⟨j, by omega, j2⟩, by omega⟩
theorem Mod.put {k : Nat} {v : V} (h : Mod k v) (hk : k < 20) {p : List Stp} (hp : nearM p = true) : (putM p v (turnM (getM v p).1).1).1.bulk ≤ 2 ^ 24 ∧ ((putC p v (turnM (getM v p).1).1).2 = 0 → Mod (k + 1) (putC p v (turnM (getM v p).1).1).1) := by
  obtain ⟨⟨n, h1, h2⟩, h3, h4⟩ := h
  obtain ⟨p1, p2, p3⟩ := near_facts hp
  obtain ⟨m, m1, m2⟩ := getM_sub p v n (by omega) h2 (by omega)
  obtain ⟨j, j1, j2⟩ := turn_gd m2
  have hb := getM_bulk p v n (by omega) h2 (by omega)
  have ht := turn_bulk (getM v p).1
  have hpb := putM_bulk2 (I := 200) (K := 1024) p v (turnM (getM v p).1).1 n (by omega) h2 (by omega) p3
  have hlen : p.length * ((200 + 1) * 15 + 1024 + 60) ≤ 48 * 4099 := Nat.mul_le_mul p1 (by omega)
  have hf := putM_few (N := 202 + k) (by omega) p v _ h4 (turn_few (by omega) (getM_few p v h4)) fun s hs => ⟨(p3 s hs).1, (p3 s hs).2.1⟩
  generalize turnM (getM v p).1 = T at *
  have hkb : (k + 1) * 210000 = k * 210000 + 210000 := by omega
  refine ⟨by omega, fun he => ?_⟩
  by_cases h0 : p = []
  · subst h0
    refine ⟨⟨j, by omega, j2⟩, ?_, hf⟩
    show T.1.bulk ≤ _
    have : (getM v []).1 = v := rfl
    rw [this] at ht
    omega
  · rcases putC_cases h0 v T.1 with ⟨e1, e2⟩ | ⟨e1, e2, e3⟩ | ⟨e1, e2, e3⟩
    · rw [e2] at he
      exact (e1 he).elim
    · rw [e3] at he
      exact (e2 he).elim
    · rw [e3]
      refine ⟨⟨48, by omega, check_gd e2⟩, ?_, hf⟩
      show (putM p v T.1).1.bulk ≤ _
      omega
end Ago
/- Turn; Modify and the reference's Modify. -/
set_option maxRecDepth 100000
set_option maxHeartbeats 4000000
namespace Ago
open Go (IntKind)
theorem turn_run (x : V) : PRun C0 178 [encV x] (.tup [encV (turnM x).1, .bool (turnM x).2.1, .int .i64 (turnM x).2.2]) := by
  refine prun_of ac178 rfl ?_
  unfold turnM
  by_cases h1 : x.s.kind = 1
  · rw [if_pos h1, nullV_enc, encV_eq x]
    (repeat' first | simp (disch := omega) only [go_sem, ac178, enter, zeroS] | ((apply spl) <;> intro h <;> try simp (disch := omega) only [go_sem, ac178, enter, zeroS, h]))
  · rw [if_neg h1]
    by_cases h0 : x.s.kind = 0
    · rw [if_neg (by omega), if_pos h0]
      rw [newV_enc]
      rw [encV_eq x]
      (repeat' first | simp (disch := omega) only [go_sem, ac178, enter, zeroS] | ((apply spl) <;> intro h <;> try simp (disch := omega) only [go_sem, ac178, enter, zeroS, h]))
    · by_cases h4 : x.s.kind = 4
      · by_cases ht : x.s.text = stopS
        · have he : (x.s.text == [115, 116, 111, 112]) = true := by rw [ht]; rfl
          rw [if_pos ⟨h4, ht⟩]
          rw [nullV_enc]
          rw [encV_eq x]
          (repeat' first | simp (disch := omega) only [go_sem, ac178, enter, zeroS, he] | ((apply spl) <;> intro h <;> try simp (disch := omega) only [go_sem, ac178, enter, zeroS, he, h]))
        · have he : (x.s.text == [115, 116, 111, 112]) = false := by
            rw [beq_eq_false_iff_ne]
            exact ht
          rw [if_neg (fun h => ht h.2), if_neg h0]
          rw [listV_enc, List.map_cons, List.map_nil]
          rw [encV_eq x]
          (repeat' first | simp (disch := omega) only [go_sem, ac178, enter, zeroS, he] | ((apply spl) <;> intro h <;> try simp (disch := omega) only [go_sem, ac178, enter, zeroS, he, h]))
      · rw [if_neg (fun h => h4 h.1), if_neg h0]
        rw [listV_enc, List.map_cons, List.map_nil]
        rw [encV_eq x]
        (repeat' first | simp (disch := omega) only [go_sem, ac178, enter, zeroS] | ((apply spl) <;> intro h <;> try simp (disch := omega) only [go_sem, ac178, enter, zeroS, h]))
def modH (a b : AV) : List AV → Heap
  | [] => [.row 13 [a] false true 0, .row 13 [zeroS] false true 1, .row 13 [b] false true 2]
  | z :: l => [.row 13 [a] false true 0, .row 13 [zeroS] false true 1, .row 1 (z :: l) false true 2, .row 13 [b] false true 3]
theorem turnC_run (x : V) (a b : AV) (l : List AV) : RunOf C1 176 [encV x] (modH a b l) (.tup [encV (turnM x).1, .bool (turnM x).2.1, .int .i64 (turnM x).2.2]) (modH a b l) := by
  have h := up1 (turn_run x)
  generalize turnM x = T at h ⊢
  rw [encV_eq x, encV_eq T.1] at h
  rw [encV_eq x, encV_eq T.1]
  cases l with
  | nil =>
    refine runR_of ac176 rfl ?_
    unfold modH
    (repeat' first | simp (disch := omega) only [go_sem, ac176, enter, zeroS] | refine pure_of _ (h) ?_ | ((apply spl) <;> intro h <;> try simp (disch := omega) only [go_sem, ac176, enter, zeroS , h]))
    exact postR_of (.inr rfl) (.tup [.agg [.int .i64 T.1.s.kind, .bool T.1.s.bool, .bool T.1.s.num.neg, .str T.1.s.num.digits, .int .i64 T.1.s.num.exp, .int .i64 T.1.s.time.kind, .int .i64 T.1.s.time.day, .int .i64 T.1.s.time.nano, .int .i64 T.1.s.time.off, .str T.1.s.text, .tsl 1 (encB T.1.s.bytes), .tsl 13 (T.1.l.map encV), .tsl 14 (T.1.f.map encFd)], .bool T.2.1, .int .i64 T.2.2]) rfl rfl rfl
  | cons z l =>
    refine runR_of ac176 rfl ?_
    unfold modH
    (repeat' first | simp (disch := omega) only [go_sem, ac176, enter, zeroS] | refine pure_of _ (h) ?_ | ((apply spl) <;> intro h <;> try simp (disch := omega) only [go_sem, ac176, enter, zeroS , h]))
    exact postR_of (.inr rfl) (.tup [.agg [.int .i64 T.1.s.kind, .bool T.1.s.bool, .bool T.1.s.num.neg, .str T.1.s.num.digits, .int .i64 T.1.s.num.exp, .int .i64 T.1.s.time.kind, .int .i64 T.1.s.time.day, .int .i64 T.1.s.time.nano, .int .i64 T.1.s.time.off, .str T.1.s.text, .tsl 1 (encB T.1.s.bytes), .tsl 13 (T.1.l.map encV), .tsl 14 (T.1.f.map encFd)], .bool T.2.1, .int .i64 T.2.2]) rfl rfl rfl
/-- What is read where nothing was made: at every depth Delete's answer is small. -/
theorem delM_bulk2 (v : V) (l : List (List Stp)) {n : Nat} (hn : n ≤ 100) (hg : Gd n v) (hv : v.bulk ≤ 2 ^ 24) : (delM v l).1.bulk ≤ 2 ^ 24 := delM_bulk v l (hg.mono hn) hv
theorem map_rev {l : List (List Stp)} {els : List AV} (h : els = l.map encP) (p : List Stp) : els ++ [encP p] = (l ++ [p]).map encP := by rw [h]; simp
theorem modify_run (v0 : V) (l : List (List Stp)) (hmod0 : Mod 0 v0) (hl : l.length ≤ 20) (hnear : ∀ p, p ∈ l → nearM p = true) :
    PRun C1 175 [encV v0, encPs l, .fn 176 []] (.tup [encV (modM v0 l []).1, .int .i64 (modM v0 l []).2]) := by
  have hq : ∀ q, q ∈ l → q.length < 2 ^ 30 ∧ ∀ s, s ∈ q → s.key.length < 2 ^ 30 := fun q hq' => by
    obtain ⟨p1, p2, p3⟩ := near_facts (hnear q hq')
    exact ⟨by omega, fun s hs => by have := (p3 s hs).2.2; omega⟩
  refine prun_of ac175 rfl ?_
  unfold encPs at *
  have hv0 := encV_eq v0
  rw [encV_eq v0]
  (repeat' first | simp (disch := omega) only [go_sem, ac175, enter, List.length_map] | ((apply spl) <;> intro h <;> try simp (disch := omega) only [go_sem, ac175, enter, List.length_map, h]))
  refine loop_of (α := Nat × V × List AV × List (List Stp)) (fun a => { tmps := slots 65 [(2, .fn 176 []), (3, .ptr 13 0 0 0), (6, .ptr 13 1 0 0), (8, thS a.2.2.1), (15, .tsl 1 (l.map encP)), (16, .int .i64 l.length), (17, .int .i64 a.1)], heap := [.row 13 [encV a.2.1] false true 0, .row 13 [zeroS] false true 1] ++ rowT a.2.2.1, base := 0 })
    (fun a => a.1 ≤ l.length ∧ modM v0 l [] = modM a.2.1 (l.drop a.1) a.2.2.2 ∧ a.2.2.1 = a.2.2.2.map encP ∧ a.2.2.2.length ≤ a.1 ∧ (∀ q, q ∈ a.2.2.2 → q ∈ l) ∧ Mod a.1 a.2.1) (fun a => l.length - a.1) (0, v0, [], []) (by rw [hv0]; rfl) ⟨Nat.zero_le _, rfl, rfl, Nat.le_refl _, by simp, hmod0⟩ ?_
  rintro ⟨k, v, els, gone⟩ ⟨hk, hm, hels, hgk, hgl, hmod⟩
  simp only at hk hm hels hgk hgl hmod
  have hve := encV_eq v
  rw [hve]
  have hfi := hmod.fine (by omega)
  have hle : els.length ≤ k := by rw [hels, List.length_map]; exact hgk
  by_cases hlt : k < l.length
  · obtain ⟨p, hx⟩ := get_some hlt
    have hpm := List.mem_of_getElem? hx
    obtain ⟨hp1, _⟩ := hq p hpm
    obtain ⟨_, hp2, _⟩ := near_facts (hnear p hpm)
    have hx2 := map_get (g := encP) hx
    rw [encP_eq] at hx2
    have h13 := up1 (qGet_run v p hfi.1 hp1)
    rw [drop_cons hx] at hm
    have hrev := map_rev hels p
    rw [encP_eq p] at hrev
    have h176 := fun b => turnC_run (getM v p).1 (encV v) b els
    rw [hve] at h176
    cases els with
    | nil =>
      unfold modH at h176
      by_cases he : (getM v p).2 = 0
      · by_cases hf : (turnM (getM v p).1).2.2 = 0
        · cases hkp : (turnM (getM v p).1).2.1 with
          | false =>
            rw [modM, if_neg (by rw [he]; simp), if_neg (by rw [hf]; simp), if_pos hkp] at hm
            rw [he] at h13
            rw [hf, hkp] at h176
            generalize getM v p = G at *
            generalize turnM G.1 = T at *
            rw [hve, encV_eq G.1] at h13
            rw [encV_eq G.1, encV_eq T.1] at h176
            (repeat' first | simp (disch := omega) only [go_sem, hx2, rowT, thS, modH, zeroS, List.length_map] | refine pure_of _ (h13) ?_ | (refine call_of _ _ (h176 _) ?_) | ((apply spl) <;> intro h <;> try simp (disch := omega) only [go_sem, hx2, rowT, thS, modH, zeroS, List.length_map , h]))
            exact ⟨(k + 1, v, _, gone ++ [p]), by first | (rw [hve]; rfl) | (rw [hve]; simp only [List.cons_append, rowT, thS, List.length_append, List.length_cons, List.length_nil]; rfl), ⟨hlt, hm, hrev, by simp; omega, fun q hq' => by
              rcases List.mem_append.1 hq' with hq' | hq'
              · exact hgl q hq'
              · rw [List.mem_singleton.1 hq']; exact hpm, hmod.mono (by omega)⟩, by simp only; omega⟩
          | true =>
            rw [modM, if_neg (by rw [he]; simp), if_neg (by rw [hf]; simp), if_neg (by rw [hkp]; simp)] at hm
            obtain ⟨hpb, hpm2⟩ := hmod.put (by omega) (hnear p hpm)
            obtain ⟨ht1, ht2⟩ := hmod.turn (by omega) p
            have h121 := up1 (qPut_run p v (turnM (getM v p).1).1 hfi.2.1 hfi.2.2.1 ht1 (by omega) hp1 hp2 hpb)
            rw [he] at h13
            rw [hf, hkp] at h176
            by_cases hg2 : (putC p v (turnM (getM v p).1).1).2 = 0
            · rw [if_neg (by rw [hg2]; simp)] at hm
              have hmod2 := hpm2 hg2
              rw [hg2] at h121
              generalize putC p v (turnM (getM v p).1).1 = Z at *
              generalize getM v p = G at *
              generalize turnM G.1 = T at *
              rw [hve, encV_eq G.1] at h13
              rw [encV_eq G.1, encV_eq T.1] at h176
              rw [hve, encV_eq T.1, encV_eq Z.1] at h121
              (repeat' first | simp (disch := omega) only [go_sem, hx2, rowT, thS, modH, zeroS, List.length_map] | refine pure_of _ (h13) ?_ | refine pure_of _ (h121) ?_ | (refine call_of _ _ (h176 _) ?_) | ((apply spl) <;> intro h <;> try simp (disch := omega) only [go_sem, hx2, rowT, thS, modH, zeroS, List.length_map , h]))
              exact ⟨(k + 1, Z.1, _, gone), by rw [encV_eq Z.1]; rfl, ⟨hlt, hm, hels, by simp only; omega, hgl, hmod2⟩, by simp only; omega⟩
            · rw [if_pos hg2] at hm
              rw [hm, nullV_enc]
              generalize putC p v (turnM (getM v p).1).1 = Z at *
              generalize getM v p = G at *
              generalize turnM G.1 = T at *
              rw [hve, encV_eq G.1] at h13
              rw [encV_eq G.1, encV_eq T.1] at h176
              rw [hve, encV_eq T.1, encV_eq Z.1] at h121
              (repeat' first | simp (disch := omega) only [go_sem, hx2, rowT, thS, modH, zeroS, List.length_map] | refine pure_of _ (h13) ?_ | refine pure_of _ (h121) ?_ | (refine call_of _ _ (h176 _) ?_) | ((apply spl) <;> intro h <;> try simp (disch := omega) only [go_sem, hx2, rowT, thS, modH, zeroS, List.length_map , h]))
        · rw [modM, if_neg (by rw [he]; simp), if_pos hf] at hm
          rw [hm, nullV_enc]
          rw [he] at h13
          generalize getM v p = G at *
          generalize turnM G.1 = T at *
          rw [hve, encV_eq G.1] at h13
          rw [encV_eq G.1, encV_eq T.1] at h176
          (repeat' first | simp (disch := omega) only [go_sem, hx2, rowT, thS, modH, zeroS, List.length_map] | refine pure_of _ (h13) ?_ | (refine call_of _ _ (h176 _) ?_) | ((apply spl) <;> intro h <;> try simp (disch := omega) only [go_sem, hx2, rowT, thS, modH, zeroS, List.length_map , h]))
      · rw [modM, if_pos he] at hm
        rw [hm, nullV_enc]
        generalize getM v p = G at *
        rw [hve, encV_eq G.1] at h13
        (repeat' first | simp (disch := omega) only [go_sem, hx2, rowT, thS, modH, zeroS, List.length_map] | refine pure_of _ (h13) ?_ | ((apply spl) <;> intro h <;> try simp (disch := omega) only [go_sem, hx2, rowT, thS, modH, zeroS, List.length_map , h]))
    | cons z els =>
      simp only [List.length_cons] at hle
      unfold modH at h176
      by_cases he : (getM v p).2 = 0
      · by_cases hf : (turnM (getM v p).1).2.2 = 0
        · cases hkp : (turnM (getM v p).1).2.1 with
          | false =>
            rw [modM, if_neg (by rw [he]; simp), if_neg (by rw [hf]; simp), if_pos hkp] at hm
            rw [he] at h13
            rw [hf, hkp] at h176
            generalize getM v p = G at *
            generalize turnM G.1 = T at *
            rw [hve, encV_eq G.1] at h13
            rw [encV_eq G.1, encV_eq T.1] at h176
            (repeat' first | simp (disch := omega) only [go_sem, hx2, rowT, thS, modH, zeroS, List.length_map] | refine pure_of _ (h13) ?_ | (refine call_of _ _ (h176 _) ?_) | ((apply spl) <;> intro h <;> try simp (disch := omega) only [go_sem, hx2, rowT, thS, modH, zeroS, List.length_map , h]))
            exact ⟨(k + 1, v, _, gone ++ [p]), by first | (rw [hve]; rfl) | (rw [hve]; simp only [List.cons_append, rowT, thS, List.length_append, List.length_cons, List.length_nil]; rfl), ⟨hlt, hm, hrev, by simp; omega, fun q hq' => by
              rcases List.mem_append.1 hq' with hq' | hq'
              · exact hgl q hq'
              · rw [List.mem_singleton.1 hq']; exact hpm, hmod.mono (by omega)⟩, by simp only; omega⟩
          | true =>
            rw [modM, if_neg (by rw [he]; simp), if_neg (by rw [hf]; simp), if_neg (by rw [hkp]; simp)] at hm
            obtain ⟨hpb, hpm2⟩ := hmod.put (by omega) (hnear p hpm)
            obtain ⟨ht1, ht2⟩ := hmod.turn (by omega) p
            have h121 := up1 (qPut_run p v (turnM (getM v p).1).1 hfi.2.1 hfi.2.2.1 ht1 (by omega) hp1 hp2 hpb)
            rw [he] at h13
            rw [hf, hkp] at h176
            by_cases hg2 : (putC p v (turnM (getM v p).1).1).2 = 0
            · rw [if_neg (by rw [hg2]; simp)] at hm
              have hmod2 := hpm2 hg2
              rw [hg2] at h121
              generalize putC p v (turnM (getM v p).1).1 = Z at *
              generalize getM v p = G at *
              generalize turnM G.1 = T at *
              rw [hve, encV_eq G.1] at h13
              rw [encV_eq G.1, encV_eq T.1] at h176
              rw [hve, encV_eq T.1, encV_eq Z.1] at h121
              (repeat' first | simp (disch := omega) only [go_sem, hx2, rowT, thS, modH, zeroS, List.length_map] | refine pure_of _ (h13) ?_ | refine pure_of _ (h121) ?_ | (refine call_of _ _ (h176 _) ?_) | ((apply spl) <;> intro h <;> try simp (disch := omega) only [go_sem, hx2, rowT, thS, modH, zeroS, List.length_map , h]))
              exact ⟨(k + 1, Z.1, _, gone), by rw [encV_eq Z.1]; rfl, ⟨hlt, hm, hels, by simp only; omega, hgl, hmod2⟩, by simp only; omega⟩
            · rw [if_pos hg2] at hm
              rw [hm, nullV_enc]
              generalize putC p v (turnM (getM v p).1).1 = Z at *
              generalize getM v p = G at *
              generalize turnM G.1 = T at *
              rw [hve, encV_eq G.1] at h13
              rw [encV_eq G.1, encV_eq T.1] at h176
              rw [hve, encV_eq T.1, encV_eq Z.1] at h121
              (repeat' first | simp (disch := omega) only [go_sem, hx2, rowT, thS, modH, zeroS, List.length_map] | refine pure_of _ (h13) ?_ | refine pure_of _ (h121) ?_ | (refine call_of _ _ (h176 _) ?_) | ((apply spl) <;> intro h <;> try simp (disch := omega) only [go_sem, hx2, rowT, thS, modH, zeroS, List.length_map , h]))
        · rw [modM, if_neg (by rw [he]; simp), if_pos hf] at hm
          rw [hm, nullV_enc]
          rw [he] at h13
          generalize getM v p = G at *
          generalize turnM G.1 = T at *
          rw [hve, encV_eq G.1] at h13
          rw [encV_eq G.1, encV_eq T.1] at h176
          (repeat' first | simp (disch := omega) only [go_sem, hx2, rowT, thS, modH, zeroS, List.length_map] | refine pure_of _ (h13) ?_ | (refine call_of _ _ (h176 _) ?_) | ((apply spl) <;> intro h <;> try simp (disch := omega) only [go_sem, hx2, rowT, thS, modH, zeroS, List.length_map , h]))
      · rw [modM, if_pos he] at hm
        rw [hm, nullV_enc]
        generalize getM v p = G at *
        rw [hve, encV_eq G.1] at h13
        (repeat' first | simp (disch := omega) only [go_sem, hx2, rowT, thS, modH, zeroS, List.length_map] | refine pure_of _ (h13) ?_ | ((apply spl) <;> intro h <;> try simp (disch := omega) only [go_sem, hx2, rowT, thS, modH, zeroS, List.length_map , h]))
  · rw [List.drop_of_length_le (by omega), modM] at hm
    rw [hm]
    obtain ⟨n, hn, hg⟩ := hfi.2.1
    have h16 := delete_run v gone (hg.mono hn) hfi.2.2.1 (by omega) fun q hq' => hq q (hgl q hq')
    unfold encPs at h16
    rw [← hels] at h16
    generalize delM v gone = R at h16
    rw [hve, encV_eq R.1] at h16
    rw [encV_eq R.1]
    cases els with
    | nil => (repeat' first | simp (disch := omega) only [go_sem, rowT, thS, zeroS, List.length_map] | refine pure_of _ (h16) ?_ | ((apply spl) <;> intro h <;> try simp (disch := omega) only [go_sem, rowT, thS, zeroS, List.length_map , h]))
    | cons z els => (repeat' first | simp (disch := omega) only [go_sem, rowT, thS, zeroS, List.length_map, List.take_length, List.drop_zero, List.length_cons, markFrom, Blk.mark, List.contains_cons, List.contains_nil, Bool.or_false] | refine pure_of _ (h16) ?_ | ((apply spl) <;> intro h <;> try simp (disch := omega) only [go_sem, rowT, thS, zeroS, List.length_map, List.take_length, List.drop_zero, List.length_cons, markFrom, Blk.mark, List.contains_cons, List.contains_nil, Bool.or_false , h]))
end Ago
/- The reference's Modify, and the law QpathModifies. -/
set_option maxRecDepth 100000
set_option maxHeartbeats 4000000
namespace Ago
open Go (IntKind)
theorem refModify_run (v0 : V) (l : List (List Stp)) (hmod0 : Mod 0 v0) (hl : l.length ≤ 20) (hnear : ∀ p, p ∈ l → nearM p = true) :
    PRun C0 177 [encV v0, encPs l] (.tup [encV (modM v0 l []).1, .int .i64 (modM v0 l []).2]) := by
  have hq : ∀ q, q ∈ l → q.length < 2 ^ 30 ∧ ∀ s, s ∈ q → s.key.length < 2 ^ 30 := fun q hq' => by
    obtain ⟨p1, p2, p3⟩ := near_facts (hnear q hq')
    exact ⟨by omega, fun s hs => by have := (p3 s hs).2.2; omega⟩
  refine prun_of ac177 rfl ?_
  unfold encPs at *
  have hv0 := encV_eq v0
  rw [encV_eq v0]
  (repeat' first | simp (disch := omega) only [go_sem, ac177, enter, List.length_map] | ((apply spl) <;> intro h <;> try simp (disch := omega) only [go_sem, ac177, enter, List.length_map, h]))
  refine loop_of (α := Nat × V × List AV × List (List Stp)) (fun a => { tmps := slots 73 [(1, .tsl 1 (l.map encP)), (2, .ptr 13 0 0 0), (4, .ptr 13 1 0 0), (6, thS a.2.2.1), (7, .int .i64 a.1)], heap := [.row 13 [encV a.2.1] false true 0, .row 13 [zeroS] false true 1] ++ rowT a.2.2.1, base := 0 })
    (fun a => a.1 ≤ l.length ∧ modM v0 l [] = modM a.2.1 (l.drop a.1) a.2.2.2 ∧ a.2.2.1 = a.2.2.2.map encP ∧ a.2.2.2.length ≤ a.1 ∧ (∀ q, q ∈ a.2.2.2 → q ∈ l) ∧ Mod a.1 a.2.1) (fun a => l.length - a.1) (0, v0, [], []) (by rw [hv0]; rfl) ⟨Nat.zero_le _, rfl, rfl, Nat.le_refl _, by simp, hmod0⟩ ?_
  rintro ⟨k, v, els, gone⟩ ⟨hk, hm, hels, hgk, hgl, hmod⟩
  simp only at hk hm hels hgk hgl hmod
  have hve := encV_eq v
  rw [hve]
  have hfi := hmod.fine (by omega)
  have hle : els.length ≤ k := by rw [hels, List.length_map]; exact hgk
  by_cases hlt : k < l.length
  · obtain ⟨p, hx⟩ := get_some hlt
    have hpm := List.mem_of_getElem? hx
    obtain ⟨hp1, _⟩ := hq p hpm
    obtain ⟨_, hp2, _⟩ := near_facts (hnear p hpm)
    have hx2 := map_get (g := encP) hx
    rw [encP_eq] at hx2
    have h14 := refGet_run v p hfi.1 hp1
    rw [drop_cons hx] at hm
    have hrev := map_rev hels p
    rw [encP_eq p] at hrev
    have h178 := turn_run (getM v p).1
    cases els with
    | nil =>
      by_cases he : (getM v p).2 = 0
      · by_cases hf : (turnM (getM v p).1).2.2 = 0
        · cases hkp : (turnM (getM v p).1).2.1 with
          | false =>
            rw [modM, if_neg (by rw [he]; simp), if_neg (by rw [hf]; simp), if_pos hkp] at hm
            rw [he] at h14
            rw [hf, hkp] at h178
            generalize getM v p = G at *
            generalize turnM G.1 = T at *
            rw [hve, encV_eq G.1] at h14
            rw [encV_eq G.1, encV_eq T.1] at h178
            (repeat' first | simp (disch := omega) only [go_sem, hx2, rowT, thS, zeroS, List.length_map, keep_mk] | refine pure_of _ (h14) ?_ | refine pure_of _ (h178) ?_ | ((apply spl) <;> intro h <;> try simp (disch := omega) only [go_sem, hx2, rowT, thS, zeroS, List.length_map, keep_mk , h]))
            exact ⟨(k + 1, v, _, gone ++ [p]), by first | (rw [hve]; rfl) | (rw [hve]; simp only [List.cons_append, rowT, thS, List.length_append, List.length_cons, List.length_nil]; rfl), ⟨hlt, hm, hrev, by simp; omega, fun q hq' => by
              rcases List.mem_append.1 hq' with hq' | hq'
              · exact hgl q hq'
              · rw [List.mem_singleton.1 hq']; exact hpm, hmod.mono (by omega)⟩, by simp only; omega⟩
          | true =>
            rw [modM, if_neg (by rw [he]; simp), if_neg (by rw [hf]; simp), if_neg (by rw [hkp]; simp)] at hm
            obtain ⟨hpb, hpm2⟩ := hmod.put (by omega) (hnear p hpm)
            have h122 := refPutQ_run p v (turnM (getM v p).1).1 hfi.2.1 hfi.2.2.1 hfi.2.2.2 hp1 hp2 hpb
            rw [he] at h14
            rw [hf, hkp] at h178
            by_cases hg2 : (putC p v (turnM (getM v p).1).1).2 = 0
            · rw [if_neg (by rw [hg2]; simp)] at hm
              have hmod2 := hpm2 hg2
              rw [hg2] at h122
              generalize putC p v (turnM (getM v p).1).1 = Z at *
              generalize getM v p = G at *
              generalize turnM G.1 = T at *
              rw [hve, encV_eq G.1] at h14
              rw [encV_eq G.1, encV_eq T.1] at h178
              rw [hve, encV_eq T.1, encV_eq Z.1] at h122
              (repeat' first | simp (disch := omega) only [go_sem, hx2, rowT, thS, zeroS, List.length_map, keep_mk] | refine pure_of _ (h14) ?_ | refine pure_of _ (h178) ?_ | refine pure_of _ (h122) ?_ | ((apply spl) <;> intro h <;> try simp (disch := omega) only [go_sem, hx2, rowT, thS, zeroS, List.length_map, keep_mk , h]))
              exact ⟨(k + 1, Z.1, _, gone), by rw [encV_eq Z.1]; rfl, ⟨hlt, hm, hels, by simp only; omega, hgl, hmod2⟩, by simp only; omega⟩
            · rw [if_pos hg2] at hm
              rw [hm, nullV_enc]
              generalize putC p v (turnM (getM v p).1).1 = Z at *
              generalize getM v p = G at *
              generalize turnM G.1 = T at *
              rw [hve, encV_eq G.1] at h14
              rw [encV_eq G.1, encV_eq T.1] at h178
              rw [hve, encV_eq T.1, encV_eq Z.1] at h122
              (repeat' first | simp (disch := omega) only [go_sem, hx2, rowT, thS, zeroS, List.length_map, keep_mk] | refine pure_of _ (h14) ?_ | refine pure_of _ (h178) ?_ | refine pure_of _ (h122) ?_ | ((apply spl) <;> intro h <;> try simp (disch := omega) only [go_sem, hx2, rowT, thS, zeroS, List.length_map, keep_mk , h]))
        · rw [modM, if_neg (by rw [he]; simp), if_pos hf] at hm
          rw [hm, nullV_enc]
          rw [he] at h14
          generalize getM v p = G at *
          generalize turnM G.1 = T at *
          rw [hve, encV_eq G.1] at h14
          rw [encV_eq G.1, encV_eq T.1] at h178
          (repeat' first | simp (disch := omega) only [go_sem, hx2, rowT, thS, zeroS, List.length_map, keep_mk] | refine pure_of _ (h14) ?_ | refine pure_of _ (h178) ?_ | ((apply spl) <;> intro h <;> try simp (disch := omega) only [go_sem, hx2, rowT, thS, zeroS, List.length_map, keep_mk , h]))
      · rw [modM, if_pos he] at hm
        rw [hm, nullV_enc]
        generalize getM v p = G at *
        rw [hve, encV_eq G.1] at h14
        (repeat' first | simp (disch := omega) only [go_sem, hx2, rowT, thS, zeroS, List.length_map, keep_mk] | refine pure_of _ (h14) ?_ | ((apply spl) <;> intro h <;> try simp (disch := omega) only [go_sem, hx2, rowT, thS, zeroS, List.length_map, keep_mk , h]))
    | cons z els =>
      simp only [List.length_cons] at hle
      by_cases he : (getM v p).2 = 0
      · by_cases hf : (turnM (getM v p).1).2.2 = 0
        · cases hkp : (turnM (getM v p).1).2.1 with
          | false =>
            rw [modM, if_neg (by rw [he]; simp), if_neg (by rw [hf]; simp), if_pos hkp] at hm
            rw [he] at h14
            rw [hf, hkp] at h178
            generalize getM v p = G at *
            generalize turnM G.1 = T at *
            rw [hve, encV_eq G.1] at h14
            rw [encV_eq G.1, encV_eq T.1] at h178
            (repeat' first | simp (disch := omega) only [go_sem, hx2, rowT, thS, zeroS, List.length_map, keep_mk] | refine pure_of _ (h14) ?_ | refine pure_of _ (h178) ?_ | ((apply spl) <;> intro h <;> try simp (disch := omega) only [go_sem, hx2, rowT, thS, zeroS, List.length_map, keep_mk , h]))
            exact ⟨(k + 1, v, _, gone ++ [p]), by first | (rw [hve]; rfl) | (rw [hve]; simp only [List.cons_append, rowT, thS, List.length_append, List.length_cons, List.length_nil]; rfl), ⟨hlt, hm, hrev, by simp; omega, fun q hq' => by
              rcases List.mem_append.1 hq' with hq' | hq'
              · exact hgl q hq'
              · rw [List.mem_singleton.1 hq']; exact hpm, hmod.mono (by omega)⟩, by simp only; omega⟩
          | true =>
            rw [modM, if_neg (by rw [he]; simp), if_neg (by rw [hf]; simp), if_neg (by rw [hkp]; simp)] at hm
            obtain ⟨hpb, hpm2⟩ := hmod.put (by omega) (hnear p hpm)
            have h122 := refPutQ_run p v (turnM (getM v p).1).1 hfi.2.1 hfi.2.2.1 hfi.2.2.2 hp1 hp2 hpb
            rw [he] at h14
            rw [hf, hkp] at h178
            by_cases hg2 : (putC p v (turnM (getM v p).1).1).2 = 0
            · rw [if_neg (by rw [hg2]; simp)] at hm
              have hmod2 := hpm2 hg2
              rw [hg2] at h122
              generalize putC p v (turnM (getM v p).1).1 = Z at *
              generalize getM v p = G at *
              generalize turnM G.1 = T at *
              rw [hve, encV_eq G.1] at h14
              rw [encV_eq G.1, encV_eq T.1] at h178
              rw [hve, encV_eq T.1, encV_eq Z.1] at h122
              (repeat' first | simp (disch := omega) only [go_sem, hx2, rowT, thS, zeroS, List.length_map, keep_mk] | refine pure_of _ (h14) ?_ | refine pure_of _ (h178) ?_ | refine pure_of _ (h122) ?_ | ((apply spl) <;> intro h <;> try simp (disch := omega) only [go_sem, hx2, rowT, thS, zeroS, List.length_map, keep_mk , h]))
              exact ⟨(k + 1, Z.1, _, gone), by rw [encV_eq Z.1]; rfl, ⟨hlt, hm, hels, by simp only; omega, hgl, hmod2⟩, by simp only; omega⟩
            · rw [if_pos hg2] at hm
              rw [hm, nullV_enc]
              generalize putC p v (turnM (getM v p).1).1 = Z at *
              generalize getM v p = G at *
              generalize turnM G.1 = T at *
              rw [hve, encV_eq G.1] at h14
              rw [encV_eq G.1, encV_eq T.1] at h178
              rw [hve, encV_eq T.1, encV_eq Z.1] at h122
              (repeat' first | simp (disch := omega) only [go_sem, hx2, rowT, thS, zeroS, List.length_map, keep_mk] | refine pure_of _ (h14) ?_ | refine pure_of _ (h178) ?_ | refine pure_of _ (h122) ?_ | ((apply spl) <;> intro h <;> try simp (disch := omega) only [go_sem, hx2, rowT, thS, zeroS, List.length_map, keep_mk , h]))
        · rw [modM, if_neg (by rw [he]; simp), if_pos hf] at hm
          rw [hm, nullV_enc]
          rw [he] at h14
          generalize getM v p = G at *
          generalize turnM G.1 = T at *
          rw [hve, encV_eq G.1] at h14
          rw [encV_eq G.1, encV_eq T.1] at h178
          (repeat' first | simp (disch := omega) only [go_sem, hx2, rowT, thS, zeroS, List.length_map, keep_mk] | refine pure_of _ (h14) ?_ | refine pure_of _ (h178) ?_ | ((apply spl) <;> intro h <;> try simp (disch := omega) only [go_sem, hx2, rowT, thS, zeroS, List.length_map, keep_mk , h]))
      · rw [modM, if_pos he] at hm
        rw [hm, nullV_enc]
        generalize getM v p = G at *
        rw [hve, encV_eq G.1] at h14
        (repeat' first | simp (disch := omega) only [go_sem, hx2, rowT, thS, zeroS, List.length_map, keep_mk] | refine pure_of _ (h14) ?_ | ((apply spl) <;> intro h <;> try simp (disch := omega) only [go_sem, hx2, rowT, thS, zeroS, List.length_map, keep_mk , h]))
  · rw [List.drop_of_length_le (by omega), modM] at hm
    rw [hm]
    obtain ⟨n, hn, hg⟩ := hfi.2.1
    have h17 := refDelete_run v gone (hg.mono hn) hfi.2.2.1 (by omega) fun q hq' => hq q (hgl q hq')
    unfold encPs at h17
    rw [← hels] at h17
    generalize delM v gone = R at h17
    rw [hve, encV_eq R.1] at h17
    rw [encV_eq R.1]
    cases els with
    | nil => (repeat' first | simp (disch := omega) only [go_sem, rowT, thS, zeroS, List.length_map] | refine pure_of _ (h17) ?_ | ((apply spl) <;> intro h <;> try simp (disch := omega) only [go_sem, rowT, thS, zeroS, List.length_map , h]))
    | cons z els => (repeat' first | simp (disch := omega) only [go_sem, rowT, thS, zeroS, List.length_map, List.take_length, List.drop_zero, List.length_cons, markFrom, Blk.mark, List.contains_cons, List.contains_nil, Bool.or_false] | refine pure_of _ (h17) ?_ | ((apply spl) <;> intro h <;> try simp (disch := omega) only [go_sem, rowT, thS, zeroS, List.length_map, List.take_length, List.drop_zero, List.length_cons, markFrom, Blk.mark, List.contains_cons, List.contains_nil, Bool.or_false , h]))
theorem modM_bulk : ∀ (l : List (List Stp)) (v : V) (gone : List (List Stp)) (k : Nat), Mod k v → k + l.length ≤ 20 → (∀ p, p ∈ l → nearM p = true) → (modM v l gone).1.bulk ≤ 2 ^ 24
  | [], v, gone, k, h, hk, _ => by
    obtain ⟨_, ⟨n, hn, hg⟩, hv, _⟩ := h.fine (by simp at hk; omega)
    exact delM_bulk2 v gone hn hg hv
  | p :: r, v, gone, k, h, hk, hp => by
    rw [List.length_cons] at hk
    rw [modM]
    split
    · exact nullV_bulk
    · split
      · exact nullV_bulk
      · split
        · exact modM_bulk r v _ (k + 1) (h.mono (by omega)) (by omega) fun q hq => hp q (by simp [hq])
        · split
          · exact nullV_bulk
          · rename_i he
            exact modM_bulk r _ gone (k + 1) ((h.put (by omega) (hp p (by simp))).2 (Classical.not_not.1 he)) (by omega) fun q hq => hp q (by simp [hq])
theorem qpathModifies_run (v : V) (l : List (List Stp)) (hv : v.bulk ≤ 2 ^ 20) (hq : ∀ q, q ∈ l → q.length < 2 ^ 30 ∧ ∀ s, s ∈ q → s.key.length < 2 ^ 30) : PRun C1 174 [encV v, encPs l] (.bool true) := by
  obtain ⟨b, h1, h1'⟩ := lawValid_run v (by omega)
  replace h1 := up1 h1
  unfold encPs
  have hve := encV_eq v
  rw [hve] at h1
  refine prun_of ac174 rfl ?_
  rw [hve]
  cases b with
  | false => (repeat' first | simp (disch := omega) only [go_sem, ac174, enter, List.length_map] | refine pure_of _ (h1) ?_ | ((apply spl) <;> intro h <;> try simp (disch := omega) only [go_sem, ac174, enter, List.length_map , h]))
  | true =>
    obtain ⟨hg, hf⟩ := h1' rfl
    by_cases hl : 20 < l.length
    · (repeat' first | simp (disch := omega) only [go_sem, ac174, enter, List.length_map] | refine pure_of _ (h1) ?_ | ((apply spl) <;> intro h <;> try simp (disch := omega) only [go_sem, ac174, enter, List.length_map , h]))
    · (repeat' first | simp (disch := omega) only [go_sem, ac174, enter, List.length_map] | refine pure_of _ (h1) ?_ | ((apply spl) <;> intro h <;> try simp (disch := omega) only [go_sem, ac174, enter, List.length_map , h]))
      refine loop_of (α := Nat) (fun k => { tmps := slots 47 [(1, .tsl 1 (l.map encP)), (2, .ptr 13 0 0 0), (5, .int .i64 k)], heap := [.row 13 [encV v] false true 0], base := 0 }) (fun k => k ≤ l.length ∧ ∀ p, p ∈ l.take k → nearM p = true) (fun k => l.length - k) 0 (by rw [hve]; rfl) ⟨Nat.zero_le _, by simp⟩ ?_
      rintro k ⟨hk, hn⟩
      rw [hve]
      by_cases hlt : k < l.length
      · obtain ⟨p, hx⟩ := get_some hlt
        have hx2 := map_get (g := encP) hx
        rw [encP_eq] at hx2
        obtain ⟨q1, q2⟩ := hq p (List.mem_of_getElem? hx)
        have h120 := up1 (near_run p q1 q2)
        cases hb : nearM p with
        | false =>
          rw [hb] at h120
          (repeat' first | simp (disch := omega) only [go_sem, hx2, List.length_map] | refine pure_of _ (h120) ?_ | ((apply spl) <;> intro h <;> try simp (disch := omega) only [go_sem, hx2, List.length_map , h]))
        | true =>
          rw [hb] at h120
          (repeat' first | simp (disch := omega) only [go_sem, hx2, List.length_map] | refine pure_of _ (h120) ?_ | ((apply spl) <;> intro h <;> try simp (disch := omega) only [go_sem, hx2, List.length_map , h]))
          refine ⟨k + 1, rfl, ⟨hlt, fun y hy => ?_⟩, by omega⟩
          rw [List.take_add_one, hx] at hy
          rcases List.mem_append.1 hy with hy | hy
          · exact hn y hy
          · have e : y = p := by simpa using hy
            rw [e]
            exact hb
      · rw [List.take_of_length_le (by omega)] at hn
        have hmod : Mod 0 v := ⟨⟨48, by omega, hg⟩, by omega, hf.mono (by omega)⟩
        have h175 := modify_run v l hmod (by omega) hn
        have h177 := up1 (refModify_run v l hmod (by omega) hn)
        have h15 := up1 (alike_run (modM v l []).1 (modM v l []).2 (modM_bulk l v [] 0 hmod (by omega) hn))
        unfold encPs at h175 h177
        generalize (modM v l []).1 = x at h15 h175 h177
        generalize (modM v l []).2 = e at h15 h175 h177
        rw [hve, encV_eq x] at h175 h177
        rw [encV_eq x] at h15
        (repeat' first | simp (disch := omega) only [go_sem, zeroS, List.length_map] | refine pure_of _ (h175) ?_ | refine pure_of _ (h177) ?_ | refine pure_of _ (h15) ?_ | ((apply spl) <;> intro h <;> try simp (disch := omega) only [go_sem, zeroS, List.length_map , h]))
end Ago
