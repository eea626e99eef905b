/- qpath.put, at an index. -/
import Derived.Test.YtglnglflcoeinaaGreatDoorRunG
set_option linter.unusedSimpArgs false
set_option linter.unusedVariables false
set_option maxRecDepth 100000
set_option maxHeartbeats 4000000
namespace Ago
open Go (IntKind)
theorem omap_some {α β : Type} {f : α → Option β} {g : α → β} : ∀ (l : List α), (∀ x, x ∈ l → f x = some (g x)) → omap f l = some (l.map g)
  | [], _ => rfl
  | x :: l, h => by
    unfold omap
    rw [h x (by simp), omap_some l fun y hy => h y (by simp [hy])]
    rfl
theorem omap_map {α β γ : Type} {f : β → Option γ} {h : α → β} : ∀ (l : List α), omap f (l.map h) = omap (fun x => f (h x)) l
  | [] => rfl
  | x :: l => by
    rw [List.map_cons]
    unfold omap
    rw [omap_map l]
theorem frz3_encV (H : Heap) (v : V) : frz H 3 (encV v) = some (encV v) := by
  rw [encV_eq]
  rfl
theorem frz3_zero (H : Heap) : frz H 3 zeroS = some (encV nullV) := by
  rw [nullV_enc]
  rfl
/-- Elements, some of which were never set. -/
def encO : Option V → AV
  | some v => encV v
  | none => zeroS
theorem omap_encO (H : Heap) (L : List (Option V)) : omap (frz H 3) (L.map encO) = some ((L.map fun o => o.getD nullV).map encV) := by
  rw [omap_map, omap_some (g := fun o => encV (o.getD nullV)) L fun o _ => by
    cases o with
    | none => exact frz3_zero H
    | some v => exact frz3_encV H v]
  rw [List.map_map]
  rfl
theorem encO_list (l : List V) (m : Nat) : l.map encV ++ List.replicate m zeroS = (l.map some ++ List.replicate m none).map encO := by
  simp [encO]
theorem putIdx_step (s : Stp) (p : List Stp) (v x : V) (R : V × Int) {n : Nat} (hn : n ≤ 100) (hg : Gd n v) (hv : v.bulk ≤ 2 ^ 24) (hp' : p.length < 2 ^ 30 - 1) (hb : s.byIndex = true) (hi0 : 0 ≤ s.index) (hi1 : s.index < 2 ^ 30)
    (hr : v.s.kind = 0 ∨ v.s.kind = 6 → PRun C0 125 [encV (partM (listV v.l) s), .tsl 3 (p.map encS), encV x] (.tup [encV R.1, .int .i64 R.2])) :
    PRun C0 125 [encV v, .tsl 3 ((s :: p).map encS), encV x] (.tup [encV (if v.s.kind = 0 ∨ v.s.kind = 6 then if R.2 ≠ 0 then (nullV, R.2) else if 65536 ≤ s.index then (nullV, 10) else (listV (putL v.l s.index.toNat R.1), 0) else (nullV, 6)).1, .int .i64 (if v.s.kind = 0 ∨ v.s.kind = 6 then if R.2 ≠ 0 then (nullV, R.2) else if 65536 ≤ s.index then (nullV, 10) else (listV (putL v.l s.index.toNat R.1), 0) else (nullV, 6)).2]) := by
  obtain ⟨sh0, sh6, sh7⟩ := own_shape hg.own
  have hpl : List.take p.length (p.map encS) = p.map encS := List.take_of_length_le (by simp)
  refine prun_of ac125 rfl ?_
  by_cases hk : v.s.kind = 0 ∨ v.s.kind = 6
  · have hr := hr hk
    rw [if_pos hk]
    have hfit : fitsM (listV v.l) s = true := by simp [fitsM, hb, listV, V.s]
    have h43 := fits_run (listV v.l) s
    rw [hfit] at h43
    obtain ⟨hgm, hbm⟩ := as_list hg hk
    have hbm : (listV v.l).bulk ≤ 2 ^ 24 := by omega
    have h44 := part_run (listV v.l) s hgm.good (by omega) hbm hfit
    obtain ⟨hpg, hpb⟩ := part_sub hn hgm hbm hfit
    generalize partM (listV v.l) s = w at h44 hr
    have hll : v.l.length < 2 ^ 24 := (V.lens hbm).list
    rw [listV_enc] at h43 h44
    rw [encS_of] at h43 h44
    rw [hb] at h43 h44
    rw [encV_eq w] at h44 hr
    rw [encV_eq x] at hr ⊢
    rw [encV_eq R.1] at hr
    rw [List.map_cons, encS_of, hb]
    by_cases he : R.2 = 0
    · rw [if_neg (by rw [he]; simp)]
      rw [he] at hr
      by_cases hbig : 65536 ≤ s.index
      · rw [if_pos hbig, nullV_enc]
        rcases hk with hk | hk
        · have hv0 := sh0 hk
          have hl0 : v.l = [] := by rw [hv0]; rfl
          rw [hv0, nullV_enc]
          rw [hl0, List.map_nil] at h43 h44
          (repeat' first | simp (disch := omega) only [go_sem, ac125, enter, zeroS, List.length_map, hpl] | refine pure_of _ (h43) ?_ | refine pure_of _ (h44) ?_ | refine pure_of _ (hr) ?_ | ((apply spl) <;> intro h <;> try simp (disch := omega) only [go_sem, ac125, enter, zeroS, List.length_map, hpl , h]))
        · rw [sh6 hk, listV_enc]
          (repeat' first | simp (disch := omega) only [go_sem, ac125, enter, zeroS, List.length_map, hpl] | refine pure_of _ (h43) ?_ | refine pure_of _ (h44) ?_ | refine pure_of _ (hr) ?_ | ((apply spl) <;> intro h <;> try simp (disch := omega) only [go_sem, ac125, enter, zeroS, List.length_map, hpl , h]))
      · rw [if_neg hbig, listV_enc]
        have hmax : (if (v.l.length : Int) < s.index + 1 then s.index + 1 else (v.l.length : Int)) = ((max v.l.length (s.index.toNat + 1) : Nat) : Int) := by
          split <;> omega
        have hN1 : v.l.length ≤ max v.l.length (s.index.toNat + 1) := by omega
        have hN2 : s.index.toNat < max v.l.length (s.index.toNat + 1) := by omega
        have hN3 : max v.l.length (s.index.toNat + 1) < 2 ^ 25 := by omega
        have hput : putL v.l s.index.toNat R.1 = (v.l ++ List.replicate (max v.l.length (s.index.toNat + 1) - v.l.length) nullV).set s.index.toNat R.1 := by
          unfold putL
          rw [show max v.l.length (s.index.toNat + 1) - v.l.length = s.index.toNat + 1 - v.l.length by omega]
        rw [hput]
        generalize max v.l.length (s.index.toNat + 1) = N at hmax hN1 hN2 hN3 ⊢
        have hn0 : ((N : Int) = 0) = False := eq_false (by omega)
        have htk : List.take N (v.l.map encV) = v.l.map encV := List.take_of_length_le (by simp; omega)
        have hmn : min v.l.length N = v.l.length := by omega
        have hlenE : (v.l.map encV ++ List.replicate (N - v.l.length) zeroS).length = N := by simp; omega
        obtain ⟨cs, hcs⟩ : ∃ cs, (v.l.map encV ++ List.replicate (N - v.l.length) zeroS)[s.index.toNat]? = some (.agg cs) := by
          rw [encO_list, List.getElem?_map]
          obtain ⟨o, ho⟩ := get_some (s := v.l.map some ++ List.replicate (N - v.l.length) none) (k := s.index.toNat) (by simp; omega)
          rw [ho]
          cases o with
          | none => exact ⟨_, rfl⟩
          | some w => exact ⟨_, congrArg some (encV_eq w)⟩
        have hfin : ∀ H : Heap, omap (frz H 3) ((v.l.map encV ++ List.replicate (N - v.l.length) zeroS).set s.index.toNat (encV R.1)) = some (((v.l ++ List.replicate (N - v.l.length) nullV).set s.index.toNat R.1).map encV) := fun H => by
          rw [encO_list, show encV R.1 = encO (some R.1) from rfl, ← List.map_set, omap_encO]
          simp [List.map_set, List.map_map, Function.comp_def]
        have htk2 : ∀ e, List.take N ((v.l.map encV ++ List.replicate (N - v.l.length) zeroS).set s.index.toNat e) = (v.l.map encV ++ List.replicate (N - v.l.length) zeroS).set s.index.toNat e := fun e => List.take_of_length_le (by rw [List.length_set, hlenE]; omega)
        have hle2 : ∀ e, ((v.l.map encV ++ List.replicate (N - v.l.length) zeroS).set s.index.toNat e).length = N := fun e => by rw [List.length_set, hlenE]
        rw [encV_eq R.1] at hfin
        simp only [zeroS] at hcs hfin htk2 hle2
        rcases hk with hk | hk
        · have hv0 := sh0 hk
          have hl0 : v.l = [] := by rw [hv0]; rfl
          have hve : encV v = .agg [.int .i64 0, .bool false, .bool false, .str [], .int .i64 0, .int .i64 0, .int .i64 0, .int .i64 0, .int .i64 0, .str [], .tsl 1 [], .tsl 13 (v.l.map encV), .tsl 14 []] := by
            rw [hl0, hv0]
            exact nullV_enc
          rw [hve]
          (repeat' first | simp (disch := omega) only [go_sem, ac125, enter, zeroS, List.length_map, hpl, gt_iff_lt, hmax, hn0, List.length_replicate, htk, hmn, List.drop_replicate, hcs, hfin, htk2, hle2] | refine pure_of _ (h43) ?_ | refine pure_of _ (h44) ?_ | refine pure_of _ (hr) ?_ | ((apply spl) <;> intro h <;> try simp (disch := omega) only [go_sem, ac125, enter, zeroS, List.length_map, hpl, gt_iff_lt, hmax, hn0, List.length_replicate, htk, hmn, List.drop_replicate, hcs, hfin, htk2, hle2 , h]))
        · rw [sh6 hk, listV_enc]
          (repeat' first | simp (disch := omega) only [go_sem, ac125, enter, zeroS, List.length_map, hpl, gt_iff_lt, hmax, hn0, List.length_replicate, htk, hmn, List.drop_replicate, hcs, hfin, htk2, hle2] | refine pure_of _ (h43) ?_ | refine pure_of _ (h44) ?_ | refine pure_of _ (hr) ?_ | ((apply spl) <;> intro h <;> try simp (disch := omega) only [go_sem, ac125, enter, zeroS, List.length_map, hpl, gt_iff_lt, hmax, hn0, List.length_replicate, htk, hmn, List.drop_replicate, hcs, hfin, htk2, hle2 , h]))
          rfl
    · rw [if_pos he, nullV_enc]
      rcases hk with hk | hk
      · have hv0 := sh0 hk
        have hl0 : v.l = [] := by rw [hv0]; rfl
        rw [hv0, nullV_enc]
        rw [hl0, List.map_nil] at h43 h44
        (repeat' first | simp (disch := omega) only [go_sem, ac125, enter, zeroS, List.length_map, hpl] | refine pure_of _ (h43) ?_ | refine pure_of _ (h44) ?_ | refine pure_of _ (hr) ?_ | ((apply spl) <;> intro h <;> try simp (disch := omega) only [go_sem, ac125, enter, zeroS, List.length_map, hpl , h]))
      · rw [sh6 hk, listV_enc]
        (repeat' first | simp (disch := omega) only [go_sem, ac125, enter, zeroS, List.length_map, hpl] | refine pure_of _ (h43) ?_ | refine pure_of _ (h44) ?_ | refine pure_of _ (hr) ?_ | ((apply spl) <;> intro h <;> try simp (disch := omega) only [go_sem, ac125, enter, zeroS, List.length_map, hpl , h]))
  · rw [if_neg hk, nullV_enc]
    have hfit : fitsM v s = false := by simp [fitsM, hb]; omega
    have h43 := fits_run v s
    rw [hfit, encS_of, hb, encV_eq v] at h43
    rw [encV_eq v, encV_eq x, List.map_cons, encS_of, hb]
    (repeat' first | simp (disch := omega) only [go_sem, ac125, enter, zeroS, List.length_map, hpl] | refine pure_of _ (h43) ?_ | ((apply spl) <;> intro h <;> try simp (disch := omega) only [go_sem, ac125, enter, zeroS, List.length_map, hpl , h]))
end Ago
/- qpath.put, whole; the reference's. -/
set_option maxRecDepth 100000
set_option maxHeartbeats 4000000
set_option pp.maxSteps 200000
namespace Ago
open Go (IntKind)
theorem putM_cons (s : Stp) (p : List Stp) (v x : V) : putM (s :: p) v x = if s.byIndex then
      if v.s.kind = 0 ∨ v.s.kind = 6 then
        if (putM p (partM (listV v.l) s) x).2 ≠ 0 then (nullV, (putM p (partM (listV v.l) s) x).2) else if 65536 ≤ s.index then (nullV, 10) else (listV (putL v.l s.index.toNat (putM p (partM (listV v.l) s) x).1), 0)
      else (nullV, 6)
    else if v.s.kind = 0 ∨ v.s.kind = 7 then
      if (putM p (partM (mapV v.f) s) x).2 ≠ 0 then (nullV, (putM p (partM (mapV v.f) s) x).2) else (mapV (putF v.f s.key (putM p (partM (mapV v.f) s) x).1), 0)
    else (nullV, 6) := rfl
theorem put_run : ∀ (p : List Stp) (v x : V), (∃ n, n ≤ 100 ∧ Gd n v) → v.bulk ≤ 2 ^ 24 → p.length < 2 ^ 30 → (∀ s, s ∈ p → stpIn s) → PRun C0 125 [encV v, .tsl 3 (p.map encS), encV x] (.tup [encV (putM p v x).1, .int .i64 (putM p v x).2])
  | [], v, x, hg, hv, hp, hs => by
    refine prun_of ac125 rfl ?_
    rw [show putM [] v x = (x, 0) from rfl]
    rw [encV_eq v, encV_eq x]
    (repeat' first | simp (disch := omega) only [go_sem, ac125, enter, List.map_nil] | ((apply spl) <;> intro h <;> try simp (disch := omega) only [go_sem, ac125, enter, List.map_nil, h]))
  | s :: p, v, x, hg, hv, hp, hs => by
    have hp' : p.length < 2 ^ 30 - 1 := by
      have : p.length + 1 < 2 ^ 30 := by simpa using hp
      omega
    obtain ⟨n, hn, hg⟩ := hg
    have hs0 := hs s (by simp)
    rw [putM_cons]
    cases hb : s.byIndex with
    | true =>
      rw [if_pos rfl]
      obtain ⟨hi0, hi1⟩ := hs0 hb
      refine putIdx_step s p v x (putM p (partM (listV v.l) s) x) hn hg hv hp' hb hi0 hi1 fun hk => ?_
      obtain ⟨hgm, hbm⟩ := as_list hg hk
      obtain ⟨hpg, hpb⟩ := part_sub hn hgm (by omega) (s := s) (by simp [fitsM, hb, listV, V.s])
      exact put_run p _ x hpg hpb (by omega) fun t ht => hs t (by simp [ht])
    | false =>
      rw [if_neg (by simp)]
      refine putKey_step s p v x (putM p (partM (mapV v.f) s) x) hn hg hv hp' hb fun hk => ?_
      obtain ⟨hgm, hbm⟩ := as_map hg hk
      obtain ⟨hpg, hpb⟩ := part_sub hn hgm (by omega) (s := s) (by simp [fitsM, hb, mapV, V.s])
      exact put_run p _ x hpg hpb (by omega) fun t ht => hs t (by simp [ht])
end Ago
/- The reference's put, at a key. -/
set_option maxRecDepth 100000
set_option maxHeartbeats 4000000
namespace Ago
open Go (IntKind)
theorem refPutKey_step (s : Stp) (p : List Stp) (v x : V) (R : V × Int) {n : Nat} (hn : n ≤ 100) (hg : Gd n v) (hv : v.bulk ≤ 2 ^ 24) (hp' : p.length < 2 ^ 30 - 1) (hb : s.byIndex = false)
    (hr : v.s.kind = 0 ∨ v.s.kind = 7 → PRun C0 127 [encV (partM (mapV v.f) s), .tsl 3 (p.map encS), encV x] (.tup [encV R.1, .int .i64 R.2])) :
    PRun C0 127 [encV v, .tsl 3 ((s :: p).map encS), encV x] (.tup [encV (if v.s.kind = 0 ∨ v.s.kind = 7 then if R.2 ≠ 0 then (nullV, R.2) else (mapV (putF v.f s.key R.1), 0) else (nullV, 6)).1, .int .i64 (if v.s.kind = 0 ∨ v.s.kind = 7 then if R.2 ≠ 0 then (nullV, R.2) else (mapV (putF v.f s.key R.1), 0) else (nullV, 6)).2]) := by
  obtain ⟨sh0, sh6, sh7⟩ := own_shape hg.own
  have hpl : List.take p.length (p.map encS) = p.map encS := List.take_of_length_le (by simp)
  refine prun_of ac127 rfl ?_
  by_cases hk : v.s.kind = 0 ∨ v.s.kind = 7
  · have hr := hr hk
    rw [if_pos hk]
    have hfit : fitsM (mapV v.f) s = true := by simp [fitsM, hb, mapV, V.s]
    obtain ⟨hgm, hbm⟩ := as_map hg hk
    have hbm : (mapV v.f).bulk ≤ 2 ^ 24 := by omega
    have h27 := find_run (mapV v.f) s hbm
    have hlf : v.f.length < 2 ^ 24 := (V.lens hbm).fields
    have hve : (encV v = .agg [.int .i64 0, .bool false, .bool false, .str [], .int .i64 0, .int .i64 0, .int .i64 0, .int .i64 0, .int .i64 0, .str [], .tsl 1 [], .tsl 13 [], .tsl 14 []] ∧ v.f = []) ∨ encV v = encV (mapV v.f) := by
      rcases hk with hk | hk
      · have hv0 := sh0 hk
        exact .inl ⟨by rw [hv0]; exact nullV_enc, by rw [hv0]; rfl⟩
      · exact .inr (congrArg encV (sh7 hk))
    by_cases he : R.2 = 0
    · rw [if_neg (by rw [he]; simp)]
      rw [he] at hr
      cases hka : keyAt v.f s.key with
      | none =>
        have hf : findM (mapV v.f) s = (0, 7) := by
          unfold findM
          rw [if_neg (by rw [hb]; simp), if_neg (by simp [mapV, V.s]), show (mapV v.f).f = v.f from rfl, hka]
        have hp0 : partM (mapV v.f) s = nullV := by
          have hn : fieldM v.f s.key = none := (field_none fun y hy => by simpa using List.findIdx?_eq_none_iff.1 hka y hy).1
          unfold partM
          rw [if_neg (by rw [hb]; simp), show (mapV v.f).f = v.f from rfl, hn]
          rfl
        have hput : putF v.f s.key R.1 = v.f ++ [(s.key, R.1)] := by unfold putF; rw [hka]
        have hm := more_run v.f s.key R.1 hbm
        rw [hput]
        have hZ := mapV_enc (v.f ++ [(s.key, R.1)])
        rw [hf, encS_of, hb] at h27
        rw [hp0, nullV_enc] at hr
        rw [hZ] at hm ⊢
        rw [mapV_enc v.f] at h27 hm
        rw [encV_eq x] at hr ⊢
        rw [encV_eq R.1] at hr hm
        rw [List.map_cons, encS_of, hb]
        rcases hve with ⟨hve, h0⟩ | hve
        · rw [hve]
          rw [h0, List.map_nil] at h27 hm
          rw [h0]
          (repeat' first | simp (disch := omega) only [go_sem, ac127, enter, zeroS, List.length_map, hpl] | refine pure_of _ (h27) ?_ | refine pure_of _ (hr) ?_ | refine pure_of _ (hm) ?_ | ((apply spl) <;> intro h <;> try simp (disch := omega) only [go_sem, ac127, enter, zeroS, List.length_map, hpl , h]))
        · rw [hve, mapV_enc v.f]
          (repeat' first | simp (disch := omega) only [go_sem, ac127, enter, zeroS, List.length_map, hpl] | refine pure_of _ (h27) ?_ | refine pure_of _ (hr) ?_ | refine pure_of _ (hm) ?_ | ((apply spl) <;> intro h <;> try simp (disch := omega) only [go_sem, ac127, enter, zeroS, List.length_map, hpl , h]))
      | some i =>
        obtain ⟨z, hz, hzk⟩ := keyAt_get hka
        have hf : findM (mapV v.f) s = ((i : Int), 0) := by
          unfold findM
          rw [if_neg (by rw [hb]; simp), if_neg (by simp [mapV, V.s]), show (mapV v.f).f = v.f from rfl, hka]
        have hp0 : partM (mapV v.f) s = z.2 := by
          have hn : fieldM v.f s.key = some z.2 := by
            obtain ⟨x', h1, h2⟩ := keyAt_some hka
            rw [hz] at h1
            cases h1
            exact h2
          unfold partM
          rw [if_neg (by rw [hb]; simp), show (mapV v.f).f = v.f from rfl, hn]
          rfl
        have hput : putF v.f s.key R.1 = v.f.set i (z.1, R.1) := by unfold putF; rw [hka, hzk]
        have h28 := refPartF_run (mapV v.f) z i rfl hz
        have hm := replF_run v.f i R.1 z hbm hz
        rw [hput]
        have hvm : encV v = encV (mapV v.f) := by
          rcases hve with ⟨_, h0⟩ | h
          · rw [h0] at hz
            simp at hz
          · exact h
        rw [hf, encS_of, hb] at h27
        rw [hp0] at hr
        have hZ := mapV_enc (v.f.set i (z.1, R.1))
        rw [hZ] at hm ⊢
        rw [hvm]
        rw [mapV_enc v.f] at h27 h28 hm ⊢
        rw [encV_eq z.2] at h28 hr
        rw [encV_eq x] at hr ⊢
        rw [encV_eq R.1] at hr hm
        rw [List.map_cons, encS_of, hb]
        (repeat' first | simp (disch := omega) only [go_sem, ac127, enter, zeroS, List.length_map, hpl] | refine pure_of _ (h27) ?_ | refine pure_of _ (h28) ?_ | refine pure_of _ (hr) ?_ | refine pure_of _ (hm) ?_ | ((apply spl) <;> intro h <;> try simp (disch := omega) only [go_sem, ac127, enter, zeroS, List.length_map, hpl , h]))
    · rw [if_pos he, nullV_enc]
      cases hka : keyAt v.f s.key with
      | none =>
        have hf : findM (mapV v.f) s = (0, 7) := by
          unfold findM
          rw [if_neg (by rw [hb]; simp), if_neg (by simp [mapV, V.s]), show (mapV v.f).f = v.f from rfl, hka]
        have hp0 : partM (mapV v.f) s = nullV := by
          have hn : fieldM v.f s.key = none := (field_none fun y hy => by simpa using List.findIdx?_eq_none_iff.1 hka y hy).1
          unfold partM
          rw [if_neg (by rw [hb]; simp), show (mapV v.f).f = v.f from rfl, hn]
          rfl
        rw [hf, encS_of, hb] at h27
        rw [hp0, nullV_enc] at hr
        rw [mapV_enc v.f] at h27
        rw [encV_eq x] at hr ⊢
        rw [encV_eq R.1] at hr
        rw [List.map_cons, encS_of, hb]
        rcases hve with ⟨hve, h0⟩ | hve
        · rw [hve]
          rw [h0, List.map_nil] at h27
          (repeat' first | simp (disch := omega) only [go_sem, ac127, enter, zeroS, List.length_map, hpl] | refine pure_of _ (h27) ?_ | refine pure_of _ (hr) ?_ | ((apply spl) <;> intro h <;> try simp (disch := omega) only [go_sem, ac127, enter, zeroS, List.length_map, hpl , h]))
        · rw [hve, mapV_enc v.f]
          (repeat' first | simp (disch := omega) only [go_sem, ac127, enter, zeroS, List.length_map, hpl] | refine pure_of _ (h27) ?_ | refine pure_of _ (hr) ?_ | ((apply spl) <;> intro h <;> try simp (disch := omega) only [go_sem, ac127, enter, zeroS, List.length_map, hpl , h]))
      | some i =>
        obtain ⟨z, hz, hzk⟩ := keyAt_get hka
        have hf : findM (mapV v.f) s = ((i : Int), 0) := by
          unfold findM
          rw [if_neg (by rw [hb]; simp), if_neg (by simp [mapV, V.s]), show (mapV v.f).f = v.f from rfl, hka]
        have hp0 : partM (mapV v.f) s = z.2 := by
          have hn : fieldM v.f s.key = some z.2 := by
            obtain ⟨x', h1, h2⟩ := keyAt_some hka
            rw [hz] at h1
            cases h1
            exact h2
          unfold partM
          rw [if_neg (by rw [hb]; simp), show (mapV v.f).f = v.f from rfl, hn]
          rfl
        have h28 := refPartF_run (mapV v.f) z i rfl hz
        have hvm : encV v = encV (mapV v.f) := by
          rcases hve with ⟨_, h0⟩ | h
          · rw [h0] at hz
            simp at hz
          · exact h
        rw [hf, encS_of, hb] at h27
        rw [hp0] at hr
        rw [hvm]
        rw [mapV_enc v.f] at h27 h28 ⊢
        rw [encV_eq z.2] at h28 hr
        rw [encV_eq x] at hr ⊢
        rw [encV_eq R.1] at hr
        rw [List.map_cons, encS_of, hb]
        (repeat' first | simp (disch := omega) only [go_sem, ac127, enter, zeroS, List.length_map, hpl] | refine pure_of _ (h27) ?_ | refine pure_of _ (h28) ?_ | refine pure_of _ (hr) ?_ | ((apply spl) <;> intro h <;> try simp (disch := omega) only [go_sem, ac127, enter, zeroS, List.length_map, hpl , h]))
  · rw [if_neg hk, nullV_enc]
    have hf : findM v s = (0, 6) := by
      unfold findM
      rw [if_neg (by rw [hb]; simp), if_pos (by omega)]
    have h27 := find_run v s hv
    rw [hf, encS_of, hb, encV_eq v] at h27
    rw [encV_eq v, encV_eq x, List.map_cons, encS_of, hb]
    (repeat' first | simp (disch := omega) only [go_sem, ac127, enter, zeroS, List.length_map, hpl] | refine pure_of _ (h27) ?_ | ((apply spl) <;> intro h <;> try simp (disch := omega) only [go_sem, ac127, enter, zeroS, List.length_map, hpl , h]))
end Ago
