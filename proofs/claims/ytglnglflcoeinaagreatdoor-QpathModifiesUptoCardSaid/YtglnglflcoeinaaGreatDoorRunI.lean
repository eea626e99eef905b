/- The reference's put, at an index. -/
import Derived.Test.YtglnglflcoeinaaGreatDoorRunH
import Derived.Test.YtglnglflcoeinaaGreatDoorRunE
import Derived.Test.YtglnglflcoeinaaGreatDoorRunD
import Derived.Test.YtglnglflcoeinaaGreatDoorRunG
set_option linter.unusedSimpArgs false
set_option linter.unusedVariables false
set_option maxRecDepth 100000
set_option maxHeartbeats 4000000
namespace Ago
open Go (IntKind)
theorem calm_rowN {n : Nat} {els : List AV} {fam : Nat} (h : ∀ x, x ∈ els → Still x) : Calm (.row n els false false fam) := by
  refine ⟨?_, fun f g => ?_, rfl⟩
  · show els.flatMap (AV.refsN 6) = []
    rw [List.flatMap_eq_nil_iff]
    exact fun x hx => (h x hx).1
  · show Blk.row n (els.map (AV.renN f 6)) false false (g fam) = .row n els false false (g fam)
    congr 1
    rw [List.map_congr_left (g := id) (fun x hx => (h x hx).2 f), List.map_id]
theorem calm_rowB {n : Nat} {els : List AV} {fl : Bool} {fam : Nat} (h : ∀ x, x ∈ els → Still x) : Calm (.row n els false fl fam) := by
  cases fl
  · exact calm_rowN h
  · exact calm_row _ _ _
theorem still_encV (v : V) : Still (encV v) := by
  rw [encV_eq]
  exact ⟨rfl, fun _ => rfl⟩
theorem still_zero : Still zeroS := ⟨rfl, fun _ => rfl⟩
theorem still_encO (o : Option V) : Still (encO o) := by
  cases o with
  | none => exact still_zero
  | some v => exact still_encV v
def outHpF (b : Nat) (fl : Bool) : List AV → Heap
  | [] => []
  | x :: l => [.row 13 (x :: l) false fl b]
theorem refPutIdx_step (s : Stp) (p : List Stp) (v x : V) (R : V × Int) {n : Nat} (hn : n ≤ 100) (hg : Gd n v) (hv : v.bulk ≤ 2 ^ 24) (hp' : p.length < 2 ^ 30 - 1) (hb : s.byIndex = true) (hi0 : 0 ≤ s.index) (hi1 : s.index < 2 ^ 30) (hlen : v.l.length ≤ 65536)
    (hr : v.s.kind = 0 ∨ v.s.kind = 6 → PRun C0 127 [encV (partM (listV v.l) s), .tsl 3 (p.map encS), encV x] (.tup [encV R.1, .int .i64 R.2])) :
    PRun C0 127 [encV v, .tsl 3 ((s :: p).map encS), encV x] (.tup [encV (if v.s.kind = 0 ∨ v.s.kind = 6 then if R.2 ≠ 0 then (nullV, R.2) else if 65536 ≤ s.index then (nullV, 10) else (listV (putL v.l s.index.toNat R.1), 0) else (nullV, 6)).1, .int .i64 (if v.s.kind = 0 ∨ v.s.kind = 6 then if R.2 ≠ 0 then (nullV, R.2) else if 65536 ≤ s.index then (nullV, 10) else (listV (putL v.l s.index.toNat R.1), 0) else (nullV, 6)).2]) := by
  obtain ⟨sh0, sh6, sh7⟩ := own_shape hg.own
  have hpl : List.take p.length (p.map encS) = p.map encS := List.take_of_length_le (by simp)
  refine prun_of ac127 rfl ?_
  by_cases hk : v.s.kind = 0 ∨ v.s.kind = 6
  · have hr := hr hk
    rw [if_pos hk]
    have hfit : fitsM (listV v.l) s = true := by simp [fitsM, hb, listV, V.s]
    obtain ⟨hgm, hbm⟩ := as_list hg hk
    have hbm : (listV v.l).bulk ≤ 2 ^ 24 := by omega
    have h27 := find_run (listV v.l) s hbm
    have hRE := encV_eq R.1
    have hll : v.l.length < 2 ^ 24 := (V.lens hbm).list
    have hve : (encV v = .agg [.int .i64 0, .bool false, .bool false, .str [], .int .i64 0, .int .i64 0, .int .i64 0, .int .i64 0, .int .i64 0, .str [], .tsl 1 [], .tsl 13 [], .tsl 14 []] ∧ v.l = []) ∨ encV v = encV (listV v.l) := by
      rcases hk with hk | hk
      · have hv0 := sh0 hk
        exact .inl ⟨by rw [hv0]; exact nullV_enc, by rw [hv0]; rfl⟩
      · exact .inr (congrArg encV (sh6 hk))
    by_cases hlt : s.index < v.l.length
    · obtain ⟨z, hz⟩ := get_some (s := v.l) (k := s.index.toNat) (by omega)
      have hf : findM (listV v.l) s = (s.index, 0) := by
        unfold findM
        rw [if_pos hb, if_neg (by simp [listV, V.s]), show (listV v.l).l = v.l from rfl, if_neg (show ¬ (s.index < 0 ∨ (v.l.length : Int) ≤ s.index) by omega)]
      have hp0 : partM (listV v.l) s = z := by
        unfold partM
        rw [if_pos hb, if_pos hi0, show (listV v.l).l = v.l from rfl, hz]
        rfl
      have h28 := refPartL_run (listV v.l) z s.index.toNat rfl hz
      have hm := replL_run v.l s.index.toNat R.1 hbm (by omega)
      have hti : ((s.index.toNat : Nat) : Int) = s.index := by omega
      rw [hti] at h28 hm
      have hput : putL v.l s.index.toNat R.1 = v.l.set s.index.toNat R.1 := by
        unfold putL
        rw [show s.index.toNat + 1 - v.l.length = 0 by omega, List.replicate_zero, List.append_nil]
      have hvm : encV v = encV (listV v.l) := by
        rcases hve with ⟨_, h0⟩ | h
        · rw [h0] at hz
          simp at hz
        · exact h
      rw [hput]
      have hZ := listV_enc (v.l.set s.index.toNat R.1)
      rw [hf, encS_of, hb] at h27
      rw [hp0] at hr
      rw [hvm]
      rw [listV_enc v.l] at h27 h28 ⊢
      rw [hZ, listV_enc v.l] at hm
      rw [encV_eq z] at h28 hr
      rw [encV_eq x] at hr ⊢
      rw [encV_eq R.1] at hr hm
      rw [List.map_cons, encS_of, hb]
      by_cases he : R.2 = 0
      · rw [if_neg (by rw [he]; simp)]
        rw [he] at hr
        by_cases hbig : 65536 ≤ s.index
        · omega
        · rw [if_neg hbig, hZ]
          (repeat' first | simp (disch := omega) only [go_sem, ac127, enter, zeroS, List.length_map, hpl] | refine pure_of _ (h27) ?_ | refine pure_of _ (h28) ?_ | refine pure_of _ (hr) ?_ | refine pure_of _ (hm) ?_ | ((apply spl) <;> intro h <;> try simp (disch := omega) only [go_sem, ac127, enter, zeroS, List.length_map, hpl , h]))
      · rw [if_pos he, nullV_enc]
        (repeat' first | simp (disch := omega) only [go_sem, ac127, enter, zeroS, List.length_map, hpl] | refine pure_of _ (h27) ?_ | refine pure_of _ (h28) ?_ | refine pure_of _ (hr) ?_ | ((apply spl) <;> intro h <;> try simp (disch := omega) only [go_sem, ac127, enter, zeroS, List.length_map, hpl , h]))
    · have hf : findM (listV v.l) s = (0, 7) := by
        unfold findM
        rw [if_pos hb, if_neg (by simp [listV, V.s]), show (listV v.l).l = v.l from rfl, if_pos (show s.index < 0 ∨ (v.l.length : Int) ≤ s.index by omega)]
      have hp0 : partM (listV v.l) s = nullV := by
        unfold partM
        rw [if_pos hb, if_pos hi0, show (listV v.l).l = v.l from rfl, List.getElem?_eq_none (by omega)]
        rfl
      rw [hf, encS_of, hb] at h27
      rw [hp0, nullV_enc] at hr
      rw [listV_enc v.l] at h27
      rw [encV_eq x] at hr ⊢
      rw [encV_eq R.1] at hr
      rw [List.map_cons, encS_of, hb]
      by_cases he : R.2 = 0
      · rw [if_neg (by rw [he]; simp)]
        rw [he] at hr
        by_cases hbig : 65536 ≤ s.index
        · rw [if_pos hbig, nullV_enc]
          rcases hve with ⟨hve, h0⟩ | hve
          · rw [hve]
            rw [h0, List.map_nil] at h27
            (repeat' first | simp (disch := omega) only [go_sem, ac127, enter, zeroS, List.length_map, hpl] | refine pure_of _ (h27) ?_ | refine pure_of _ (hr) ?_ | ((apply spl) <;> intro h <;> try simp (disch := omega) only [go_sem, ac127, enter, zeroS, List.length_map, hpl , h]))
          · rw [hve, listV_enc]
            (repeat' first | simp (disch := omega) only [go_sem, ac127, enter, zeroS, List.length_map, hpl] | refine pure_of _ (h27) ?_ | refine pure_of _ (hr) ?_ | ((apply spl) <;> intro h <;> try simp (disch := omega) only [go_sem, ac127, enter, zeroS, List.length_map, hpl , h]))
        · rw [if_neg hbig, listV_enc]
          rcases hve with ⟨hve, h0⟩ | hve
          · rw [hve]
            rw [h0, List.map_nil] at h27
            (repeat' first | simp (disch := omega) only [go_sem, ac127, enter, zeroS, List.length_map, hpl] | refine pure_of _ (h27) ?_ | refine pure_of _ (hr) ?_ | ((apply spl) <;> intro h <;> try simp (disch := omega) only [go_sem, ac127, enter, zeroS, List.length_map, hpl , h]))
            have hvl := h0
            refine loop_of (α := Nat × List AV) (fun a => { tmps := slots 110 [(1, .tsl 3 (.agg [.bool true, .str s.key, .int .i64 s.index] :: p.map encS)), (6, .ptr 13 0 0 0), (11, .ptr 13 1 0 0), (13, outSl 13 2 a.2)], heap := [.row 13 [zeroS] false true 0, .row 13 [encV R.1] false true 1] ++ outHpF 2 (a.1 == 0) a.2, base := 0 })
              (fun a => a.1 + v.l.length ≤ s.index.toNat ∧ a.2 = (v.l.map some ++ List.replicate a.1 none).map encO) (fun a => s.index.toNat - a.1) (0, v.l.map encV) (by rw [hvl, hRE]; simp only [List.map_cons, List.map_nil, outSl, outHpF, List.length_map]; rfl) ⟨by simp only; omega, by simp [encO]⟩ ?_
            rintro ⟨k, E⟩ ⟨hk1, hE⟩
            simp only at hk1 hE
            rw [hRE]
            have hlE : E.length = v.l.length + k := by rw [hE]; simp
            have hst : ∀ e, e ∈ E → Still e := fun e he => by
              rw [hE] at he
              obtain ⟨o, _, rfl⟩ := List.mem_map.1 he
              exact still_encO o
            have hput : (putL v.l s.index.toNat R.1) = ((v.l.map some ++ List.replicate (s.index.toNat - v.l.length) none).map fun o : Option V => o.getD nullV) ++ [R.1] := by
              unfold putL
              rw [show s.index.toNat + 1 - v.l.length = (s.index.toNat - v.l.length) + 1 by omega, List.replicate_succ', ← List.append_assoc, List.set_append_right _ _ (by simp; omega)]
              simp [List.map_map, Function.comp_def]
              rw [show s.index.toNat - (v.l.length + (s.index.toNat - v.l.length)) = 0 by omega]
              rfl
            have hnx : (v.l.map some ++ List.replicate (k + 1) none).map encO = E ++ [zeroS] := by
              rw [hE, List.replicate_succ', ← List.append_assoc, List.map_append]
              rfl
            have hfz : ∀ H : Heap, omap (frz H 3) (E ++ [encV R.1]) = some (((v.l.map some ++ List.replicate k none).map fun o : Option V => o.getD nullV).map encV ++ [encV R.1]) := fun H => by
              have := omap_encO H ((v.l.map some ++ List.replicate k none) ++ [some R.1])
              rw [List.map_append, ← hE] at this
              simpa [encO] using this
            by_cases hlt : k + v.l.length < s.index.toNat
            · cases E with
              | nil =>
                (repeat' first | simp (disch := omega) only [go_sem, outSl, outHpF, zeroS] | ((apply spl) <;> intro h <;> try simp (disch := omega) only [go_sem, outSl, outHpF, zeroS, h]))
                exact ⟨(k + 1, [zeroS]), rfl, ⟨by simp only; omega, hnx.symm⟩, by simp only; omega⟩
              | cons e es =>
                have hle : es.length + 1 = v.l.length + k := by simpa using hlE
                (repeat' first | simp (disch := omega) only [go_sem, outSl, outHpF, zeroS] | ((apply spl) <;> intro h <;> try simp (disch := omega) only [go_sem, outSl, outHpF, zeroS, h]))
                refine ⟨(k + 1, e :: es ++ [zeroS]), ?_, ⟨by simp only; omega, hnx.symm⟩, by simp only; omega⟩
                simp only [outSl, outHpF, List.cons_append, List.length_append, List.length_cons, List.length_nil]
                refine (norm_calm (.cons (calm_row _ _ _) (.cons (calm_row _ _ _) (.cons (calm_rowB hst) (.cons (calm_rowN fun x hx => ?_) (.cons (calm_rowN fun x hx => ?_) .nil)))))).trans rfl
                · rw [List.mem_singleton.1 hx]
                  exact still_zero
                · rcases List.mem_append.1 (show x ∈ (e :: es) ++ [zeroS] from hx) with hx | hx
                  · exact hst x hx
                  · rw [List.mem_singleton.1 hx]
                    exact still_zero
            · have hk2 : k = s.index.toNat - v.l.length := by omega
              have hnn : ¬ ((E.length : Int) < s.index) := by omega
              rw [hput, ← hk2, List.map_append, List.map_cons, List.map_nil, hRE]
              rw [hRE] at hfz
              cases E with
              | nil =>
                have hle : v.l.length + k = 0 := by simpa using hlE.symm
                have hA : (v.l.map some ++ List.replicate k none).map (fun o : Option V => o.getD nullV) = [] := by
                  refine List.eq_nil_of_length_eq_zero ?_
                  simpa using hle
                rw [hA, List.map_nil, List.nil_append]
                (repeat' first | simp (disch := omega) only [go_sem, outSl, outHpF, zeroS] | ((apply spl) <;> intro h <;> try simp (disch := omega) only [go_sem, outSl, outHpF, zeroS, h]))
              | cons e es =>
                have hle : es.length + 1 = v.l.length + k := by simpa using hlE
                have htk : ∀ y, List.take (es.length + 1) (es ++ [y]) = es ++ [y] := fun y => List.take_of_length_le (by simp)
                rw [List.cons_append] at hfz
                by_cases hk0 : k = 0
                · have hkb : (k == 0) = true := by simp [hk0]
                  have hA : ((v.l.map some ++ List.replicate k none).map (fun o : Option V => o.getD nullV)).map encV = e :: es := by
                    rw [hE, hk0]
                    simp [Function.comp_def, encO]
                  rw [hA, List.cons_append]
                  (repeat' first | simp (disch := omega) only [go_sem, outSl, outHpF, zeroS, hkb, List.length_append, htk] | ((apply spl) <;> intro h <;> try simp (disch := omega) only [go_sem, outSl, outHpF, zeroS, hkb, List.length_append, htk, h]))
                · have hkb : (k == 0) = false := by simp [hk0]
                  (repeat' first | simp (disch := omega) only [go_sem, outSl, outHpF, zeroS, hkb, List.length_append, htk, hfz] | ((apply spl) <;> intro h <;> try simp (disch := omega) only [go_sem, outSl, outHpF, zeroS, hkb, List.length_append, htk, hfz, h]))
          · rw [hve, listV_enc]
            by_cases hvl : v.l = []
            · have hvm : v.l.map encV = [] := by rw [hvl]; rfl
              rw [hvm] at h27 ⊢
              (repeat' first | simp (disch := omega) only [go_sem, ac127, enter, zeroS, List.length_map, hpl] | refine pure_of _ (h27) ?_ | refine pure_of _ (hr) ?_ | ((apply spl) <;> intro h <;> try simp (disch := omega) only [go_sem, ac127, enter, zeroS, List.length_map, hpl , h]))
              refine loop_of (α := Nat × List AV) (fun a => { tmps := slots 110 [(1, .tsl 3 (.agg [.bool true, .str s.key, .int .i64 s.index] :: p.map encS)), (6, .ptr 13 0 0 0), (11, .ptr 13 1 0 0), (13, outSl 13 2 a.2)], heap := [.row 13 [zeroS] false true 0, .row 13 [encV R.1] false true 1] ++ outHpF 2 (a.1 == 0) a.2, base := 0 })
                (fun a => a.1 + v.l.length ≤ s.index.toNat ∧ a.2 = (v.l.map some ++ List.replicate a.1 none).map encO) (fun a => s.index.toNat - a.1) (0, v.l.map encV) (by rw [hvl, hRE]; simp only [List.map_cons, List.map_nil, outSl, outHpF, List.length_map]; rfl) ⟨by simp only; omega, by simp [encO]⟩ ?_
              rintro ⟨k, E⟩ ⟨hk1, hE⟩
              simp only at hk1 hE
              rw [hRE]
              have hlE : E.length = v.l.length + k := by rw [hE]; simp
              have hst : ∀ e, e ∈ E → Still e := fun e he => by
                rw [hE] at he
                obtain ⟨o, _, rfl⟩ := List.mem_map.1 he
                exact still_encO o
              have hput : (putL v.l s.index.toNat R.1) = ((v.l.map some ++ List.replicate (s.index.toNat - v.l.length) none).map fun o : Option V => o.getD nullV) ++ [R.1] := by
                unfold putL
                rw [show s.index.toNat + 1 - v.l.length = (s.index.toNat - v.l.length) + 1 by omega, List.replicate_succ', ← List.append_assoc, List.set_append_right _ _ (by simp; omega)]
                simp [List.map_map, Function.comp_def]
                rw [show s.index.toNat - (v.l.length + (s.index.toNat - v.l.length)) = 0 by omega]
                rfl
              have hnx : (v.l.map some ++ List.replicate (k + 1) none).map encO = E ++ [zeroS] := by
                rw [hE, List.replicate_succ', ← List.append_assoc, List.map_append]
                rfl
              have hfz : ∀ H : Heap, omap (frz H 3) (E ++ [encV R.1]) = some (((v.l.map some ++ List.replicate k none).map fun o : Option V => o.getD nullV).map encV ++ [encV R.1]) := fun H => by
                have := omap_encO H ((v.l.map some ++ List.replicate k none) ++ [some R.1])
                rw [List.map_append, ← hE] at this
                simpa [encO] using this
              by_cases hlt : k + v.l.length < s.index.toNat
              · cases E with
                | nil =>
                  (repeat' first | simp (disch := omega) only [go_sem, outSl, outHpF, zeroS] | ((apply spl) <;> intro h <;> try simp (disch := omega) only [go_sem, outSl, outHpF, zeroS, h]))
                  exact ⟨(k + 1, [zeroS]), rfl, ⟨by simp only; omega, hnx.symm⟩, by simp only; omega⟩
                | cons e es =>
                  have hle : es.length + 1 = v.l.length + k := by simpa using hlE
                  (repeat' first | simp (disch := omega) only [go_sem, outSl, outHpF, zeroS] | ((apply spl) <;> intro h <;> try simp (disch := omega) only [go_sem, outSl, outHpF, zeroS, h]))
                  refine ⟨(k + 1, e :: es ++ [zeroS]), ?_, ⟨by simp only; omega, hnx.symm⟩, by simp only; omega⟩
                  simp only [outSl, outHpF, List.cons_append, List.length_append, List.length_cons, List.length_nil]
                  refine (norm_calm (.cons (calm_row _ _ _) (.cons (calm_row _ _ _) (.cons (calm_rowB hst) (.cons (calm_rowN fun x hx => ?_) (.cons (calm_rowN fun x hx => ?_) .nil)))))).trans rfl
                  · rw [List.mem_singleton.1 hx]
                    exact still_zero
                  · rcases List.mem_append.1 (show x ∈ (e :: es) ++ [zeroS] from hx) with hx | hx
                    · exact hst x hx
                    · rw [List.mem_singleton.1 hx]
                      exact still_zero
              · have hk2 : k = s.index.toNat - v.l.length := by omega
                have hnn : ¬ ((E.length : Int) < s.index) := by omega
                rw [hput, ← hk2, List.map_append, List.map_cons, List.map_nil, hRE]
                rw [hRE] at hfz
                cases E with
                | nil =>
                  have hle : v.l.length + k = 0 := by simpa using hlE.symm
                  have hA : (v.l.map some ++ List.replicate k none).map (fun o : Option V => o.getD nullV) = [] := by
                    refine List.eq_nil_of_length_eq_zero ?_
                    simpa using hle
                  rw [hA, List.map_nil, List.nil_append]
                  (repeat' first | simp (disch := omega) only [go_sem, outSl, outHpF, zeroS] | ((apply spl) <;> intro h <;> try simp (disch := omega) only [go_sem, outSl, outHpF, zeroS, h]))
                | cons e es =>
                  have hle : es.length + 1 = v.l.length + k := by simpa using hlE
                  have htk : ∀ y, List.take (es.length + 1) (es ++ [y]) = es ++ [y] := fun y => List.take_of_length_le (by simp)
                  rw [List.cons_append] at hfz
                  by_cases hk0 : k = 0
                  · have hkb : (k == 0) = true := by simp [hk0]
                    have hA : ((v.l.map some ++ List.replicate k none).map (fun o : Option V => o.getD nullV)).map encV = e :: es := by
                      rw [hE, hk0]
                      simp [Function.comp_def, encO]
                    rw [hA, List.cons_append]
                    (repeat' first | simp (disch := omega) only [go_sem, outSl, outHpF, zeroS, hkb, List.length_append, htk] | ((apply spl) <;> intro h <;> try simp (disch := omega) only [go_sem, outSl, outHpF, zeroS, hkb, List.length_append, htk, h]))
                  · have hkb : (k == 0) = false := by simp [hk0]
                    (repeat' first | simp (disch := omega) only [go_sem, outSl, outHpF, zeroS, hkb, List.length_append, htk, hfz] | ((apply spl) <;> intro h <;> try simp (disch := omega) only [go_sem, outSl, outHpF, zeroS, hkb, List.length_append, htk, hfz, h]))
            · obtain ⟨y, l, hvl⟩ := List.exists_cons_of_ne_nil hvl
              have hvm : v.l.map encV = encV y :: l.map encV := by rw [hvl]; rfl
              rw [hvm] at h27 ⊢
              rw [hvl, List.length_cons] at hll
              (repeat' first | simp (disch := omega) only [go_sem, ac127, enter, zeroS, List.length_map, hpl] | refine pure_of _ (h27) ?_ | refine pure_of _ (hr) ?_ | ((apply spl) <;> intro h <;> try simp (disch := omega) only [go_sem, ac127, enter, zeroS, List.length_map, hpl , h]))
              refine loop_of (α := Nat × List AV) (fun a => { tmps := slots 110 [(1, .tsl 3 (.agg [.bool true, .str s.key, .int .i64 s.index] :: p.map encS)), (6, .ptr 13 0 0 0), (11, .ptr 13 1 0 0), (13, outSl 13 2 a.2)], heap := [.row 13 [zeroS] false true 0, .row 13 [encV R.1] false true 1] ++ outHpF 2 (a.1 == 0) a.2, base := 0 })
                (fun a => a.1 + v.l.length ≤ s.index.toNat ∧ a.2 = (v.l.map some ++ List.replicate a.1 none).map encO) (fun a => s.index.toNat - a.1) (0, v.l.map encV) (by rw [hvl, hRE]; simp only [List.map_cons, List.map_nil, outSl, outHpF, List.length_map]; rfl) ⟨by simp only; omega, by simp [encO]⟩ ?_
              rintro ⟨k, E⟩ ⟨hk1, hE⟩
              simp only at hk1 hE
              rw [hRE]
              have hlE : E.length = v.l.length + k := by rw [hE]; simp
              have hst : ∀ e, e ∈ E → Still e := fun e he => by
                rw [hE] at he
                obtain ⟨o, _, rfl⟩ := List.mem_map.1 he
                exact still_encO o
              have hput : (putL v.l s.index.toNat R.1) = ((v.l.map some ++ List.replicate (s.index.toNat - v.l.length) none).map fun o : Option V => o.getD nullV) ++ [R.1] := by
                unfold putL
                rw [show s.index.toNat + 1 - v.l.length = (s.index.toNat - v.l.length) + 1 by omega, List.replicate_succ', ← List.append_assoc, List.set_append_right _ _ (by simp; omega)]
                simp [List.map_map, Function.comp_def]
                rw [show s.index.toNat - (v.l.length + (s.index.toNat - v.l.length)) = 0 by omega]
                rfl
              have hnx : (v.l.map some ++ List.replicate (k + 1) none).map encO = E ++ [zeroS] := by
                rw [hE, List.replicate_succ', ← List.append_assoc, List.map_append]
                rfl
              have hfz : ∀ H : Heap, omap (frz H 3) (E ++ [encV R.1]) = some (((v.l.map some ++ List.replicate k none).map fun o : Option V => o.getD nullV).map encV ++ [encV R.1]) := fun H => by
                have := omap_encO H ((v.l.map some ++ List.replicate k none) ++ [some R.1])
                rw [List.map_append, ← hE] at this
                simpa [encO] using this
              by_cases hlt : k + v.l.length < s.index.toNat
              · cases E with
                | nil =>
                  (repeat' first | simp (disch := omega) only [go_sem, outSl, outHpF, zeroS] | ((apply spl) <;> intro h <;> try simp (disch := omega) only [go_sem, outSl, outHpF, zeroS, h]))
                  exact ⟨(k + 1, [zeroS]), rfl, ⟨by simp only; omega, hnx.symm⟩, by simp only; omega⟩
                | cons e es =>
                  have hle : es.length + 1 = v.l.length + k := by simpa using hlE
                  (repeat' first | simp (disch := omega) only [go_sem, outSl, outHpF, zeroS] | ((apply spl) <;> intro h <;> try simp (disch := omega) only [go_sem, outSl, outHpF, zeroS, h]))
                  refine ⟨(k + 1, e :: es ++ [zeroS]), ?_, ⟨by simp only; omega, hnx.symm⟩, by simp only; omega⟩
                  simp only [outSl, outHpF, List.cons_append, List.length_append, List.length_cons, List.length_nil]
                  refine (norm_calm (.cons (calm_row _ _ _) (.cons (calm_row _ _ _) (.cons (calm_rowB hst) (.cons (calm_rowN fun x hx => ?_) (.cons (calm_rowN fun x hx => ?_) .nil)))))).trans rfl
                  · rw [List.mem_singleton.1 hx]
                    exact still_zero
                  · rcases List.mem_append.1 (show x ∈ (e :: es) ++ [zeroS] from hx) with hx | hx
                    · exact hst x hx
                    · rw [List.mem_singleton.1 hx]
                      exact still_zero
              · have hk2 : k = s.index.toNat - v.l.length := by omega
                have hnn : ¬ ((E.length : Int) < s.index) := by omega
                rw [hput, ← hk2, List.map_append, List.map_cons, List.map_nil, hRE]
                rw [hRE] at hfz
                cases E with
                | nil =>
                  have hle : v.l.length + k = 0 := by simpa using hlE.symm
                  have hA : (v.l.map some ++ List.replicate k none).map (fun o : Option V => o.getD nullV) = [] := by
                    refine List.eq_nil_of_length_eq_zero ?_
                    simpa using hle
                  rw [hA, List.map_nil, List.nil_append]
                  (repeat' first | simp (disch := omega) only [go_sem, outSl, outHpF, zeroS] | ((apply spl) <;> intro h <;> try simp (disch := omega) only [go_sem, outSl, outHpF, zeroS, h]))
                | cons e es =>
                  have hle : es.length + 1 = v.l.length + k := by simpa using hlE
                  have htk : ∀ y, List.take (es.length + 1) (es ++ [y]) = es ++ [y] := fun y => List.take_of_length_le (by simp)
                  rw [List.cons_append] at hfz
                  by_cases hk0 : k = 0
                  · have hkb : (k == 0) = true := by simp [hk0]
                    have hA : ((v.l.map some ++ List.replicate k none).map (fun o : Option V => o.getD nullV)).map encV = e :: es := by
                      rw [hE, hk0]
                      simp [Function.comp_def, encO]
                    rw [hA, List.cons_append]
                    (repeat' first | simp (disch := omega) only [go_sem, outSl, outHpF, zeroS, hkb, List.length_append, htk] | ((apply spl) <;> intro h <;> try simp (disch := omega) only [go_sem, outSl, outHpF, zeroS, hkb, List.length_append, htk, h]))
                  · have hkb : (k == 0) = false := by simp [hk0]
                    (repeat' first | simp (disch := omega) only [go_sem, outSl, outHpF, zeroS, hkb, List.length_append, htk, hfz] | ((apply spl) <;> intro h <;> try simp (disch := omega) only [go_sem, outSl, outHpF, zeroS, hkb, List.length_append, htk, hfz, h]))
      · rw [if_pos he, nullV_enc]
        rcases hve with ⟨hve, h0⟩ | hve
        · rw [hve]
          rw [h0, List.map_nil] at h27
          (repeat' first | simp (disch := omega) only [go_sem, ac127, enter, zeroS, List.length_map, hpl] | refine pure_of _ (h27) ?_ | refine pure_of _ (hr) ?_ | ((apply spl) <;> intro h <;> try simp (disch := omega) only [go_sem, ac127, enter, zeroS, List.length_map, hpl , h]))
        · rw [hve, listV_enc]
          (repeat' first | simp (disch := omega) only [go_sem, ac127, enter, zeroS, List.length_map, hpl] | refine pure_of _ (h27) ?_ | refine pure_of _ (hr) ?_ | ((apply spl) <;> intro h <;> try simp (disch := omega) only [go_sem, ac127, enter, zeroS, List.length_map, hpl , h]))
  · rw [if_neg hk, nullV_enc]
    have hf : findM v s = (0, 6) := by
      unfold findM
      rw [if_pos hb, if_pos (by omega)]
    have h27 := find_run v s hv
    rw [hf, encS_of, hb, encV_eq v] at h27
    rw [encV_eq v, encV_eq x, List.map_cons, encS_of, hb]
    (repeat' first | simp (disch := omega) only [go_sem, ac127, enter, zeroS, List.length_map, hpl] | refine pure_of _ (h27) ?_ | ((apply spl) <;> intro h <;> try simp (disch := omega) only [go_sem, ac127, enter, zeroS, List.length_map, hpl , h]))
end Ago
/- Few values: what Small says. -/
set_option maxRecDepth 100000
set_option maxHeartbeats 4000000
namespace Ago
open Go (IntKind)
/-- No list and no map in it has more parts. -/
inductive Few (N : Nat) : V → Prop where
  | mk {v : V} (hl : v.l.length ≤ N) (hf : v.f.length ≤ N) (hk : ∀ x, x ∈ v.l → Few N x) (hkf : ∀ x, x ∈ v.f → Few N x.2) : Few N v
theorem room_few (N : Nat) (hN : N < 2 ^ 30) : ∀ (n : Nat) (v : V), v.bulk ≤ n → n ≤ 2 ^ 24 → ∀ (left d : Int), 0 ≤ left → left ≤ N → -1 ≤ d → d < 2 ^ 30 → ∃ r : Int, PRun C0 38 [encV v, .int .i64 left, .int .i64 d] (.int .i64 r) ∧ -1 ≤ r ∧ r ≤ N ∧ (0 ≤ r → Few N v) := by
  intro n
  induction n with
  | zero =>
    intro v hv
    have : 1 ≤ v.bulk := bulk_one _
    omega
  | succ n ih =>
    intro v hv hn left d hl1 hl2 hd1 hd2
    have L := V.lens (v := v) (N := 2 ^ 24) (by omega)
    have h := prunE_of (C := C0) (f := 38) (ts := [encV v, .int .i64 left, .int .i64 d]) (k := fun w => ∃ r : Int, w = .int .i64 r ∧ -1 ≤ r ∧ r ≤ N ∧ (0 ≤ r → Few N v)) ac38 rfl (by
      rw [encV_eq]
      by_cases hdz : d ≤ 0
      · (repeat' first | simp (disch := omega) only [go_sem, ac38, enter, List.length_map] | ((apply spl) <;> intro h <;> try simp (disch := omega) only [go_sem, ac38, enter, List.length_map, h]))
        exact ⟨_, rfl, by omega, by omega, fun h => by omega⟩
      by_cases hlb : (v.l.length : Int) ≤ left - 1 ∧ (v.f.length : Int) ≤ left - 1
      · obtain ⟨hlb1, hlb2⟩ := hlb
        (repeat' first | simp (disch := omega) only [go_sem, ac38, enter, List.length_map] | ((apply spl) <;> intro h <;> try simp (disch := omega) only [go_sem, ac38, enter, List.length_map, h]))
        all_goals first | omega | skip
        refine loop_of (α := Nat × Int) (fun a => { tmps := slots 69 [(1, .int .i64 a.2), (2, .int .i64 d), (3, .ptr 13 0 0 0), (7, .int .i64 a.1)], heap := [.row 13 [encV v] false true 0], base := 0 }) (fun a => a.1 ≤ v.l.length ∧ -1 ≤ a.2 ∧ a.2 ≤ N ∧ (0 ≤ a.2 → ∀ x, x ∈ v.l.take a.1 → Few N x)) (fun a => v.l.length - a.1) (0, left - 1) (by rw [encV_eq]; rfl) ⟨Nat.zero_le _, by simp only; omega, by simp only; omega, by simp⟩ ?_
        rintro ⟨k, lf⟩ ⟨hk, hs3, hs4, hs5⟩
        simp only at hk hs3 hs4 hs5
        rw [encV_eq]
        by_cases hlt : k < v.l.length ∧ 0 ≤ lf
        · obtain ⟨hlt, hlf⟩ := hlt
          obtain ⟨x, hx⟩ := get_some hlt
          have hxm := List.mem_of_getElem? hx
          have hx2 := map_get (g := encV) hx
          obtain ⟨r, hr, k1, k2, k3⟩ := ih x (by have := L.kids x hxm; omega) (by omega) lf (d - 1) (by omega) (by omega) (by omega) (by omega)
          rw [encV_eq] at hx2 hr
          (repeat' first | simp (disch := omega) only [go_sem, hx2, List.length_map] | refine pure_of _ (hr) ?_ | ((apply spl) <;> intro h <;> try simp (disch := omega) only [go_sem, hx2, List.length_map , h]))
          refine ⟨(k + 1, r), rfl, ⟨hlt, by simp only; omega, by simp only; omega, fun h y hy => ?_⟩, by simp only; omega⟩
          rw [List.take_add_one, hx] at hy
          rcases List.mem_append.1 hy with hy | hy
          · exact hs5 hlf y hy
          · have e : y = x := by simpa using hy
            rw [e]
            exact k3 h
        · by_cases hlt2 : k < v.l.length
          · have hlf : lf < 0 := by omega
            have hall : 0 ≤ lf → ∀ x, x ∈ v.l → Few N x := fun h => by omega
            (repeat' first | simp (disch := omega) only [go_sem, List.length_map] | ((apply spl) <;> intro h <;> try simp (disch := omega) only [go_sem, List.length_map, h]))
            refine loop_of (α := Nat × Int) (fun a => { tmps := slots 69 [(1, .int .i64 a.2), (2, .int .i64 d), (3, .ptr 13 0 0 0), (8, .int .i64 a.1)], heap := [.row 13 [encV v] false true 0], base := 0 }) (fun a => a.1 ≤ v.f.length ∧ -1 ≤ a.2 ∧ a.2 ≤ N ∧ (0 ≤ a.2 → (∀ x, x ∈ v.l → Few N x) ∧ ∀ x, x ∈ v.f.take a.1 → Few N x.2)) (fun a => v.f.length - a.1) (0, lf) (by rw [encV_eq]; rfl) ⟨Nat.zero_le _, by simp only; omega, by simp only; omega, fun h => ⟨hall h, by simp⟩⟩ ?_
            clear hk hs3 hs4 hlt hlt2 hs5 hall
            rintro ⟨k, lf⟩ ⟨hk, hs3, hs4, hs5⟩
            simp only at hk hs3 hs4 hs5
            rw [encV_eq]
            by_cases hlt : k < v.f.length ∧ 0 ≤ lf
            · obtain ⟨hlt, hlf⟩ := hlt
              obtain ⟨x, hx⟩ := get_some hlt
              have hxm := List.mem_of_getElem? hx
              have hx2 := map_get (g := encFd) hx
              obtain ⟨r, hr, k1, k2, k3⟩ := ih x.2 (by have := (L.fkids x hxm).1; omega) (by omega) lf (d - 1) (by omega) (by omega) (by omega) (by omega)
              rw [encFd_eq] at hx2
              rw [encV_eq] at hr
              (repeat' first | simp (disch := omega) only [go_sem, hx2, List.length_map] | refine pure_of _ (hr) ?_ | ((apply spl) <;> intro h <;> try simp (disch := omega) only [go_sem, hx2, List.length_map , h]))
              refine ⟨(k + 1, r), rfl, ⟨hlt, by simp only; omega, by simp only; omega, fun h => ⟨(hs5 hlf).1, fun y hy => ?_⟩⟩, by simp only; omega⟩
              rw [List.take_add_one, hx] at hy
              rcases List.mem_append.1 hy with hy | hy
              · exact (hs5 hlf).2 y hy
              · have e : y = x := by simpa using hy
                rw [e]
                exact k3 h
            · by_cases hlt2 : k < v.f.length
              · have hlf : lf < 0 := by omega
                (repeat' first | simp (disch := omega) only [go_sem, List.length_map] | ((apply spl) <;> intro h <;> try simp (disch := omega) only [go_sem, List.length_map, h]))
                exact ⟨_, rfl, by omega, by omega, fun h => by omega⟩
              · rw [take_len hlt2 hk] at hs5
                (repeat' first | simp (disch := omega) only [go_sem, List.length_map] | ((apply spl) <;> intro h <;> try simp (disch := omega) only [go_sem, List.length_map, h]))
                exact ⟨_, rfl, by omega, by omega, fun h => .mk (by omega) (by omega) (hs5 h).1 (hs5 h).2⟩
          · have hall : 0 ≤ lf → ∀ x, x ∈ v.l → Few N x := fun h => by
              have := hs5 h
              rwa [take_len hlt2 hk] at this
            (repeat' first | simp (disch := omega) only [go_sem, List.length_map] | ((apply spl) <;> intro h <;> try simp (disch := omega) only [go_sem, List.length_map, h]))
            refine loop_of (α := Nat × Int) (fun a => { tmps := slots 69 [(1, .int .i64 a.2), (2, .int .i64 d), (3, .ptr 13 0 0 0), (8, .int .i64 a.1)], heap := [.row 13 [encV v] false true 0], base := 0 }) (fun a => a.1 ≤ v.f.length ∧ -1 ≤ a.2 ∧ a.2 ≤ N ∧ (0 ≤ a.2 → (∀ x, x ∈ v.l → Few N x) ∧ ∀ x, x ∈ v.f.take a.1 → Few N x.2)) (fun a => v.f.length - a.1) (0, lf) (by rw [encV_eq]; rfl) ⟨Nat.zero_le _, by simp only; omega, by simp only; omega, fun h => ⟨hall h, by simp⟩⟩ ?_
            clear hk hs3 hs4 hlt hlt2 hs5 hall
            rintro ⟨k, lf⟩ ⟨hk, hs3, hs4, hs5⟩
            simp only at hk hs3 hs4 hs5
            rw [encV_eq]
            by_cases hlt : k < v.f.length ∧ 0 ≤ lf
            · obtain ⟨hlt, hlf⟩ := hlt
              obtain ⟨x, hx⟩ := get_some hlt
              have hxm := List.mem_of_getElem? hx
              have hx2 := map_get (g := encFd) hx
              obtain ⟨r, hr, k1, k2, k3⟩ := ih x.2 (by have := (L.fkids x hxm).1; omega) (by omega) lf (d - 1) (by omega) (by omega) (by omega) (by omega)
              rw [encFd_eq] at hx2
              rw [encV_eq] at hr
              (repeat' first | simp (disch := omega) only [go_sem, hx2, List.length_map] | refine pure_of _ (hr) ?_ | ((apply spl) <;> intro h <;> try simp (disch := omega) only [go_sem, hx2, List.length_map , h]))
              refine ⟨(k + 1, r), rfl, ⟨hlt, by simp only; omega, by simp only; omega, fun h => ⟨(hs5 hlf).1, fun y hy => ?_⟩⟩, by simp only; omega⟩
              rw [List.take_add_one, hx] at hy
              rcases List.mem_append.1 hy with hy | hy
              · exact (hs5 hlf).2 y hy
              · have e : y = x := by simpa using hy
                rw [e]
                exact k3 h
            · by_cases hlt2 : k < v.f.length
              · have hlf : lf < 0 := by omega
                (repeat' first | simp (disch := omega) only [go_sem, List.length_map] | ((apply spl) <;> intro h <;> try simp (disch := omega) only [go_sem, List.length_map, h]))
                exact ⟨_, rfl, by omega, by omega, fun h => by omega⟩
              · rw [take_len hlt2 hk] at hs5
                (repeat' first | simp (disch := omega) only [go_sem, List.length_map] | ((apply spl) <;> intro h <;> try simp (disch := omega) only [go_sem, List.length_map, h]))
                exact ⟨_, rfl, by omega, by omega, fun h => .mk (by omega) (by omega) (hs5 h).1 (hs5 h).2⟩
      · (repeat' first | simp (disch := omega) only [go_sem, ac38, enter, List.length_map] | ((apply spl) <;> intro h <;> try simp (disch := omega) only [go_sem, ac38, enter, List.length_map, h]))
        all_goals first | omega | exact ⟨_, rfl, by omega, by omega, fun h => by omega⟩)
    obtain ⟨w, k1, r, rfl, k2, k3, k4⟩ := h
    exact ⟨r, k1, k2, k3, k4⟩
theorem small_few (v : V) (hv : v.bulk ≤ 2 ^ 24) (N : Nat) (hN : N < 2 ^ 30) (d : Int) (h3 : -1 ≤ d) (h4 : d < 2 ^ 30) : ∃ b, PRun C0 18 [encV v, .int .i64 N, .int .i64 d] (.bool b) ∧ (b = true → Few N v) := by
  obtain ⟨r, k1, _, _, k2⟩ := room_few N hN _ v (Nat.le_refl _) hv N d (by omega) (by omega) h3 h4
  rw [encV_eq] at k1 ⊢
  refine ⟨decide (r ≥ 0), prun_of ac18 rfl ?_, fun h => k2 (by simpa using h)⟩
  (repeat' first | simp (disch := omega) only [go_sem, ac18, enter] | refine pure_of _ (k1) ?_ | ((apply spl) <;> intro h <;> try simp (disch := omega) only [go_sem, ac18, enter , h]))
/-- The law's valid. -/
theorem lawValid_run (v : V) (hv : v.bulk ≤ 2 ^ 24) : ∃ b, PRun C0 6 [encV v] (.bool b) ∧ (b = true → Gd 48 v ∧ Few 150 v) := by
  obtain ⟨b, h1, h1'⟩ := small_few v hv 150 (by omega) 60 (by omega) (by omega)
  have h2 := check_run v hv
  have h1 : PRun C0 18 [encV v, .int .i64 150, .int .i64 60] (.bool b) := h1
  cases b with
  | false =>
    refine ⟨false, prun_of ac6 rfl ?_, fun h => by cases h⟩
    rw [encV_eq] at h1 ⊢
    (repeat' first | simp (disch := omega) only [go_sem, ac6, enter] | refine pure_of _ (h1) ?_ | ((apply spl) <;> intro h <;> try simp (disch := omega) only [go_sem, ac6, enter , h]))
  | true =>
    refine ⟨checkM v == 0, prun_of ac6 rfl ?_, fun h => ⟨check_gd (by simpa using h), h1' rfl⟩⟩
    rw [encV_eq] at h1 h2 ⊢
    (repeat' first | simp (disch := omega) only [go_sem, ac6, enter] | refine pure_of _ (h1) ?_ | refine pure_of _ (h2) ?_ | ((apply spl) <;> intro h <;> try simp (disch := omega) only [go_sem, ac6, enter , h]))
end Ago
/- The reference's put, whole; how large what is put becomes. -/
set_option maxRecDepth 100000
set_option maxHeartbeats 4000000
namespace Ago
open Go (IntKind)
theorem nullV_few (N : Nat) : Few N nullV := .mk (by simp [nullV, V.l]) (by simp [nullV, V.f]) (fun x hx => by simp [nullV, V.l] at hx) fun x hx => by simp [nullV, V.f] at hx
theorem part_few {N : Nat} {v : V} {s : Stp} (h : Few N v) : Few N (partM v s) := by
  cases h with
  | mk hl hf hk hkf =>
    unfold partM
    split
    · split
      · cases hx : v.l[s.index.toNat]? with
        | none => exact nullV_few N
        | some x => exact hk x (List.mem_of_getElem? hx)
      · exact nullV_few N
    · cases hx : fieldM v.f s.key with
      | none => exact nullV_few N
      | some x =>
        obtain ⟨y, hy, rfl⟩ := field_mem hx
        exact hkf y hy
theorem Few.list {N : Nat} {v : V} (h : Few N v) : Few N (listV v.l) := by
  cases h with
  | mk hl hf hk hkf => exact .mk hl (by simp [listV, V.f]) hk fun x hx => by simp [listV, V.f] at hx
theorem Few.map {N : Nat} {v : V} (h : Few N v) : Few N (mapV v.f) := by
  cases h with
  | mk hl hf hk hkf => exact .mk (by simp [mapV, V.l]) hf (fun x hx => by simp [mapV, V.l] at hx) hkf
theorem Few.len {N : Nat} {v : V} (h : Few N v) : v.l.length ≤ N := by
  cases h with
  | mk hl hf hk hkf => exact hl
theorem refPut_run : ∀ (p : List Stp) (v x : V), (∃ n, n ≤ 100 ∧ Gd n v) → v.bulk ≤ 2 ^ 24 → Few 65536 v → p.length < 2 ^ 30 → (∀ s, s ∈ p → stpIn s) → PRun C0 127 [encV v, .tsl 3 (p.map encS), encV x] (.tup [encV (putM p v x).1, .int .i64 (putM p v x).2])
  | [], v, x, hg, hv, hfew, hp, hs => by
    refine prun_of ac127 rfl ?_
    rw [show putM [] v x = (x, 0) from rfl]
    rw [encV_eq v, encV_eq x]
    (repeat' first | simp (disch := omega) only [go_sem, ac127, enter, List.map_nil] | ((apply spl) <;> intro h <;> try simp (disch := omega) only [go_sem, ac127, enter, List.map_nil, h]))
  | s :: p, v, x, hg, hv, hfew, hp, hs => by
    have hp' : p.length < 2 ^ 30 - 1 := by
      have : p.length + 1 < 2 ^ 30 := by simpa using hp
      omega
    obtain ⟨n, hn, hg⟩ := hg
    have hs0 := hs s (by simp)
    rw [putM_cons]
    cases hb : s.byIndex with
    | true =>
      rw [if_pos rfl]
      obtain ⟨hi0, hi1⟩ := hs0 hb
      refine refPutIdx_step s p v x (putM p (partM (listV v.l) s) x) hn hg hv hp' hb hi0 hi1 hfew.len fun hk => ?_
      obtain ⟨hgm, hbm⟩ := as_list hg hk
      obtain ⟨hpg, hpb⟩ := part_sub hn hgm (by omega) (s := s) (by simp [fitsM, hb, listV, V.s])
      exact refPut_run p _ x hpg hpb (part_few hfew.list) (by omega) fun t ht => hs t (by simp [ht])
    | false =>
      rw [if_neg (by simp)]
      refine refPutKey_step s p v x (putM p (partM (mapV v.f) s) x) hn hg hv hp' hb fun hk => ?_
      obtain ⟨hgm, hbm⟩ := as_map hg hk
      obtain ⟨hpg, hpb⟩ := part_sub hn hgm (by omega) (s := s) (by simp [fitsM, hb, mapV, V.s])
      exact refPut_run p _ x hpg hpb (part_few hfew.map) (by omega) fun t ht => hs t (by simp [ht])

/-! ### How large -/

theorem bulks_set : ∀ {l : List AV} {i : Nat} {x y : AV}, l[i]? = some x → AV.bulks (l.set i y) + x.bulk = AV.bulks l + y.bulk
  | [], i, x, y, h => by simp at h
  | z :: l, 0, x, y, h => by
    simp at h
    subst h
    simp [AV.bulks]
    omega
  | z :: l, i + 1, x, y, h => by
    have := bulks_set (l := l) (i := i) (x := x) (y := y) (by simpa using h)
    simp [AV.bulks]
    omega
theorem bulks_rep (n : Nat) (x : AV) : AV.bulks (List.replicate n x) = n * x.bulk := by
  induction n with
  | zero => simp [AV.bulks]
  | succ n ih =>
    rw [List.replicate_succ, show AV.bulks (x :: List.replicate n x) = x.bulk + AV.bulks (List.replicate n x) by simp [AV.bulks], ih, Nat.add_mul, Nat.one_mul]
    omega
theorem bulk_listV (l : List V) : (listV l).bulk = AV.bulks (l.map encV) + 14 := by
  rw [V.bulk_eq]
  simp [listV, V.s, V.l, V.f, encB, AV.bulks]
theorem bulk_mapV (f : List (List UInt8 × V)) : (mapV f).bulk = AV.bulks (f.map encFd) + 14 := by
  rw [V.bulk_eq]
  simp [mapV, V.s, V.l, V.f, encB, AV.bulks]
theorem bulk_fd (x : List UInt8 × V) : (encFd x).bulk = x.2.bulk + x.1.length + 1 := by
  unfold V.bulk encFd
  rw [encV_eq]
  simp [AV.bulk, AV.bulks, AV.cells]
  omega
theorem bulk_null : nullV.bulk = 14 := by
  unfold V.bulk
  rw [nullV_enc]
  rfl
theorem putL_bulk (l : List V) (i : Nat) (y : V) : (listV (putL l i y)).bulk + ((l[i]?).getD nullV).bulk ≤ (listV l).bulk + y.bulk + (i + 1) * 15 + 14 := by
  rw [bulk_listV, bulk_listV]
  unfold putL
  rw [List.map_set]
  by_cases h : i < l.length
  · have hx : l[i]? = some l[i] := List.getElem?_eq_getElem h
    rw [hx, show i + 1 - l.length = 0 by omega, List.replicate_zero, List.append_nil]
    have := bulks_set (y := encV y) (map_get (g := encV) hx)
    simp only [Option.getD_some]
    show _ + (encV l[i]).bulk ≤ _ + (encV y).bulk + _ + _
    omega
  · rw [List.getElem?_eq_none (by omega), Option.getD_none]
    have hx : ((l ++ List.replicate (i + 1 - l.length) nullV).map encV)[i]? = some (encV nullV) := by
      rw [List.getElem?_map, List.getElem?_append_right (by omega), List.getElem?_replicate, if_pos (by omega)]
      rfl
    have := bulks_set (y := encV y) hx
    have e1 : AV.bulks ((l ++ List.replicate (i + 1 - l.length) nullV).map encV) = AV.bulks (l.map encV) + (i + 1 - l.length) * 14 := by
      rw [List.map_append, bulks_append, List.map_replicate, bulks_rep, show (encV nullV).bulk = 14 from bulk_null]
    have e2 : (encV nullV).bulk = 14 := bulk_null
    have e3 : nullV.bulk = 14 := bulk_null
    have e4 : (i + 1 - l.length) * 14 ≤ (i + 1) * 15 := Nat.mul_le_mul (by omega) (by omega)
    have e5 : (encV y).bulk = y.bulk := rfl
    omega
theorem putF_bulk (f : List (List UInt8 × V)) (key : List UInt8) (y : V) : (mapV (putF f key y)).bulk + ((fieldM f key).getD nullV).bulk ≤ (mapV f).bulk + y.bulk + key.length + 20 := by
  rw [bulk_mapV, bulk_mapV]
  unfold putF
  cases hka : keyAt f key with
  | none =>
    have hn : fieldM f key = none := (field_none fun y hy => by simpa using List.findIdx?_eq_none_iff.1 hka y hy).1
    rw [hn, Option.getD_none, bulk_null]
    simp only
    rw [List.map_append, bulks_append]
    have := bulk_fd (key, y)
    simp only [List.map_cons, List.map_nil, AV.bulks]
    simp only at this
    omega
  | some i =>
    obtain ⟨z, hz, hzk⟩ := keyAt_get hka
    have hn : fieldM f key = some z.2 := by
      obtain ⟨x', h1, h2⟩ := keyAt_some hka
      rw [hz] at h1
      cases h1
      exact h2
    rw [hn, Option.getD_some]
    simp only
    rw [List.map_set]
    have := bulks_set (y := encFd (key, y)) (map_get (g := encFd) hz)
    rw [bulk_fd, bulk_fd, hzk] at this
    simp only at this
    omega
end Ago
/- Put, and the reference's Put. -/
set_option maxRecDepth 100000
set_option maxHeartbeats 4000000
namespace Ago
open Go (IntKind)
/-- What Put returns. -/
def putC (p : List Stp) (v x : V) : V × Int :=
  if p = [] then (x, 0) else if (putM p v x).2 ≠ 0 then (nullV, (putM p v x).2) else if checkM (putM p v x).1 ≠ 0 then (nullV, checkM (putM p v x).1) else ((putM p v x).1, 0)
theorem putC_cases {p : List Stp} (hp : p ≠ []) (v x : V) : ((putM p v x).2 ≠ 0 ∧ putC p v x = (nullV, (putM p v x).2)) ∨ ((putM p v x).2 = 0 ∧ checkM (putM p v x).1 ≠ 0 ∧ putC p v x = (nullV, checkM (putM p v x).1)) ∨ ((putM p v x).2 = 0 ∧ checkM (putM p v x).1 = 0 ∧ putC p v x = ((putM p v x).1, 0)) := by
  unfold putC
  rw [if_neg hp]
  by_cases h1 : (putM p v x).2 = 0
  · rw [if_neg (by rw [h1]; simp)]
    by_cases h2 : checkM (putM p v x).1 = 0
    · rw [if_neg (by rw [h2]; simp)]
      exact .inr (.inr ⟨h1, h2, rfl⟩)
    · rw [if_pos h2]
      exact .inr (.inl ⟨h1, h2, rfl⟩)
  · rw [if_pos h1]
    exact .inl ⟨h1, rfl⟩
theorem qPut_run (p : List Stp) (v x : V) (hg : ∃ n, n ≤ 100 ∧ Gd n v) (hv : v.bulk ≤ 2 ^ 24) (hx : ∃ n, n ≤ 100 ∧ Gd n x) (hxv : x.bulk ≤ 2 ^ 24) (hp : p.length < 2 ^ 30) (hs : ∀ s, s ∈ p → stpIn s) (hb : (putM p v x).1.bulk ≤ 2 ^ 24) :
    PRun C0 121 [encV v, .tsl 3 (p.map encS), encV x] (.tup [encV (putC p v x).1, .int .i64 (putC p v x).2]) := by
  have h1 := put_run p v x hg hv hp hs
  have h2 := checkV_run _ hb
  obtain ⟨m, hm, hgx⟩ := hx
  have h4 := copy_run hgx.good (by omega) hxv
  refine prun_of ac121 rfl ?_
  by_cases h0 : p = []
  · subst h0
    rw [show putC [] v x = (x, 0) from rfl]
    rw [encV_eq x] at h4 ⊢
    rw [encV_eq v]
    (repeat' first | simp (disch := omega) only [go_sem, ac121, enter, zeroS, List.map_nil] | refine pure_of _ (h4) ?_ | ((apply spl) <;> intro h <;> try simp (disch := omega) only [go_sem, ac121, enter, zeroS, List.map_nil , h]))
  · have hlen : 0 < p.length := List.length_pos_iff.2 h0
    rcases putC_cases h0 v x with ⟨e1, e2⟩ | ⟨e1, e2, e3⟩ | ⟨e1, e2, e3⟩
    · rw [e2, nullV_enc]
      generalize putM p v x = R at h1 h2 e1
      rw [encV_eq v, encV_eq x] at h1 ⊢
      rw [encV_eq R.1] at h1
      (repeat' first | simp (disch := omega) only [go_sem, ac121, enter, zeroS, List.length_map] | refine pure_of _ (h1) ?_ | ((apply spl) <;> intro h <;> try simp (disch := omega) only [go_sem, ac121, enter, zeroS, List.length_map , h]))
    · rw [e3, nullV_enc]
      generalize putM p v x = R at h1 h2 e1 e2
      rw [e1] at h1
      rw [encV_eq v, encV_eq x] at h1 ⊢
      rw [encV_eq R.1] at h1 h2
      (repeat' first | simp (disch := omega) only [go_sem, ac121, enter, zeroS, List.length_map] | refine pure_of _ (h1) ?_ | refine pure_of _ (h2) ?_ | ((apply spl) <;> intro h <;> try simp (disch := omega) only [go_sem, ac121, enter, zeroS, List.length_map , h]))
    · rw [e3]
      have h3 := copy_run (check_gd e2).good (by omega) hb
      generalize putM p v x = R at h1 h2 h3 e1 e2
      rw [e1] at h1
      rw [e2] at h2
      rw [encV_eq v, encV_eq x] at h1 ⊢
      rw [encV_eq R.1] at h1 h2 h3 ⊢
      (repeat' first | simp (disch := omega) only [go_sem, ac121, enter, zeroS, List.length_map] | refine pure_of _ (h1) ?_ | refine pure_of _ (h2) ?_ | refine pure_of _ (h3) ?_ | ((apply spl) <;> intro h <;> try simp (disch := omega) only [go_sem, ac121, enter, zeroS, List.length_map , h]))
theorem refPutQ_run (p : List Stp) (v x : V) (hg : ∃ n, n ≤ 100 ∧ Gd n v) (hv : v.bulk ≤ 2 ^ 24) (hfew : Few 65536 v) (hp : p.length < 2 ^ 30) (hs : ∀ s, s ∈ p → stpIn s) (hb : (putM p v x).1.bulk ≤ 2 ^ 24) :
    PRun C0 122 [encV v, .tsl 3 (p.map encS), encV x] (.tup [encV (putC p v x).1, .int .i64 (putC p v x).2]) := by
  have h1 := refPut_run p v x hg hv hfew hp hs
  have h2 := check_run _ hb
  refine prun_of ac122 rfl ?_
  by_cases h0 : p = []
  · subst h0
    rw [show putC [] v x = (x, 0) from rfl]
    rw [encV_eq v, encV_eq x]
    (repeat' first | simp (disch := omega) only [go_sem, ac122, enter, zeroS, List.map_nil] | ((apply spl) <;> intro h <;> try simp (disch := omega) only [go_sem, ac122, enter, zeroS, List.map_nil, h]))
  · have hlen : 0 < p.length := List.length_pos_iff.2 h0
    rcases putC_cases h0 v x with ⟨e1, e2⟩ | ⟨e1, e2, e3⟩ | ⟨e1, e2, e3⟩
    · rw [e2, nullV_enc]
      generalize putM p v x = R at h1 h2 e1
      rw [encV_eq v, encV_eq x] at h1 ⊢
      rw [encV_eq R.1] at h1
      (repeat' first | simp (disch := omega) only [go_sem, ac122, enter, zeroS, List.length_map] | refine pure_of _ (h1) ?_ | ((apply spl) <;> intro h <;> try simp (disch := omega) only [go_sem, ac122, enter, zeroS, List.length_map , h]))
    · rw [e3, nullV_enc]
      generalize putM p v x = R at h1 h2 e1 e2
      rw [e1] at h1
      rw [encV_eq v, encV_eq x] at h1 ⊢
      rw [encV_eq R.1] at h1 h2
      (repeat' first | simp (disch := omega) only [go_sem, ac122, enter, zeroS, List.length_map] | refine pure_of _ (h1) ?_ | refine pure_of _ (h2) ?_ | ((apply spl) <;> intro h <;> try simp (disch := omega) only [go_sem, ac122, enter, zeroS, List.length_map , h]))
    · rw [e3]
      generalize putM p v x = R at h1 h2 e1 e2
      rw [e1] at h1
      rw [e2] at h2
      rw [encV_eq v, encV_eq x] at h1 ⊢
      rw [encV_eq R.1] at h1 h2 ⊢
      (repeat' first | simp (disch := omega) only [go_sem, ac122, enter, zeroS, List.length_map] | refine pure_of _ (h1) ?_ | refine pure_of _ (h2) ?_ | ((apply spl) <;> intro h <;> try simp (disch := omega) only [go_sem, ac122, enter, zeroS, List.length_map , h]))
noncomputable def nearM (p : List Stp) : Bool := pathOk p && p.all fun s => decide (s.index ≤ 200)
theorem near_run (p : List Stp) (hp : p.length < 2 ^ 30) (hk : ∀ s, s ∈ p → s.key.length < 2 ^ 30) : PRun C0 120 [.tsl 3 (p.map encS)] (.bool (nearM p)) := by
  have h1 := validPath_run p hp hk
  refine prun_of ac120 rfl ?_
  unfold nearM
  cases hb : pathOk p with
  | false =>
    rw [hb] at h1
    (repeat' first | simp (disch := omega) only [go_sem, ac120, enter] | refine pure_of _ (h1) ?_ | ((apply spl) <;> intro h <;> try simp (disch := omega) only [go_sem, ac120, enter , h]))
  | true =>
    rw [hb] at h1
    (repeat' first | simp (disch := omega) only [go_sem, ac120, enter] | refine pure_of _ (h1) ?_ | ((apply spl) <;> intro h <;> try simp (disch := omega) only [go_sem, ac120, enter , h]))
    refine loop_of (α := Nat) (fun k => { tmps := slots 19 [(0, .tsl 3 (p.map encS)), (3, .int .i64 k)], heap := [], base := 0 }) (fun k => k ≤ p.length ∧ ∀ s, s ∈ p.take k → s.index ≤ 200) (fun k => p.length - k) 0 rfl ⟨Nat.zero_le _, by simp⟩ ?_
    rintro k ⟨hk1, hk2⟩
    by_cases hlt : k < p.length
    · obtain ⟨s, hs⟩ := get_some hlt
      have hs2 := map_get (g := encS) hs
      rw [encS_of] at hs2
      by_cases h200 : 200 < s.index
      · have hall : (p.all fun s => decide (s.index ≤ 200)) = false := by
          rw [List.all_eq_false]
          exact ⟨s, List.mem_of_getElem? hs, by simp; omega⟩
        rw [hall]
        (repeat' first | simp (disch := omega) only [go_sem, hs2, List.length_map] | ((apply spl) <;> intro h <;> try simp (disch := omega) only [go_sem, hs2, List.length_map, h]))
      · (repeat' first | simp (disch := omega) only [go_sem, hs2, List.length_map] | ((apply spl) <;> intro h <;> try simp (disch := omega) only [go_sem, hs2, List.length_map, h]))
        refine ⟨k + 1, rfl, ⟨hlt, fun y hy => ?_⟩, by omega⟩
        rw [List.take_add_one, hs] at hy
        rcases List.mem_append.1 hy with hy | hy
        · exact hk2 y hy
        · have e : y = s := by simpa using hy
          rw [e]
          omega
    · rw [take_len hlt hk1] at hk2
      have hall : (p.all fun s => decide (s.index ≤ 200)) = true := by
        rw [List.all_eq_true]
        exact fun s hs => by simpa using hk2 s hs
      rw [hall]
      (repeat' first | simp (disch := omega) only [go_sem, List.length_map] | ((apply spl) <;> intro h <;> try simp (disch := omega) only [go_sem, List.length_map, h]))
end Ago
/- What is put is what is read; putting it again changes nothing. -/
namespace Ago
end Ago
