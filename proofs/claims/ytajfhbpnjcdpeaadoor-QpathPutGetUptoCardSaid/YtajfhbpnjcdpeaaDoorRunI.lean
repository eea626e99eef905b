/- The reference's put, at an index. -/
import Derived.Test.YtajfhbpnjcdpeaaDoorRunH
import Derived.Test.YtajfhbpnjcdpeaaDoorRunE
import Derived.Test.YtajfhbpnjcdpeaaDoorRunD
import Derived.Test.YtajfhbpnjcdpeaaDoorRunG
set_option linter.unusedSimpArgs false
set_option linter.unusedVariables false
set_option maxRecDepth 100000
set_option maxHeartbeats 4000000
namespace Ago
open Go (IntKind)
theorem calm_rowN {n : Nat} {els : List AV} {fam : Nat} (h : ∀ x, x ∈ els → Still x) : Calm (.row n els false false fam) := by
  refine ⟨?_, fun f g => ?_, rfl⟩
  · show els.flatMap (AV.refsN 6) = []
    rw [List.flatMap_eq_nil_iff]
    exact fun x hx => (h x hx).1
  · show Blk.row n (els.map (AV.renN f 6)) false false (g fam) = .row n els false false (g fam)
    congr 1
    rw [List.map_congr_left (g := id) (fun x hx => (h x hx).2 f), List.map_id]
theorem calm_rowB {n : Nat} {els : List AV} {fl : Bool} {fam : Nat} (h : ∀ x, x ∈ els → Still x) : Calm (.row n els false fl fam) := by
  cases fl
  · exact calm_rowN h
  · exact calm_row _ _ _
theorem still_encV (v : V) : Still (encV v) := by
  rw [encV_eq]
  exact ⟨rfl, fun _ => rfl⟩
theorem still_zero : Still zeroS := ⟨rfl, fun _ => rfl⟩
theorem still_encO (o : Option V) : Still (encO o) := by
  cases o with
  | none => exact still_zero
  | some v => exact still_encV v
def outHpF (b : Nat) (fl : Bool) : List AV → Heap
  | [] => []
  | x :: l => [.row 13 (x :: l) false fl b]
theorem refPutIdx_step (s : Stp) (p : List Stp) (v x : V) (R : V × Int) {n : Nat} (hn : n ≤ 48) (hg : Gd n v) (hv : v.bulk ≤ 2 ^ 24) (hp' : p.length < 2 ^ 30 - 1) (hb : s.byIndex = true) (hi0 : 0 ≤ s.index) (hi1 : s.index < 2 ^ 30) (hlen : v.l.length ≤ 65536)
    (hr : v.s.kind = 0 ∨ v.s.kind = 6 → PRun C0 127 [encV (partM (listV v.l) s), .tsl 3 (p.map encS), encV x] (.tup [encV R.1, .int .i64 R.2])) :
    PRun C0 127 [encV v, .tsl 3 ((s :: p).map encS), encV x] (.tup [encV (if v.s.kind = 0 ∨ v.s.kind = 6 then if R.2 ≠ 0 then (nullV, R.2) else if 65536 ≤ s.index then (nullV, 10) else (listV (putL v.l s.index.toNat R.1), 0) else (nullV, 6)).1, .int .i64 (if v.s.kind = 0 ∨ v.s.kind = 6 then if R.2 ≠ 0 then (nullV, R.2) else if 65536 ≤ s.index then (nullV, 10) else (listV (putL v.l s.index.toNat R.1), 0) else (nullV, 6)).2]) := by
  obtain ⟨sh0, sh6, sh7⟩ := own_shape hg.own
  have hpl : List.take p.length (p.map encS) = p.map encS := List.take_of_length_le (by simp)
  refine prun_of ac127 rfl ?_
  by_cases hk : v.s.kind = 0 ∨ v.s.kind = 6
  · have hr := hr hk
    rw [if_pos hk]
    have hfit : fitsM (listV v.l) s = true := by simp [fitsM, hb, listV, V.s]
    obtain ⟨hgm, hbm⟩ := as_list hg hk
    have hbm : (listV v.l).bulk ≤ 2 ^ 24 := by omega
    have h27 := find_run (listV v.l) s hbm
    have hRE := encV_eq R.1
    have hll : v.l.length < 2 ^ 24 := (V.lens hbm).list
    have hve : (encV v = .agg [.int .i64 0, .bool false, .bool false, .str [], .int .i64 0, .int .i64 0, .int .i64 0, .int .i64 0, .int .i64 0, .str [], .tsl 1 [], .tsl 13 [], .tsl 14 []] ∧ v.l = []) ∨ encV v = encV (listV v.l) := by
      rcases hk with hk | hk
      · have hv0 := sh0 hk
        exact .inl ⟨by rw [hv0]; exact nullV_enc, by rw [hv0]; rfl⟩
      · exact .inr (congrArg encV (sh6 hk))
    by_cases hlt : s.index < v.l.length
    · obtain ⟨z, hz⟩ := get_some (s := v.l) (k := s.index.toNat) (by omega)
      have hf : findM (listV v.l) s = (s.index, 0) := by
        unfold findM
        rw [if_pos hb, if_neg (by simp [listV, V.s]), show (listV v.l).l = v.l from rfl, if_neg (show ¬ (s.index < 0 ∨ (v.l.length : Int) ≤ s.index) by omega)]
      have hp0 : partM (listV v.l) s = z := by
        unfold partM
        rw [if_pos hb, if_pos hi0, show (listV v.l).l = v.l from rfl, hz]
        rfl
      have h28 := refPartL_run (listV v.l) z s.index.toNat rfl hz
      have hm := replL_run v.l s.index.toNat R.1 hbm (by omega)
      have hti : ((s.index.toNat : Nat) : Int) = s.index := by omega
      rw [hti] at h28 hm
      have hput : putL v.l s.index.toNat R.1 = v.l.set s.index.toNat R.1 := by
        unfold putL
        rw [show s.index.toNat + 1 - v.l.length = 0 by omega, List.replicate_zero, List.append_nil]
      have hvm : encV v = encV (listV v.l) := by
        rcases hve with ⟨_, h0⟩ | h
        · rw [h0] at hz
          simp at hz
        · exact h
      rw [hput]
      have hZ := listV_enc (v.l.set s.index.toNat R.1)
      rw [hf, encS_of, hb] at h27
      rw [hp0] at hr
      rw [hvm]
      rw [listV_enc v.l] at h27 h28 ⊢
      rw [hZ, listV_enc v.l] at hm
      rw [encV_eq z] at h28 hr
      rw [encV_eq x] at hr ⊢
      rw [encV_eq R.1] at hr hm
      rw [List.map_cons, encS_of, hb]
      by_cases he : R.2 = 0
      · rw [if_neg (by rw [he]; simp)]
        rw [he] at hr
        by_cases hbig : 65536 ≤ s.index
        · omega
        · rw [if_neg hbig, hZ]
          (repeat' first | simp (disch := omega) only [go_sem, ac127, enter, zeroS, List.length_map, hpl] | refine pure_of _ (h27) ?_ | refine pure_of _ (h28) ?_ | refine pure_of _ (hr) ?_ | refine pure_of _ (hm) ?_ | ((first | refine wantDf ?_ ?_ | refine wantDt ?_ ?_ | refine wantEf ?_ ?_ | refine wantEt ?_ ?_ | refine wantNf ?_ ?_ | refine wantNt ?_ ?_ | refine wantNBf ?_ ?_ | refine wantNBt ?_ ?_ | refine wantBf ?_ ?_ | refine wantBt ?_ ?_ | refine boolD ?_ ?_ | refine boolE ?_ ?_ | refine boolN ?_ ?_ | refine boolNB ?_ ?_ | refine boolB ?_ ?_) <;> intro h <;> try simp (disch := omega) only [go_sem, ac127, enter, zeroS, List.length_map, hpl , h]))
      · rw [if_pos he, nullV_enc]
        (repeat' first | simp (disch := omega) only [go_sem, ac127, enter, zeroS, List.length_map, hpl] | refine pure_of _ (h27) ?_ | refine pure_of _ (h28) ?_ | refine pure_of _ (hr) ?_ | ((first | refine wantDf ?_ ?_ | refine wantDt ?_ ?_ | refine wantEf ?_ ?_ | refine wantEt ?_ ?_ | refine wantNf ?_ ?_ | refine wantNt ?_ ?_ | refine wantNBf ?_ ?_ | refine wantNBt ?_ ?_ | refine wantBf ?_ ?_ | refine wantBt ?_ ?_ | refine boolD ?_ ?_ | refine boolE ?_ ?_ | refine boolN ?_ ?_ | refine boolNB ?_ ?_ | refine boolB ?_ ?_) <;> intro h <;> try simp (disch := omega) only [go_sem, ac127, enter, zeroS, List.length_map, hpl , h]))
    · have hf : findM (listV v.l) s = (0, 7) := by
        unfold findM
        rw [if_pos hb, if_neg (by simp [listV, V.s]), show (listV v.l).l = v.l from rfl, if_pos (show s.index < 0 ∨ (v.l.length : Int) ≤ s.index by omega)]
      have hp0 : partM (listV v.l) s = nullV := by
        unfold partM
        rw [if_pos hb, if_pos hi0, show (listV v.l).l = v.l from rfl, List.getElem?_eq_none (by omega)]
        rfl
      rw [hf, encS_of, hb] at h27
      rw [hp0, nullV_enc] at hr
      rw [listV_enc v.l] at h27
      rw [encV_eq x] at hr ⊢
      rw [encV_eq R.1] at hr
      rw [List.map_cons, encS_of, hb]
      by_cases he : R.2 = 0
      · rw [if_neg (by rw [he]; simp)]
        rw [he] at hr
        by_cases hbig : 65536 ≤ s.index
        · rw [if_pos hbig, nullV_enc]
          rcases hve with ⟨hve, h0⟩ | hve
          · rw [hve]
            rw [h0, List.map_nil] at h27
            (repeat' first | simp (disch := omega) only [go_sem, ac127, enter, zeroS, List.length_map, hpl] | refine pure_of _ (h27) ?_ | refine pure_of _ (hr) ?_ | ((first | refine wantDf ?_ ?_ | refine wantDt ?_ ?_ | refine wantEf ?_ ?_ | refine wantEt ?_ ?_ | refine wantNf ?_ ?_ | refine wantNt ?_ ?_ | refine wantNBf ?_ ?_ | refine wantNBt ?_ ?_ | refine wantBf ?_ ?_ | refine wantBt ?_ ?_ | refine boolD ?_ ?_ | refine boolE ?_ ?_ | refine boolN ?_ ?_ | refine boolNB ?_ ?_ | refine boolB ?_ ?_) <;> intro h <;> try simp (disch := omega) only [go_sem, ac127, enter, zeroS, List.length_map, hpl , h]))
          · rw [hve, listV_enc]
            (repeat' first | simp (disch := omega) only [go_sem, ac127, enter, zeroS, List.length_map, hpl] | refine pure_of _ (h27) ?_ | refine pure_of _ (hr) ?_ | ((first | refine wantDf ?_ ?_ | refine wantDt ?_ ?_ | refine wantEf ?_ ?_ | refine wantEt ?_ ?_ | refine wantNf ?_ ?_ | refine wantNt ?_ ?_ | refine wantNBf ?_ ?_ | refine wantNBt ?_ ?_ | refine wantBf ?_ ?_ | refine wantBt ?_ ?_ | refine boolD ?_ ?_ | refine boolE ?_ ?_ | refine boolN ?_ ?_ | refine boolNB ?_ ?_ | refine boolB ?_ ?_) <;> intro h <;> try simp (disch := omega) only [go_sem, ac127, enter, zeroS, List.length_map, hpl , h]))
        · rw [if_neg hbig, listV_enc]
          rcases hve with ⟨hve, h0⟩ | hve
          · rw [hve]
            rw [h0, List.map_nil] at h27
            (repeat' first | simp (disch := omega) only [go_sem, ac127, enter, zeroS, List.length_map, hpl] | refine pure_of _ (h27) ?_ | refine pure_of _ (hr) ?_ | ((first | refine wantDf ?_ ?_ | refine wantDt ?_ ?_ | refine wantEf ?_ ?_ | refine wantEt ?_ ?_ | refine wantNf ?_ ?_ | refine wantNt ?_ ?_ | refine wantNBf ?_ ?_ | refine wantNBt ?_ ?_ | refine wantBf ?_ ?_ | refine wantBt ?_ ?_ | refine boolD ?_ ?_ | refine boolE ?_ ?_ | refine boolN ?_ ?_ | refine boolNB ?_ ?_ | refine boolB ?_ ?_) <;> intro h <;> try simp (disch := omega) only [go_sem, ac127, enter, zeroS, List.length_map, hpl , h]))
            have hvl := h0
            refine loop_of (α := Nat × List AV) (fun a => { tmps := slots 110 [(1, .tsl 3 (.agg [.bool true, .str s.key, .int .i64 s.index] :: p.map encS)), (6, .ptr 13 0 0 0), (11, .ptr 13 1 0 0), (13, outSl 13 2 a.2)], heap := [.row 13 [zeroS] false true 0, .row 13 [encV R.1] false true 1] ++ outHpF 2 (a.1 == 0) a.2, base := 0 })
              (fun a => a.1 + v.l.length ≤ s.index.toNat ∧ a.2 = (v.l.map some ++ List.replicate a.1 none).map encO) (fun a => s.index.toNat - a.1) (0, v.l.map encV) (by rw [hvl, hRE]; simp only [List.map_cons, List.map_nil, outSl, outHpF, List.length_map]; rfl) ⟨by simp only; omega, by simp [encO]⟩ ?_
            rintro ⟨k, E⟩ ⟨hk1, hE⟩
            simp only at hk1 hE
            rw [hRE]
            have hlE : E.length = v.l.length + k := by rw [hE]; simp
            have hst : ∀ e, e ∈ E → Still e := fun e he => by
              rw [hE] at he
              obtain ⟨o, _, rfl⟩ := List.mem_map.1 he
              exact still_encO o
            have hput : (putL v.l s.index.toNat R.1) = ((v.l.map some ++ List.replicate (s.index.toNat - v.l.length) none).map fun o : Option V => o.getD nullV) ++ [R.1] := by
              unfold putL
              rw [show s.index.toNat + 1 - v.l.length = (s.index.toNat - v.l.length) + 1 by omega, List.replicate_succ', ← List.append_assoc, List.set_append_right _ _ (by simp; omega)]
              simp [List.map_map, Function.comp_def]
              rw [show s.index.toNat - (v.l.length + (s.index.toNat - v.l.length)) = 0 by omega]
              rfl
            have hnx : (v.l.map some ++ List.replicate (k + 1) none).map encO = E ++ [zeroS] := by
              rw [hE, List.replicate_succ', ← List.append_assoc, List.map_append]
              rfl
            have hfz : ∀ H : Heap, omap (frz H 3) (E ++ [encV R.1]) = some (((v.l.map some ++ List.replicate k none).map fun o : Option V => o.getD nullV).map encV ++ [encV R.1]) := fun H => by
              have := omap_encO H ((v.l.map some ++ List.replicate k none) ++ [some R.1])
              rw [List.map_append, ← hE] at this
              simpa [encO] using this
            by_cases hlt : k + v.l.length < s.index.toNat
            · cases E with
              | nil =>
                (repeat' first | simp (disch := omega) only [go_sem, outSl, outHpF, zeroS] | ((first | refine wantDf ?_ ?_ | refine wantDt ?_ ?_ | refine wantEf ?_ ?_ | refine wantEt ?_ ?_ | refine wantNf ?_ ?_ | refine wantNt ?_ ?_ | refine wantNBf ?_ ?_ | refine wantNBt ?_ ?_ | refine wantBf ?_ ?_ | refine wantBt ?_ ?_ | refine boolD ?_ ?_ | refine boolE ?_ ?_ | refine boolN ?_ ?_ | refine boolNB ?_ ?_ | refine boolB ?_ ?_) <;> intro h <;> try simp (disch := omega) only [go_sem, outSl, outHpF, zeroS, h]))
                exact ⟨(k + 1, [zeroS]), rfl, ⟨by simp only; omega, hnx.symm⟩, by simp only; omega⟩
              | cons e es =>
                have hle : es.length + 1 = v.l.length + k := by simpa using hlE
                (repeat' first | simp (disch := omega) only [go_sem, outSl, outHpF, zeroS] | ((first | refine wantDf ?_ ?_ | refine wantDt ?_ ?_ | refine wantEf ?_ ?_ | refine wantEt ?_ ?_ | refine wantNf ?_ ?_ | refine wantNt ?_ ?_ | refine wantNBf ?_ ?_ | refine wantNBt ?_ ?_ | refine wantBf ?_ ?_ | refine wantBt ?_ ?_ | refine boolD ?_ ?_ | refine boolE ?_ ?_ | refine boolN ?_ ?_ | refine boolNB ?_ ?_ | refine boolB ?_ ?_) <;> intro h <;> try simp (disch := omega) only [go_sem, outSl, outHpF, zeroS, h]))
                refine ⟨(k + 1, e :: es ++ [zeroS]), ?_, ⟨by simp only; omega, hnx.symm⟩, by simp only; omega⟩
                simp only [outSl, outHpF, List.cons_append, List.length_append, List.length_cons, List.length_nil]
                refine (norm_calm (.cons (calm_row _ _ _) (.cons (calm_row _ _ _) (.cons (calm_rowB hst) (.cons (calm_rowN fun x hx => ?_) (.cons (calm_rowN fun x hx => ?_) .nil)))))).trans rfl
                · rw [List.mem_singleton.1 hx]
                  exact still_zero
                · rcases List.mem_append.1 (show x ∈ (e :: es) ++ [zeroS] from hx) with hx | hx
                  · exact hst x hx
                  · rw [List.mem_singleton.1 hx]
                    exact still_zero
            · have hk2 : k = s.index.toNat - v.l.length := by omega
              have hnn : ¬ ((E.length : Int) < s.index) := by omega
              rw [hput, ← hk2, List.map_append, List.map_cons, List.map_nil, hRE]
              rw [hRE] at hfz
              cases E with
              | nil =>
                have hle : v.l.length + k = 0 := by simpa using hlE.symm
                have hA : (v.l.map some ++ List.replicate k none).map (fun o : Option V => o.getD nullV) = [] := by
                  refine List.eq_nil_of_length_eq_zero ?_
                  simpa using hle
                rw [hA, List.map_nil, List.nil_append]
                (repeat' first | simp (disch := omega) only [go_sem, outSl, outHpF, zeroS] | ((first | refine wantDf ?_ ?_ | refine wantDt ?_ ?_ | refine wantEf ?_ ?_ | refine wantEt ?_ ?_ | refine wantNf ?_ ?_ | refine wantNt ?_ ?_ | refine wantNBf ?_ ?_ | refine wantNBt ?_ ?_ | refine wantBf ?_ ?_ | refine wantBt ?_ ?_ | refine boolD ?_ ?_ | refine boolE ?_ ?_ | refine boolN ?_ ?_ | refine boolNB ?_ ?_ | refine boolB ?_ ?_) <;> intro h <;> try simp (disch := omega) only [go_sem, outSl, outHpF, zeroS, h]))
              | cons e es =>
                have hle : es.length + 1 = v.l.length + k := by simpa using hlE
                have htk : ∀ y, List.take (es.length + 1) (es ++ [y]) = es ++ [y] := fun y => List.take_of_length_le (by simp)
                rw [List.cons_append] at hfz
                by_cases hk0 : k = 0
                · have hkb : (k == 0) = true := by simp [hk0]
                  have hA : ((v.l.map some ++ List.replicate k none).map (fun o : Option V => o.getD nullV)).map encV = e :: es := by
                    rw [hE, hk0]
                    simp [Function.comp_def, encO]
                  rw [hA, List.cons_append]
                  (repeat' first | simp (disch := omega) only [go_sem, outSl, outHpF, zeroS, hkb, List.length_append, htk] | ((first | refine wantDf ?_ ?_ | refine wantDt ?_ ?_ | refine wantEf ?_ ?_ | refine wantEt ?_ ?_ | refine wantNf ?_ ?_ | refine wantNt ?_ ?_ | refine wantNBf ?_ ?_ | refine wantNBt ?_ ?_ | refine wantBf ?_ ?_ | refine wantBt ?_ ?_ | refine boolD ?_ ?_ | refine boolE ?_ ?_ | refine boolN ?_ ?_ | refine boolNB ?_ ?_ | refine boolB ?_ ?_) <;> intro h <;> try simp (disch := omega) only [go_sem, outSl, outHpF, zeroS, hkb, List.length_append, htk, h]))
                · have hkb : (k == 0) = false := by simp [hk0]
                  (repeat' first | simp (disch := omega) only [go_sem, outSl, outHpF, zeroS, hkb, List.length_append, htk, hfz] | ((first | refine wantDf ?_ ?_ | refine wantDt ?_ ?_ | refine wantEf ?_ ?_ | refine wantEt ?_ ?_ | refine wantNf ?_ ?_ | refine wantNt ?_ ?_ | refine wantNBf ?_ ?_ | refine wantNBt ?_ ?_ | refine wantBf ?_ ?_ | refine wantBt ?_ ?_ | refine boolD ?_ ?_ | refine boolE ?_ ?_ | refine boolN ?_ ?_ | refine boolNB ?_ ?_ | refine boolB ?_ ?_) <;> intro h <;> try simp (disch := omega) only [go_sem, outSl, outHpF, zeroS, hkb, List.length_append, htk, hfz, h]))
          · rw [hve, listV_enc]
            by_cases hvl : v.l = []
            · have hvm : v.l.map encV = [] := by rw [hvl]; rfl
              rw [hvm] at h27 ⊢
              (repeat' first | simp (disch := omega) only [go_sem, ac127, enter, zeroS, List.length_map, hpl] | refine pure_of _ (h27) ?_ | refine pure_of _ (hr) ?_ | ((first | refine wantDf ?_ ?_ | refine wantDt ?_ ?_ | refine wantEf ?_ ?_ | refine wantEt ?_ ?_ | refine wantNf ?_ ?_ | refine wantNt ?_ ?_ | refine wantNBf ?_ ?_ | refine wantNBt ?_ ?_ | refine wantBf ?_ ?_ | refine wantBt ?_ ?_ | refine boolD ?_ ?_ | refine boolE ?_ ?_ | refine boolN ?_ ?_ | refine boolNB ?_ ?_ | refine boolB ?_ ?_) <;> intro h <;> try simp (disch := omega) only [go_sem, ac127, enter, zeroS, List.length_map, hpl , h]))
              refine loop_of (α := Nat × List AV) (fun a => { tmps := slots 110 [(1, .tsl 3 (.agg [.bool true, .str s.key, .int .i64 s.index] :: p.map encS)), (6, .ptr 13 0 0 0), (11, .ptr 13 1 0 0), (13, outSl 13 2 a.2)], heap := [.row 13 [zeroS] false true 0, .row 13 [encV R.1] false true 1] ++ outHpF 2 (a.1 == 0) a.2, base := 0 })
                (fun a => a.1 + v.l.length ≤ s.index.toNat ∧ a.2 = (v.l.map some ++ List.replicate a.1 none).map encO) (fun a => s.index.toNat - a.1) (0, v.l.map encV) (by rw [hvl, hRE]; simp only [List.map_cons, List.map_nil, outSl, outHpF, List.length_map]; rfl) ⟨by simp only; omega, by simp [encO]⟩ ?_
              rintro ⟨k, E⟩ ⟨hk1, hE⟩
              simp only at hk1 hE
              rw [hRE]
              have hlE : E.length = v.l.length + k := by rw [hE]; simp
              have hst : ∀ e, e ∈ E → Still e := fun e he => by
                rw [hE] at he
                obtain ⟨o, _, rfl⟩ := List.mem_map.1 he
                exact still_encO o
              have hput : (putL v.l s.index.toNat R.1) = ((v.l.map some ++ List.replicate (s.index.toNat - v.l.length) none).map fun o : Option V => o.getD nullV) ++ [R.1] := by
                unfold putL
                rw [show s.index.toNat + 1 - v.l.length = (s.index.toNat - v.l.length) + 1 by omega, List.replicate_succ', ← List.append_assoc, List.set_append_right _ _ (by simp; omega)]
                simp [List.map_map, Function.comp_def]
                rw [show s.index.toNat - (v.l.length + (s.index.toNat - v.l.length)) = 0 by omega]
                rfl
              have hnx : (v.l.map some ++ List.replicate (k + 1) none).map encO = E ++ [zeroS] := by
                rw [hE, List.replicate_succ', ← List.append_assoc, List.map_append]
                rfl
              have hfz : ∀ H : Heap, omap (frz H 3) (E ++ [encV R.1]) = some (((v.l.map some ++ List.replicate k none).map fun o : Option V => o.getD nullV).map encV ++ [encV R.1]) := fun H => by
                have := omap_encO H ((v.l.map some ++ List.replicate k none) ++ [some R.1])
                rw [List.map_append, ← hE] at this
                simpa [encO] using this
              by_cases hlt : k + v.l.length < s.index.toNat
              · cases E with
                | nil =>
                  (repeat' first | simp (disch := omega) only [go_sem, outSl, outHpF, zeroS] | ((first | refine wantDf ?_ ?_ | refine wantDt ?_ ?_ | refine wantEf ?_ ?_ | refine wantEt ?_ ?_ | refine wantNf ?_ ?_ | refine wantNt ?_ ?_ | refine wantNBf ?_ ?_ | refine wantNBt ?_ ?_ | refine wantBf ?_ ?_ | refine wantBt ?_ ?_ | refine boolD ?_ ?_ | refine boolE ?_ ?_ | refine boolN ?_ ?_ | refine boolNB ?_ ?_ | refine boolB ?_ ?_) <;> intro h <;> try simp (disch := omega) only [go_sem, outSl, outHpF, zeroS, h]))
                  exact ⟨(k + 1, [zeroS]), rfl, ⟨by simp only; omega, hnx.symm⟩, by simp only; omega⟩
                | cons e es =>
                  have hle : es.length + 1 = v.l.length + k := by simpa using hlE
                  (repeat' first | simp (disch := omega) only [go_sem, outSl, outHpF, zeroS] | ((first | refine wantDf ?_ ?_ | refine wantDt ?_ ?_ | refine wantEf ?_ ?_ | refine wantEt ?_ ?_ | refine wantNf ?_ ?_ | refine wantNt ?_ ?_ | refine wantNBf ?_ ?_ | refine wantNBt ?_ ?_ | refine wantBf ?_ ?_ | refine wantBt ?_ ?_ | refine boolD ?_ ?_ | refine boolE ?_ ?_ | refine boolN ?_ ?_ | refine boolNB ?_ ?_ | refine boolB ?_ ?_) <;> intro h <;> try simp (disch := omega) only [go_sem, outSl, outHpF, zeroS, h]))
                  refine ⟨(k + 1, e :: es ++ [zeroS]), ?_, ⟨by simp only; omega, hnx.symm⟩, by simp only; omega⟩
                  simp only [outSl, outHpF, List.cons_append, List.length_append, List.length_cons, List.length_nil]
                  refine (norm_calm (.cons (calm_row _ _ _) (.cons (calm_row _ _ _) (.cons (calm_rowB hst) (.cons (calm_rowN fun x hx => ?_) (.cons (calm_rowN fun x hx => ?_) .nil)))))).trans rfl
                  · rw [List.mem_singleton.1 hx]
                    exact still_zero
                  · rcases List.mem_append.1 (show x ∈ (e :: es) ++ [zeroS] from hx) with hx | hx
                    · exact hst x hx
                    · rw [List.mem_singleton.1 hx]
                      exact still_zero
              · have hk2 : k = s.index.toNat - v.l.length := by omega
                have hnn : ¬ ((E.length : Int) < s.index) := by omega
                rw [hput, ← hk2, List.map_append, List.map_cons, List.map_nil, hRE]
                rw [hRE] at hfz
                cases E with
                | nil =>
                  have hle : v.l.length + k = 0 := by simpa using hlE.symm
                  have hA : (v.l.map some ++ List.replicate k none).map (fun o : Option V => o.getD nullV) = [] := by
                    refine List.eq_nil_of_length_eq_zero ?_
                    simpa using hle
                  rw [hA, List.map_nil, List.nil_append]
                  (repeat' first | simp (disch := omega) only [go_sem, outSl, outHpF, zeroS] | ((first | refine wantDf ?_ ?_ | refine wantDt ?_ ?_ | refine wantEf ?_ ?_ | refine wantEt ?_ ?_ | refine wantNf ?_ ?_ | refine wantNt ?_ ?_ | refine wantNBf ?_ ?_ | refine wantNBt ?_ ?_ | refine wantBf ?_ ?_ | refine wantBt ?_ ?_ | refine boolD ?_ ?_ | refine boolE ?_ ?_ | refine boolN ?_ ?_ | refine boolNB ?_ ?_ | refine boolB ?_ ?_) <;> intro h <;> try simp (disch := omega) only [go_sem, outSl, outHpF, zeroS, h]))
                | cons e es =>
                  have hle : es.length + 1 = v.l.length + k := by simpa using hlE
                  have htk : ∀ y, List.take (es.length + 1) (es ++ [y]) = es ++ [y] := fun y => List.take_of_length_le (by simp)
                  rw [List.cons_append] at hfz
                  by_cases hk0 : k = 0
                  · have hkb : (k == 0) = true := by simp [hk0]
                    have hA : ((v.l.map some ++ List.replicate k none).map (fun o : Option V => o.getD nullV)).map encV = e :: es := by
                      rw [hE, hk0]
                      simp [Function.comp_def, encO]
                    rw [hA, List.cons_append]
                    (repeat' first | simp (disch := omega) only [go_sem, outSl, outHpF, zeroS, hkb, List.length_append, htk] | ((first | refine wantDf ?_ ?_ | refine wantDt ?_ ?_ | refine wantEf ?_ ?_ | refine wantEt ?_ ?_ | refine wantNf ?_ ?_ | refine wantNt ?_ ?_ | refine wantNBf ?_ ?_ | refine wantNBt ?_ ?_ | refine wantBf ?_ ?_ | refine wantBt ?_ ?_ | refine boolD ?_ ?_ | refine boolE ?_ ?_ | refine boolN ?_ ?_ | refine boolNB ?_ ?_ | refine boolB ?_ ?_) <;> intro h <;> try simp (disch := omega) only [go_sem, outSl, outHpF, zeroS, hkb, List.length_append, htk, h]))
                  · have hkb : (k == 0) = false := by simp [hk0]
                    (repeat' first | simp (disch := omega) only [go_sem, outSl, outHpF, zeroS, hkb, List.length_append, htk, hfz] | ((first | refine wantDf ?_ ?_ | refine wantDt ?_ ?_ | refine wantEf ?_ ?_ | refine wantEt ?_ ?_ | refine wantNf ?_ ?_ | refine wantNt ?_ ?_ | refine wantNBf ?_ ?_ | refine wantNBt ?_ ?_ | refine wantBf ?_ ?_ | refine wantBt ?_ ?_ | refine boolD ?_ ?_ | refine boolE ?_ ?_ | refine boolN ?_ ?_ | refine boolNB ?_ ?_ | refine boolB ?_ ?_) <;> intro h <;> try simp (disch := omega) only [go_sem, outSl, outHpF, zeroS, hkb, List.length_append, htk, hfz, h]))
            · obtain ⟨y, l, hvl⟩ := List.exists_cons_of_ne_nil hvl
              have hvm : v.l.map encV = encV y :: l.map encV := by rw [hvl]; rfl
              rw [hvm] at h27 ⊢
              rw [hvl, List.length_cons] at hll
              (repeat' first | simp (disch := omega) only [go_sem, ac127, enter, zeroS, List.length_map, hpl] | refine pure_of _ (h27) ?_ | refine pure_of _ (hr) ?_ | ((first | refine wantDf ?_ ?_ | refine wantDt ?_ ?_ | refine wantEf ?_ ?_ | refine wantEt ?_ ?_ | refine wantNf ?_ ?_ | refine wantNt ?_ ?_ | refine wantNBf ?_ ?_ | refine wantNBt ?_ ?_ | refine wantBf ?_ ?_ | refine wantBt ?_ ?_ | refine boolD ?_ ?_ | refine boolE ?_ ?_ | refine boolN ?_ ?_ | refine boolNB ?_ ?_ | refine boolB ?_ ?_) <;> intro h <;> try simp (disch := omega) only [go_sem, ac127, enter, zeroS, List.length_map, hpl , h]))
              refine loop_of (α := Nat × List AV) (fun a => { tmps := slots 110 [(1, .tsl 3 (.agg [.bool true, .str s.key, .int .i64 s.index] :: p.map encS)), (6, .ptr 13 0 0 0), (11, .ptr 13 1 0 0), (13, outSl 13 2 a.2)], heap := [.row 13 [zeroS] false true 0, .row 13 [encV R.1] false true 1] ++ outHpF 2 (a.1 == 0) a.2, base := 0 })
                (fun a => a.1 + v.l.length ≤ s.index.toNat ∧ a.2 = (v.l.map some ++ List.replicate a.1 none).map encO) (fun a => s.index.toNat - a.1) (0, v.l.map encV) (by rw [hvl, hRE]; simp only [List.map_cons, List.map_nil, outSl, outHpF, List.length_map]; rfl) ⟨by simp only; omega, by simp [encO]⟩ ?_
              rintro ⟨k, E⟩ ⟨hk1, hE⟩
              simp only at hk1 hE
              rw [hRE]
              have hlE : E.length = v.l.length + k := by rw [hE]; simp
              have hst : ∀ e, e ∈ E → Still e := fun e he => by
                rw [hE] at he
                obtain ⟨o, _, rfl⟩ := List.mem_map.1 he
                exact still_encO o
              have hput : (putL v.l s.index.toNat R.1) = ((v.l.map some ++ List.replicate (s.index.toNat - v.l.length) none).map fun o : Option V => o.getD nullV) ++ [R.1] := by
                unfold putL
                rw [show s.index.toNat + 1 - v.l.length = (s.index.toNat - v.l.length) + 1 by omega, List.replicate_succ', ← List.append_assoc, List.set_append_right _ _ (by simp; omega)]
                simp [List.map_map, Function.comp_def]
                rw [show s.index.toNat - (v.l.length + (s.index.toNat - v.l.length)) = 0 by omega]
                rfl
              have hnx : (v.l.map some ++ List.replicate (k + 1) none).map encO = E ++ [zeroS] := by
                rw [hE, List.replicate_succ', ← List.append_assoc, List.map_append]
                rfl
              have hfz : ∀ H : Heap, omap (frz H 3) (E ++ [encV R.1]) = some (((v.l.map some ++ List.replicate k none).map fun o : Option V => o.getD nullV).map encV ++ [encV R.1]) := fun H => by
                have := omap_encO H ((v.l.map some ++ List.replicate k none) ++ [some R.1])
                rw [List.map_append, ← hE] at this
                simpa [encO] using this
              by_cases hlt : k + v.l.length < s.index.toNat
              · cases E with
                | nil =>
                  (repeat' first | simp (disch := omega) only [go_sem, outSl, outHpF, zeroS] | ((first | refine wantDf ?_ ?_ | refine wantDt ?_ ?_ | refine wantEf ?_ ?_ | refine wantEt ?_ ?_ | refine wantNf ?_ ?_ | refine wantNt ?_ ?_ | refine wantNBf ?_ ?_ | refine wantNBt ?_ ?_ | refine wantBf ?_ ?_ | refine wantBt ?_ ?_ | refine boolD ?_ ?_ | refine boolE ?_ ?_ | refine boolN ?_ ?_ | refine boolNB ?_ ?_ | refine boolB ?_ ?_) <;> intro h <;> try simp (disch := omega) only [go_sem, outSl, outHpF, zeroS, h]))
                  exact ⟨(k + 1, [zeroS]), rfl, ⟨by simp only; omega, hnx.symm⟩, by simp only; omega⟩
                | cons e es =>
                  have hle : es.length + 1 = v.l.length + k := by simpa using hlE
                  (repeat' first | simp (disch := omega) only [go_sem, outSl, outHpF, zeroS] | ((first | refine wantDf ?_ ?_ | refine wantDt ?_ ?_ | refine wantEf ?_ ?_ | refine wantEt ?_ ?_ | refine wantNf ?_ ?_ | refine wantNt ?_ ?_ | refine wantNBf ?_ ?_ | refine wantNBt ?_ ?_ | refine wantBf ?_ ?_ | refine wantBt ?_ ?_ | refine boolD ?_ ?_ | refine boolE ?_ ?_ | refine boolN ?_ ?_ | refine boolNB ?_ ?_ | refine boolB ?_ ?_) <;> intro h <;> try simp (disch := omega) only [go_sem, outSl, outHpF, zeroS, h]))
                  refine ⟨(k + 1, e :: es ++ [zeroS]), ?_, ⟨by simp only; omega, hnx.symm⟩, by simp only; omega⟩
                  simp only [outSl, outHpF, List.cons_append, List.length_append, List.length_cons, List.length_nil]
                  refine (norm_calm (.cons (calm_row _ _ _) (.cons (calm_row _ _ _) (.cons (calm_rowB hst) (.cons (calm_rowN fun x hx => ?_) (.cons (calm_rowN fun x hx => ?_) .nil)))))).trans rfl
                  · rw [List.mem_singleton.1 hx]
                    exact still_zero
                  · rcases List.mem_append.1 (show x ∈ (e :: es) ++ [zeroS] from hx) with hx | hx
                    · exact hst x hx
                    · rw [List.mem_singleton.1 hx]
                      exact still_zero
              · have hk2 : k = s.index.toNat - v.l.length := by omega
                have hnn : ¬ ((E.length : Int) < s.index) := by omega
                rw [hput, ← hk2, List.map_append, List.map_cons, List.map_nil, hRE]
                rw [hRE] at hfz
                cases E with
                | nil =>
                  have hle : v.l.length + k = 0 := by simpa using hlE.symm
                  have hA : (v.l.map some ++ List.replicate k none).map (fun o : Option V => o.getD nullV) = [] := by
                    refine List.eq_nil_of_length_eq_zero ?_
                    simpa using hle
                  rw [hA, List.map_nil, List.nil_append]
                  (repeat' first | simp (disch := omega) only [go_sem, outSl, outHpF, zeroS] | ((first | refine wantDf ?_ ?_ | refine wantDt ?_ ?_ | refine wantEf ?_ ?_ | refine wantEt ?_ ?_ | refine wantNf ?_ ?_ | refine wantNt ?_ ?_ | refine wantNBf ?_ ?_ | refine wantNBt ?_ ?_ | refine wantBf ?_ ?_ | refine wantBt ?_ ?_ | refine boolD ?_ ?_ | refine boolE ?_ ?_ | refine boolN ?_ ?_ | refine boolNB ?_ ?_ | refine boolB ?_ ?_) <;> intro h <;> try simp (disch := omega) only [go_sem, outSl, outHpF, zeroS, h]))
                | cons e es =>
                  have hle : es.length + 1 = v.l.length + k := by simpa using hlE
                  have htk : ∀ y, List.take (es.length + 1) (es ++ [y]) = es ++ [y] := fun y => List.take_of_length_le (by simp)
                  rw [List.cons_append] at hfz
                  by_cases hk0 : k = 0
                  · have hkb : (k == 0) = true := by simp [hk0]
                    have hA : ((v.l.map some ++ List.replicate k none).map (fun o : Option V => o.getD nullV)).map encV = e :: es := by
                      rw [hE, hk0]
                      simp [Function.comp_def, encO]
                    rw [hA, List.cons_append]
                    (repeat' first | simp (disch := omega) only [go_sem, outSl, outHpF, zeroS, hkb, List.length_append, htk] | ((first | refine wantDf ?_ ?_ | refine wantDt ?_ ?_ | refine wantEf ?_ ?_ | refine wantEt ?_ ?_ | refine wantNf ?_ ?_ | refine wantNt ?_ ?_ | refine wantNBf ?_ ?_ | refine wantNBt ?_ ?_ | refine wantBf ?_ ?_ | refine wantBt ?_ ?_ | refine boolD ?_ ?_ | refine boolE ?_ ?_ | refine boolN ?_ ?_ | refine boolNB ?_ ?_ | refine boolB ?_ ?_) <;> intro h <;> try simp (disch := omega) only [go_sem, outSl, outHpF, zeroS, hkb, List.length_append, htk, h]))
                  · have hkb : (k == 0) = false := by simp [hk0]
                    (repeat' first | simp (disch := omega) only [go_sem, outSl, outHpF, zeroS, hkb, List.length_append, htk, hfz] | ((first | refine wantDf ?_ ?_ | refine wantDt ?_ ?_ | refine wantEf ?_ ?_ | refine wantEt ?_ ?_ | refine wantNf ?_ ?_ | refine wantNt ?_ ?_ | refine wantNBf ?_ ?_ | refine wantNBt ?_ ?_ | refine wantBf ?_ ?_ | refine wantBt ?_ ?_ | refine boolD ?_ ?_ | refine boolE ?_ ?_ | refine boolN ?_ ?_ | refine boolNB ?_ ?_ | refine boolB ?_ ?_) <;> intro h <;> try simp (disch := omega) only [go_sem, outSl, outHpF, zeroS, hkb, List.length_append, htk, hfz, h]))
      · rw [if_pos he, nullV_enc]
        rcases hve with ⟨hve, h0⟩ | hve
        · rw [hve]
          rw [h0, List.map_nil] at h27
          (repeat' first | simp (disch := omega) only [go_sem, ac127, enter, zeroS, List.length_map, hpl] | refine pure_of _ (h27) ?_ | refine pure_of _ (hr) ?_ | ((first | refine wantDf ?_ ?_ | refine wantDt ?_ ?_ | refine wantEf ?_ ?_ | refine wantEt ?_ ?_ | refine wantNf ?_ ?_ | refine wantNt ?_ ?_ | refine wantNBf ?_ ?_ | refine wantNBt ?_ ?_ | refine wantBf ?_ ?_ | refine wantBt ?_ ?_ | refine boolD ?_ ?_ | refine boolE ?_ ?_ | refine boolN ?_ ?_ | refine boolNB ?_ ?_ | refine boolB ?_ ?_) <;> intro h <;> try simp (disch := omega) only [go_sem, ac127, enter, zeroS, List.length_map, hpl , h]))
        · rw [hve, listV_enc]
          (repeat' first | simp (disch := omega) only [go_sem, ac127, enter, zeroS, List.length_map, hpl] | refine pure_of _ (h27) ?_ | refine pure_of _ (hr) ?_ | ((first | refine wantDf ?_ ?_ | refine wantDt ?_ ?_ | refine wantEf ?_ ?_ | refine wantEt ?_ ?_ | refine wantNf ?_ ?_ | refine wantNt ?_ ?_ | refine wantNBf ?_ ?_ | refine wantNBt ?_ ?_ | refine wantBf ?_ ?_ | refine wantBt ?_ ?_ | refine boolD ?_ ?_ | refine boolE ?_ ?_ | refine boolN ?_ ?_ | refine boolNB ?_ ?_ | refine boolB ?_ ?_) <;> intro h <;> try simp (disch := omega) only [go_sem, ac127, enter, zeroS, List.length_map, hpl , h]))
  · rw [if_neg hk, nullV_enc]
    have hf : findM v s = (0, 6) := by
      unfold findM
      rw [if_pos hb, if_pos (by omega)]
    have h27 := find_run v s hv
    rw [hf, encS_of, hb, encV_eq v] at h27
    rw [encV_eq v, encV_eq x, List.map_cons, encS_of, hb]
    (repeat' first | simp (disch := omega) only [go_sem, ac127, enter, zeroS, List.length_map, hpl] | refine pure_of _ (h27) ?_ | ((first | refine wantDf ?_ ?_ | refine wantDt ?_ ?_ | refine wantEf ?_ ?_ | refine wantEt ?_ ?_ | refine wantNf ?_ ?_ | refine wantNt ?_ ?_ | refine wantNBf ?_ ?_ | refine wantNBt ?_ ?_ | refine wantBf ?_ ?_ | refine wantBt ?_ ?_ | refine boolD ?_ ?_ | refine boolE ?_ ?_ | refine boolN ?_ ?_ | refine boolNB ?_ ?_ | refine boolB ?_ ?_) <;> intro h <;> try simp (disch := omega) only [go_sem, ac127, enter, zeroS, List.length_map, hpl , h]))
end Ago
/- Few values: what Small says. -/
set_option maxRecDepth 100000
set_option maxHeartbeats 4000000
namespace Ago
open Go (IntKind)
/-- No list and no map in it has more parts. -/
inductive Few (N : Nat) : V → Prop where
  | mk {v : V} (hl : v.l.length ≤ N) (hf : v.f.length ≤ N) (hk : ∀ x, x ∈ v.l → Few N x) (hkf : ∀ x, x ∈ v.f → Few N x.2) : Few N v
theorem room_few (N : Nat) (hN : N < 2 ^ 30) : ∀ (n : Nat) (v : V), v.bulk ≤ n → n ≤ 2 ^ 24 → ∀ (left d : Int), 0 ≤ left → left ≤ N → -1 ≤ d → d < 2 ^ 30 → ∃ r : Int, PRun C0 38 [encV v, .int .i64 left, .int .i64 d] (.int .i64 r) ∧ -1 ≤ r ∧ r ≤ N ∧ (0 ≤ r → Few N v) := by
  intro n
  induction n with
  | zero =>
    intro v hv
    have : 1 ≤ v.bulk := bulk_one _
    omega
  | succ n ih =>
    intro v hv hn left d hl1 hl2 hd1 hd2
    have L := V.lens (v := v) (N := 2 ^ 24) (by omega)
    have h := prunE_of (C := C0) (f := 38) (ts := [encV v, .int .i64 left, .int .i64 d]) (k := fun w => ∃ r : Int, w = .int .i64 r ∧ -1 ≤ r ∧ r ≤ N ∧ (0 ≤ r → Few N v)) ac38 rfl (by
      rw [encV_eq]
      by_cases hdz : d ≤ 0
      · (repeat' first | simp (disch := omega) only [go_sem, ac38, enter, List.length_map] | ((first | refine wantDf ?_ ?_ | refine wantDt ?_ ?_ | refine wantEf ?_ ?_ | refine wantEt ?_ ?_ | refine wantNf ?_ ?_ | refine wantNt ?_ ?_ | refine wantNBf ?_ ?_ | refine wantNBt ?_ ?_ | refine wantBf ?_ ?_ | refine wantBt ?_ ?_ | refine boolD ?_ ?_ | refine boolE ?_ ?_ | refine boolN ?_ ?_ | refine boolNB ?_ ?_ | refine boolB ?_ ?_) <;> intro h <;> try simp (disch := omega) only [go_sem, ac38, enter, List.length_map, h]))
        exact ⟨_, rfl, by omega, by omega, fun h => by omega⟩
      by_cases hlb : (v.l.length : Int) ≤ left - 1 ∧ (v.f.length : Int) ≤ left - 1
      · obtain ⟨hlb1, hlb2⟩ := hlb
        (repeat' first | simp (disch := omega) only [go_sem, ac38, enter, List.length_map] | ((first | refine wantDf ?_ ?_ | refine wantDt ?_ ?_ | refine wantEf ?_ ?_ | refine wantEt ?_ ?_ | refine wantNf ?_ ?_ | refine wantNt ?_ ?_ | refine wantNBf ?_ ?_ | refine wantNBt ?_ ?_ | refine wantBf ?_ ?_ | refine wantBt ?_ ?_ | refine boolD ?_ ?_ | refine boolE ?_ ?_ | refine boolN ?_ ?_ | refine boolNB ?_ ?_ | refine boolB ?_ ?_) <;> intro h <;> try simp (disch := omega) only [go_sem, ac38, enter, List.length_map, h]))
        all_goals first | omega | skip
        refine loop_of (α := Nat × Int) (fun a => { tmps := slots 69 [(1, .int .i64 a.2), (2, .int .i64 d), (3, .ptr 13 0 0 0), (7, .int .i64 a.1)], heap := [.row 13 [encV v] false true 0], base := 0 }) (fun a => a.1 ≤ v.l.length ∧ -1 ≤ a.2 ∧ a.2 ≤ N ∧ (0 ≤ a.2 → ∀ x, x ∈ v.l.take a.1 → Few N x)) (fun a => v.l.length - a.1) (0, left - 1) (by rw [encV_eq]; rfl) ⟨Nat.zero_le _, by simp only; omega, by simp only; omega, by simp⟩ ?_
        rintro ⟨k, lf⟩ ⟨hk, hs3, hs4, hs5⟩
        simp only at hk hs3 hs4 hs5
        rw [encV_eq]
        by_cases hlt : k < v.l.length ∧ 0 ≤ lf
        · obtain ⟨hlt, hlf⟩ := hlt
          obtain ⟨x, hx⟩ := get_some hlt
          have hxm := List.mem_of_getElem? hx
          have hx2 := map_get (g := encV) hx
          obtain ⟨r, hr, k1, k2, k3⟩ := ih x (by have := L.kids x hxm; omega) (by omega) lf (d - 1) (by omega) (by omega) (by omega) (by omega)
          rw [encV_eq] at hx2 hr
          (repeat' first | simp (disch := omega) only [go_sem, hx2, List.length_map] | refine pure_of _ (hr) ?_ | ((first | refine wantDf ?_ ?_ | refine wantDt ?_ ?_ | refine wantEf ?_ ?_ | refine wantEt ?_ ?_ | refine wantNf ?_ ?_ | refine wantNt ?_ ?_ | refine wantNBf ?_ ?_ | refine wantNBt ?_ ?_ | refine wantBf ?_ ?_ | refine wantBt ?_ ?_ | refine boolD ?_ ?_ | refine boolE ?_ ?_ | refine boolN ?_ ?_ | refine boolNB ?_ ?_ | refine boolB ?_ ?_) <;> intro h <;> try simp (disch := omega) only [go_sem, hx2, List.length_map , h]))
          refine ⟨(k + 1, r), rfl, ⟨hlt, by simp only; omega, by simp only; omega, fun h y hy => ?_⟩, by simp only; omega⟩
          rw [List.take_add_one, hx] at hy
          rcases List.mem_append.1 hy with hy | hy
          · exact hs5 hlf y hy
          · have e : y = x := by simpa using hy
            rw [e]
            exact k3 h
        · by_cases hlt2 : k < v.l.length
          · have hlf : lf < 0 := by omega
            have hall : 0 ≤ lf → ∀ x, x ∈ v.l → Few N x := fun h => by omega
            (repeat' first | simp (disch := omega) only [go_sem, List.length_map] | ((first | refine wantDf ?_ ?_ | refine wantDt ?_ ?_ | refine wantEf ?_ ?_ | refine wantEt ?_ ?_ | refine wantNf ?_ ?_ | refine wantNt ?_ ?_ | refine wantNBf ?_ ?_ | refine wantNBt ?_ ?_ | refine wantBf ?_ ?_ | refine wantBt ?_ ?_ | refine boolD ?_ ?_ | refine boolE ?_ ?_ | refine boolN ?_ ?_ | refine boolNB ?_ ?_ | refine boolB ?_ ?_) <;> intro h <;> try simp (disch := omega) only [go_sem, List.length_map, h]))
            refine loop_of (α := Nat × Int) (fun a => { tmps := slots 69 [(1, .int .i64 a.2), (2, .int .i64 d), (3, .ptr 13 0 0 0), (8, .int .i64 a.1)], heap := [.row 13 [encV v] false true 0], base := 0 }) (fun a => a.1 ≤ v.f.length ∧ -1 ≤ a.2 ∧ a.2 ≤ N ∧ (0 ≤ a.2 → (∀ x, x ∈ v.l → Few N x) ∧ ∀ x, x ∈ v.f.take a.1 → Few N x.2)) (fun a => v.f.length - a.1) (0, lf) (by rw [encV_eq]; rfl) ⟨Nat.zero_le _, by simp only; omega, by simp only; omega, fun h => ⟨hall h, by simp⟩⟩ ?_
            clear hk hs3 hs4 hlt hlt2 hs5 hall
            rintro ⟨k, lf⟩ ⟨hk, hs3, hs4, hs5⟩
            simp only at hk hs3 hs4 hs5
            rw [encV_eq]
            by_cases hlt : k < v.f.length ∧ 0 ≤ lf
            · obtain ⟨hlt, hlf⟩ := hlt
              obtain ⟨x, hx⟩ := get_some hlt
              have hxm := List.mem_of_getElem? hx
              have hx2 := map_get (g := encFd) hx
              obtain ⟨r, hr, k1, k2, k3⟩ := ih x.2 (by have := (L.fkids x hxm).1; omega) (by omega) lf (d - 1) (by omega) (by omega) (by omega) (by omega)
              rw [encFd_eq] at hx2
              rw [encV_eq] at hr
              (repeat' first | simp (disch := omega) only [go_sem, hx2, List.length_map] | refine pure_of _ (hr) ?_ | ((first | refine wantDf ?_ ?_ | refine wantDt ?_ ?_ | refine wantEf ?_ ?_ | refine wantEt ?_ ?_ | refine wantNf ?_ ?_ | refine wantNt ?_ ?_ | refine wantNBf ?_ ?_ | refine wantNBt ?_ ?_ | refine wantBf ?_ ?_ | refine wantBt ?_ ?_ | refine boolD ?_ ?_ | refine boolE ?_ ?_ | refine boolN ?_ ?_ | refine boolNB ?_ ?_ | refine boolB ?_ ?_) <;> intro h <;> try simp (disch := omega) only [go_sem, hx2, List.length_map , h]))
              refine ⟨(k + 1, r), rfl, ⟨hlt, by simp only; omega, by simp only; omega, fun h => ⟨(hs5 hlf).1, fun y hy => ?_⟩⟩, by simp only; omega⟩
              rw [List.take_add_one, hx] at hy
              rcases List.mem_append.1 hy with hy | hy
              · exact (hs5 hlf).2 y hy
              · have e : y = x := by simpa using hy
                rw [e]
                exact k3 h
            · by_cases hlt2 : k < v.f.length
              · have hlf : lf < 0 := by omega
                (repeat' first | simp (disch := omega) only [go_sem, List.length_map] | ((first | refine wantDf ?_ ?_ | refine wantDt ?_ ?_ | refine wantEf ?_ ?_ | refine wantEt ?_ ?_ | refine wantNf ?_ ?_ | refine wantNt ?_ ?_ | refine wantNBf ?_ ?_ | refine wantNBt ?_ ?_ | refine wantBf ?_ ?_ | refine wantBt ?_ ?_ | refine boolD ?_ ?_ | refine boolE ?_ ?_ | refine boolN ?_ ?_ | refine boolNB ?_ ?_ | refine boolB ?_ ?_) <;> intro h <;> try simp (disch := omega) only [go_sem, List.length_map, h]))
                exact ⟨_, rfl, by omega, by omega, fun h => by omega⟩
              · rw [take_len hlt2 hk] at hs5
                (repeat' first | simp (disch := omega) only [go_sem, List.length_map] | ((first | refine wantDf ?_ ?_ | refine wantDt ?_ ?_ | refine wantEf ?_ ?_ | refine wantEt ?_ ?_ | refine wantNf ?_ ?_ | refine wantNt ?_ ?_ | refine wantNBf ?_ ?_ | refine wantNBt ?_ ?_ | refine wantBf ?_ ?_ | refine wantBt ?_ ?_ | refine boolD ?_ ?_ | refine boolE ?_ ?_ | refine boolN ?_ ?_ | refine boolNB ?_ ?_ | refine boolB ?_ ?_) <;> intro h <;> try simp (disch := omega) only [go_sem, List.length_map, h]))
                exact ⟨_, rfl, by omega, by omega, fun h => .mk (by omega) (by omega) (hs5 h).1 (hs5 h).2⟩
          · have hall : 0 ≤ lf → ∀ x, x ∈ v.l → Few N x := fun h => by
              have := hs5 h
              rwa [take_len hlt2 hk] at this
            (repeat' first | simp (disch := omega) only [go_sem, List.length_map] | ((first | refine wantDf ?_ ?_ | refine wantDt ?_ ?_ | refine wantEf ?_ ?_ | refine wantEt ?_ ?_ | refine wantNf ?_ ?_ | refine wantNt ?_ ?_ | refine wantNBf ?_ ?_ | refine wantNBt ?_ ?_ | refine wantBf ?_ ?_ | refine wantBt ?_ ?_ | refine boolD ?_ ?_ | refine boolE ?_ ?_ | refine boolN ?_ ?_ | refine boolNB ?_ ?_ | refine boolB ?_ ?_) <;> intro h <;> try simp (disch := omega) only [go_sem, List.length_map, h]))
            refine loop_of (α := Nat × Int) (fun a => { tmps := slots 69 [(1, .int .i64 a.2), (2, .int .i64 d), (3, .ptr 13 0 0 0), (8, .int .i64 a.1)], heap := [.row 13 [encV v] false true 0], base := 0 }) (fun a => a.1 ≤ v.f.length ∧ -1 ≤ a.2 ∧ a.2 ≤ N ∧ (0 ≤ a.2 → (∀ x, x ∈ v.l → Few N x) ∧ ∀ x, x ∈ v.f.take a.1 → Few N x.2)) (fun a => v.f.length - a.1) (0, lf) (by rw [encV_eq]; rfl) ⟨Nat.zero_le _, by simp only; omega, by simp only; omega, fun h => ⟨hall h, by simp⟩⟩ ?_
            clear hk hs3 hs4 hlt hlt2 hs5 hall
            rintro ⟨k, lf⟩ ⟨hk, hs3, hs4, hs5⟩
            simp only at hk hs3 hs4 hs5
            rw [encV_eq]
            by_cases hlt : k < v.f.length ∧ 0 ≤ lf
            · obtain ⟨hlt, hlf⟩ := hlt
              obtain ⟨x, hx⟩ := get_some hlt
              have hxm := List.mem_of_getElem? hx
              have hx2 := map_get (g := encFd) hx
              obtain ⟨r, hr, k1, k2, k3⟩ := ih x.2 (by have := (L.fkids x hxm).1; omega) (by omega) lf (d - 1) (by omega) (by omega) (by omega) (by omega)
              rw [encFd_eq] at hx2
              rw [encV_eq] at hr
              (repeat' first | simp (disch := omega) only [go_sem, hx2, List.length_map] | refine pure_of _ (hr) ?_ | ((first | refine wantDf ?_ ?_ | refine wantDt ?_ ?_ | refine wantEf ?_ ?_ | refine wantEt ?_ ?_ | refine wantNf ?_ ?_ | refine wantNt ?_ ?_ | refine wantNBf ?_ ?_ | refine wantNBt ?_ ?_ | refine wantBf ?_ ?_ | refine wantBt ?_ ?_ | refine boolD ?_ ?_ | refine boolE ?_ ?_ | refine boolN ?_ ?_ | refine boolNB ?_ ?_ | refine boolB ?_ ?_) <;> intro h <;> try simp (disch := omega) only [go_sem, hx2, List.length_map , h]))
              refine ⟨(k + 1, r), rfl, ⟨hlt, by simp only; omega, by simp only; omega, fun h => ⟨(hs5 hlf).1, fun y hy => ?_⟩⟩, by simp only; omega⟩
              rw [List.take_add_one, hx] at hy
              rcases List.mem_append.1 hy with hy | hy
              · exact (hs5 hlf).2 y hy
              · have e : y = x := by simpa using hy
                rw [e]
                exact k3 h
            · by_cases hlt2 : k < v.f.length
              · have hlf : lf < 0 := by omega
                (repeat' first | simp (disch := omega) only [go_sem, List.length_map] | ((first | refine wantDf ?_ ?_ | refine wantDt ?_ ?_ | refine wantEf ?_ ?_ | refine wantEt ?_ ?_ | refine wantNf ?_ ?_ | refine wantNt ?_ ?_ | refine wantNBf ?_ ?_ | refine wantNBt ?_ ?_ | refine wantBf ?_ ?_ | refine wantBt ?_ ?_ | refine boolD ?_ ?_ | refine boolE ?_ ?_ | refine boolN ?_ ?_ | refine boolNB ?_ ?_ | refine boolB ?_ ?_) <;> intro h <;> try simp (disch := omega) only [go_sem, List.length_map, h]))
                exact ⟨_, rfl, by omega, by omega, fun h => by omega⟩
              · rw [take_len hlt2 hk] at hs5
                (repeat' first | simp (disch := omega) only [go_sem, List.length_map] | ((first | refine wantDf ?_ ?_ | refine wantDt ?_ ?_ | refine wantEf ?_ ?_ | refine wantEt ?_ ?_ | refine wantNf ?_ ?_ | refine wantNt ?_ ?_ | refine wantNBf ?_ ?_ | refine wantNBt ?_ ?_ | refine wantBf ?_ ?_ | refine wantBt ?_ ?_ | refine boolD ?_ ?_ | refine boolE ?_ ?_ | refine boolN ?_ ?_ | refine boolNB ?_ ?_ | refine boolB ?_ ?_) <;> intro h <;> try simp (disch := omega) only [go_sem, List.length_map, h]))
                exact ⟨_, rfl, by omega, by omega, fun h => .mk (by omega) (by omega) (hs5 h).1 (hs5 h).2⟩
      · (repeat' first | simp (disch := omega) only [go_sem, ac38, enter, List.length_map] | ((first | refine wantDf ?_ ?_ | refine wantDt ?_ ?_ | refine wantEf ?_ ?_ | refine wantEt ?_ ?_ | refine wantNf ?_ ?_ | refine wantNt ?_ ?_ | refine wantNBf ?_ ?_ | refine wantNBt ?_ ?_ | refine wantBf ?_ ?_ | refine wantBt ?_ ?_ | refine boolD ?_ ?_ | refine boolE ?_ ?_ | refine boolN ?_ ?_ | refine boolNB ?_ ?_ | refine boolB ?_ ?_) <;> intro h <;> try simp (disch := omega) only [go_sem, ac38, enter, List.length_map, h]))
        all_goals first | omega | exact ⟨_, rfl, by omega, by omega, fun h => by omega⟩)
    obtain ⟨w, k1, r, rfl, k2, k3, k4⟩ := h
    exact ⟨r, k1, k2, k3, k4⟩
theorem small_few (v : V) (hv : v.bulk ≤ 2 ^ 24) (N : Nat) (hN : N < 2 ^ 30) (d : Int) (h3 : -1 ≤ d) (h4 : d < 2 ^ 30) : ∃ b, PRun C0 18 [encV v, .int .i64 N, .int .i64 d] (.bool b) ∧ (b = true → Few N v) := by
  obtain ⟨r, k1, _, _, k2⟩ := room_few N hN _ v (Nat.le_refl _) hv N d (by omega) (by omega) h3 h4
  rw [encV_eq] at k1 ⊢
  refine ⟨decide (r ≥ 0), prun_of ac18 rfl ?_, fun h => k2 (by simpa using h)⟩
  (repeat' first | simp (disch := omega) only [go_sem, ac18, enter] | refine pure_of _ (k1) ?_ | ((first | refine wantDf ?_ ?_ | refine wantDt ?_ ?_ | refine wantEf ?_ ?_ | refine wantEt ?_ ?_ | refine wantNf ?_ ?_ | refine wantNt ?_ ?_ | refine wantNBf ?_ ?_ | refine wantNBt ?_ ?_ | refine wantBf ?_ ?_ | refine wantBt ?_ ?_ | refine boolD ?_ ?_ | refine boolE ?_ ?_ | refine boolN ?_ ?_ | refine boolNB ?_ ?_ | refine boolB ?_ ?_) <;> intro h <;> try simp (disch := omega) only [go_sem, ac18, enter , h]))
/-- The law's valid. -/
theorem lawValid_run (v : V) (hv : v.bulk ≤ 2 ^ 24) : ∃ b, PRun C0 6 [encV v] (.bool b) ∧ (b = true → Gd 48 v ∧ Few 150 v) := by
  obtain ⟨b, h1, h1'⟩ := small_few v hv 150 (by omega) 60 (by omega) (by omega)
  have h2 := check_run v hv
  have h1 : PRun C0 18 [encV v, .int .i64 150, .int .i64 60] (.bool b) := h1
  cases b with
  | false =>
    refine ⟨false, prun_of ac6 rfl ?_, fun h => by cases h⟩
    rw [encV_eq] at h1 ⊢
    (repeat' first | simp (disch := omega) only [go_sem, ac6, enter] | refine pure_of _ (h1) ?_ | ((first | refine wantDf ?_ ?_ | refine wantDt ?_ ?_ | refine wantEf ?_ ?_ | refine wantEt ?_ ?_ | refine wantNf ?_ ?_ | refine wantNt ?_ ?_ | refine wantNBf ?_ ?_ | refine wantNBt ?_ ?_ | refine wantBf ?_ ?_ | refine wantBt ?_ ?_ | refine boolD ?_ ?_ | refine boolE ?_ ?_ | refine boolN ?_ ?_ | refine boolNB ?_ ?_ | refine boolB ?_ ?_) <;> intro h <;> try simp (disch := omega) only [go_sem, ac6, enter , h]))
  | true =>
    refine ⟨checkM v == 0, prun_of ac6 rfl ?_, fun h => ⟨check_gd (by simpa using h), h1' rfl⟩⟩
    rw [encV_eq] at h1 h2 ⊢
    (repeat' first | simp (disch := omega) only [go_sem, ac6, enter] | refine pure_of _ (h1) ?_ | refine pure_of _ (h2) ?_ | ((first | refine wantDf ?_ ?_ | refine wantDt ?_ ?_ | refine wantEf ?_ ?_ | refine wantEt ?_ ?_ | refine wantNf ?_ ?_ | refine wantNt ?_ ?_ | refine wantNBf ?_ ?_ | refine wantNBt ?_ ?_ | refine wantBf ?_ ?_ | refine wantBt ?_ ?_ | refine boolD ?_ ?_ | refine boolE ?_ ?_ | refine boolN ?_ ?_ | refine boolNB ?_ ?_ | refine boolB ?_ ?_) <;> intro h <;> try simp (disch := omega) only [go_sem, ac6, enter , h]))
end Ago
/- The reference's put, whole; how large what is put becomes. -/
set_option maxRecDepth 100000
set_option maxHeartbeats 4000000
namespace Ago
open Go (IntKind)
theorem nullV_few (N : Nat) : Few N nullV := .mk (by simp [nullV, V.l]) (by simp [nullV, V.f]) (fun x hx => by simp [nullV, V.l] at hx) fun x hx => by simp [nullV, V.f] at hx
theorem part_few {N : Nat} {v : V} {s : Stp} (h : Few N v) : Few N (partM v s) := by
  cases h with
  | mk hl hf hk hkf =>
    unfold partM
    split
    · split
      · cases hx : v.l[s.index.toNat]? with
        | none => exact nullV_few N
        | some x => exact hk x (List.mem_of_getElem? hx)
      · exact nullV_few N
    · cases hx : fieldM v.f s.key with
      | none => exact nullV_few N
      | some x =>
        obtain ⟨y, hy, rfl⟩ := field_mem hx
        exact hkf y hy
theorem Few.list {N : Nat} {v : V} (h : Few N v) : Few N (listV v.l) := by
  cases h with
  | mk hl hf hk hkf => exact .mk hl (by simp [listV, V.f]) hk fun x hx => by simp [listV, V.f] at hx
theorem Few.map {N : Nat} {v : V} (h : Few N v) : Few N (mapV v.f) := by
  cases h with
  | mk hl hf hk hkf => exact .mk (by simp [mapV, V.l]) hf (fun x hx => by simp [mapV, V.l] at hx) hkf
theorem Few.len {N : Nat} {v : V} (h : Few N v) : v.l.length ≤ N := by
  cases h with
  | mk hl hf hk hkf => exact hl
theorem refPut_run : ∀ (p : List Stp) (v x : V), (∃ n, n ≤ 48 ∧ Gd n v) → v.bulk ≤ 2 ^ 24 → Few 65536 v → p.length < 2 ^ 30 → (∀ s, s ∈ p → stpIn s) → PRun C0 127 [encV v, .tsl 3 (p.map encS), encV x] (.tup [encV (putM p v x).1, .int .i64 (putM p v x).2])
  | [], v, x, hg, hv, hfew, hp, hs => by
    refine prun_of ac127 rfl ?_
    rw [show putM [] v x = (x, 0) from rfl]
    rw [encV_eq v, encV_eq x]
    (repeat' first | simp (disch := omega) only [go_sem, ac127, enter, List.map_nil] | ((first | refine wantDf ?_ ?_ | refine wantDt ?_ ?_ | refine wantEf ?_ ?_ | refine wantEt ?_ ?_ | refine wantNf ?_ ?_ | refine wantNt ?_ ?_ | refine wantNBf ?_ ?_ | refine wantNBt ?_ ?_ | refine wantBf ?_ ?_ | refine wantBt ?_ ?_ | refine boolD ?_ ?_ | refine boolE ?_ ?_ | refine boolN ?_ ?_ | refine boolNB ?_ ?_ | refine boolB ?_ ?_) <;> intro h <;> try simp (disch := omega) only [go_sem, ac127, enter, List.map_nil, h]))
  | s :: p, v, x, hg, hv, hfew, hp, hs => by
    have hp' : p.length < 2 ^ 30 - 1 := by
      have : p.length + 1 < 2 ^ 30 := by simpa using hp
      omega
    obtain ⟨n, hn, hg⟩ := hg
    have hs0 := hs s (by simp)
    rw [putM_cons]
    cases hb : s.byIndex with
    | true =>
      rw [if_pos rfl]
      obtain ⟨hi0, hi1⟩ := hs0 hb
      refine refPutIdx_step s p v x (putM p (partM (listV v.l) s) x) hn hg hv hp' hb hi0 hi1 hfew.len fun hk => ?_
      obtain ⟨hgm, hbm⟩ := as_list hg hk
      obtain ⟨hpg, hpb⟩ := part_sub hn hgm (by omega) (s := s) (by simp [fitsM, hb, listV, V.s])
      exact refPut_run p _ x hpg hpb (part_few hfew.list) (by omega) fun t ht => hs t (by simp [ht])
    | false =>
      rw [if_neg (by simp)]
      refine refPutKey_step s p v x (putM p (partM (mapV v.f) s) x) hn hg hv hp' hb fun hk => ?_
      obtain ⟨hgm, hbm⟩ := as_map hg hk
      obtain ⟨hpg, hpb⟩ := part_sub hn hgm (by omega) (s := s) (by simp [fitsM, hb, mapV, V.s])
      exact refPut_run p _ x hpg hpb (part_few hfew.map) (by omega) fun t ht => hs t (by simp [ht])

/-! ### How large -/

theorem bulks_set : ∀ {l : List AV} {i : Nat} {x y : AV}, l[i]? = some x → AV.bulks (l.set i y) + x.bulk = AV.bulks l + y.bulk
  | [], i, x, y, h => by simp at h
  | z :: l, 0, x, y, h => by
    simp at h
    subst h
    simp [AV.bulks]
    omega
  | z :: l, i + 1, x, y, h => by
    have := bulks_set (l := l) (i := i) (x := x) (y := y) (by simpa using h)
    simp [AV.bulks]
    omega
theorem bulks_rep (n : Nat) (x : AV) : AV.bulks (List.replicate n x) = n * x.bulk := by
  induction n with
  | zero => simp [AV.bulks]
  | succ n ih =>
    rw [List.replicate_succ, show AV.bulks (x :: List.replicate n x) = x.bulk + AV.bulks (List.replicate n x) by simp [AV.bulks], ih, Nat.add_mul, Nat.one_mul]
    omega
theorem bulk_listV (l : List V) : (listV l).bulk = AV.bulks (l.map encV) + 14 := by
  rw [V.bulk_eq]
  simp [listV, V.s, V.l, V.f, encB, AV.bulks]
theorem bulk_mapV (f : List (List UInt8 × V)) : (mapV f).bulk = AV.bulks (f.map encFd) + 14 := by
  rw [V.bulk_eq]
  simp [mapV, V.s, V.l, V.f, encB, AV.bulks]
theorem bulk_fd (x : List UInt8 × V) : (encFd x).bulk = x.2.bulk + x.1.length + 1 := by
  unfold V.bulk encFd
  rw [encV_eq]
  simp [AV.bulk, AV.bulks, AV.cells]
  omega
theorem bulk_null : nullV.bulk = 14 := by
  unfold V.bulk
  rw [nullV_enc]
  rfl
theorem putL_bulk (l : List V) (i : Nat) (y : V) : (listV (putL l i y)).bulk + ((l[i]?).getD nullV).bulk ≤ (listV l).bulk + y.bulk + (i + 1) * 15 + 14 := by
  rw [bulk_listV, bulk_listV]
  unfold putL
  rw [List.map_set]
  by_cases h : i < l.length
  · have hx : l[i]? = some l[i] := List.getElem?_eq_getElem h
    rw [hx, show i + 1 - l.length = 0 by omega, List.replicate_zero, List.append_nil]
    have := bulks_set (y := encV y) (map_get (g := encV) hx)
    simp only [Option.getD_some]
    show _ + (encV l[i]).bulk ≤ _ + (encV y).bulk + _ + _
    omega
  · rw [List.getElem?_eq_none (by omega), Option.getD_none]
    have hx : ((l ++ List.replicate (i + 1 - l.length) nullV).map encV)[i]? = some (encV nullV) := by
      rw [List.getElem?_map, List.getElem?_append_right (by omega), List.getElem?_replicate, if_pos (by omega)]
      rfl
    have := bulks_set (y := encV y) hx
    have e1 : AV.bulks ((l ++ List.replicate (i + 1 - l.length) nullV).map encV) = AV.bulks (l.map encV) + (i + 1 - l.length) * 14 := by
      rw [List.map_append, bulks_append, List.map_replicate, bulks_rep, show (encV nullV).bulk = 14 from bulk_null]
    have e2 : (encV nullV).bulk = 14 := bulk_null
    have e3 : nullV.bulk = 14 := bulk_null
    have e4 : (i + 1 - l.length) * 14 ≤ (i + 1) * 15 := Nat.mul_le_mul (by omega) (by omega)
    have e5 : (encV y).bulk = y.bulk := rfl
    omega
theorem putF_bulk (f : List (List UInt8 × V)) (key : List UInt8) (y : V) : (mapV (putF f key y)).bulk + ((fieldM f key).getD nullV).bulk ≤ (mapV f).bulk + y.bulk + key.length + 20 := by
  rw [bulk_mapV, bulk_mapV]
  unfold putF
  cases hka : keyAt f key with
  | none =>
    have hn : fieldM f key = none := (field_none fun y hy => by simpa using List.findIdx?_eq_none_iff.1 hka y hy).1
    rw [hn, Option.getD_none, bulk_null]
    simp only
    rw [List.map_append, bulks_append]
    have := bulk_fd (key, y)
    simp only [List.map_cons, List.map_nil, AV.bulks]
    simp only at this
    omega
  | some i =>
    obtain ⟨z, hz, hzk⟩ := keyAt_get hka
    have hn : fieldM f key = some z.2 := by
      obtain ⟨x', h1, h2⟩ := keyAt_some hka
      rw [hz] at h1
      cases h1
      exact h2
    rw [hn, Option.getD_some]
    simp only
    rw [List.map_set]
    have := bulks_set (y := encFd (key, y)) (map_get (g := encFd) hz)
    rw [bulk_fd, bulk_fd, hzk] at this
    simp only at this
    omega
theorem putM_bulk {I K : Nat} : ∀ (p : List Stp) (v x : V), (∀ s, s ∈ p → 0 ≤ s.index ∧ s.index ≤ I ∧ s.key.length ≤ K) → (putM p v x).1.bulk ≤ max v.bulk 14 + x.bulk + p.length * ((I + 1) * 15 + K + 40)
  | [], v, x, h => by
    show x.bulk ≤ _
    omega
  | s :: p, v, x, h => by
    obtain ⟨h1, h2, h3⟩ := h s (by simp)
    have ih := fun w => putM_bulk p w x fun t ht => h t (by simp [ht])
    have hnull := bulk_null
    have hL : (listV v.l).bulk ≤ v.bulk := by
      have := bulk_listV v.l
      have := v.bulk_eq
      omega
    have hM : (mapV v.f).bulk ≤ v.bulk := by
      have := bulk_mapV v.f
      have := v.bulk_eq
      omega
    have hi : (s.index.toNat + 1) * 15 ≤ (I + 1) * 15 := Nat.mul_le_mul_right _ (by omega)
    have hlen : (s :: p).length * ((I + 1) * 15 + K + 40) = p.length * ((I + 1) * 15 + K + 40) + ((I + 1) * 15 + K + 40) := by rw [List.length_cons, Nat.add_mul, Nat.one_mul]
    rw [hlen, putM_cons]
    split
    · rename_i hb
      split
      · have e : partM (listV v.l) s = (v.l[s.index.toNat]?).getD nullV := by
          unfold partM
          rw [if_pos hb, if_pos h1]
          rfl
        rw [e]
        have := ih ((v.l[s.index.toNat]?).getD nullV)
        split
        · show nullV.bulk ≤ _
          omega
        · split
          · show nullV.bulk ≤ _
            omega
          · have h5 := putL_bulk v.l s.index.toNat (putM p ((v.l[s.index.toNat]?).getD nullV) x).1
            show (listV _).bulk ≤ _
            have h6 : 14 ≤ ((v.l[s.index.toNat]?).getD nullV).bulk := by rw [V.bulk_eq]; omega
            omega
      · show nullV.bulk ≤ _
        omega
    · rename_i hb
      split
      · have e : partM (mapV v.f) s = (fieldM v.f s.key).getD nullV := by
          unfold partM
          rw [if_neg hb]
          rfl
        rw [e]
        have := ih ((fieldM v.f s.key).getD nullV)
        split
        · show nullV.bulk ≤ _
          omega
        · have h5 := putF_bulk v.f s.key (putM p ((fieldM v.f s.key).getD nullV) x).1
          show (mapV _).bulk ≤ _
          have h6 : 14 ≤ ((fieldM v.f s.key).getD nullV).bulk := by rw [V.bulk_eq]; omega
          omega
      · show nullV.bulk ≤ _
        omega
end Ago
/- Put, and the reference's Put. -/
set_option maxRecDepth 100000
set_option maxHeartbeats 4000000
namespace Ago
open Go (IntKind)
/-- What Put returns. -/
def putC (p : List Stp) (v x : V) : V × Int :=
  if p = [] then (x, 0) else if (putM p v x).2 ≠ 0 then (nullV, (putM p v x).2) else if checkM (putM p v x).1 ≠ 0 then (nullV, checkM (putM p v x).1) else ((putM p v x).1, 0)
theorem putC_cases {p : List Stp} (hp : p ≠ []) (v x : V) : ((putM p v x).2 ≠ 0 ∧ putC p v x = (nullV, (putM p v x).2)) ∨ ((putM p v x).2 = 0 ∧ checkM (putM p v x).1 ≠ 0 ∧ putC p v x = (nullV, checkM (putM p v x).1)) ∨ ((putM p v x).2 = 0 ∧ checkM (putM p v x).1 = 0 ∧ putC p v x = ((putM p v x).1, 0)) := by
  unfold putC
  rw [if_neg hp]
  by_cases h1 : (putM p v x).2 = 0
  · rw [if_neg (by rw [h1]; simp)]
    by_cases h2 : checkM (putM p v x).1 = 0
    · rw [if_neg (by rw [h2]; simp)]
      exact .inr (.inr ⟨h1, h2, rfl⟩)
    · rw [if_pos h2]
      exact .inr (.inl ⟨h1, h2, rfl⟩)
  · rw [if_pos h1]
    exact .inl ⟨h1, rfl⟩
theorem qPut_run (p : List Stp) (v x : V) (hg : ∃ n, n ≤ 48 ∧ Gd n v) (hv : v.bulk ≤ 2 ^ 24) (hx : ∃ n, n ≤ 48 ∧ Gd n x) (hxv : x.bulk ≤ 2 ^ 24) (hp : p.length < 2 ^ 30) (hs : ∀ s, s ∈ p → stpIn s) (hb : (putM p v x).1.bulk ≤ 2 ^ 24) :
    PRun C0 121 [encV v, .tsl 3 (p.map encS), encV x] (.tup [encV (putC p v x).1, .int .i64 (putC p v x).2]) := by
  have h1 := put_run p v x hg hv hp hs
  have h2 := checkV_run _ hb
  obtain ⟨m, hm, hgx⟩ := hx
  have h4 := copy_run hgx.good (by omega) hxv
  refine prun_of ac121 rfl ?_
  by_cases h0 : p = []
  · subst h0
    rw [show putC [] v x = (x, 0) from rfl]
    rw [encV_eq x] at h4 ⊢
    rw [encV_eq v]
    (repeat' first | simp (disch := omega) only [go_sem, ac121, enter, zeroS, List.map_nil] | refine pure_of _ (h4) ?_ | ((first | refine wantDf ?_ ?_ | refine wantDt ?_ ?_ | refine wantEf ?_ ?_ | refine wantEt ?_ ?_ | refine wantNf ?_ ?_ | refine wantNt ?_ ?_ | refine wantNBf ?_ ?_ | refine wantNBt ?_ ?_ | refine wantBf ?_ ?_ | refine wantBt ?_ ?_ | refine boolD ?_ ?_ | refine boolE ?_ ?_ | refine boolN ?_ ?_ | refine boolNB ?_ ?_ | refine boolB ?_ ?_) <;> intro h <;> try simp (disch := omega) only [go_sem, ac121, enter, zeroS, List.map_nil , h]))
  · have hlen : 0 < p.length := List.length_pos_iff.2 h0
    rcases putC_cases h0 v x with ⟨e1, e2⟩ | ⟨e1, e2, e3⟩ | ⟨e1, e2, e3⟩
    · rw [e2, nullV_enc]
      generalize putM p v x = R at h1 h2 e1
      rw [encV_eq v, encV_eq x] at h1 ⊢
      rw [encV_eq R.1] at h1
      (repeat' first | simp (disch := omega) only [go_sem, ac121, enter, zeroS, List.length_map] | refine pure_of _ (h1) ?_ | ((first | refine wantDf ?_ ?_ | refine wantDt ?_ ?_ | refine wantEf ?_ ?_ | refine wantEt ?_ ?_ | refine wantNf ?_ ?_ | refine wantNt ?_ ?_ | refine wantNBf ?_ ?_ | refine wantNBt ?_ ?_ | refine wantBf ?_ ?_ | refine wantBt ?_ ?_ | refine boolD ?_ ?_ | refine boolE ?_ ?_ | refine boolN ?_ ?_ | refine boolNB ?_ ?_ | refine boolB ?_ ?_) <;> intro h <;> try simp (disch := omega) only [go_sem, ac121, enter, zeroS, List.length_map , h]))
    · rw [e3, nullV_enc]
      generalize putM p v x = R at h1 h2 e1 e2
      rw [e1] at h1
      rw [encV_eq v, encV_eq x] at h1 ⊢
      rw [encV_eq R.1] at h1 h2
      (repeat' first | simp (disch := omega) only [go_sem, ac121, enter, zeroS, List.length_map] | refine pure_of _ (h1) ?_ | refine pure_of _ (h2) ?_ | ((first | refine wantDf ?_ ?_ | refine wantDt ?_ ?_ | refine wantEf ?_ ?_ | refine wantEt ?_ ?_ | refine wantNf ?_ ?_ | refine wantNt ?_ ?_ | refine wantNBf ?_ ?_ | refine wantNBt ?_ ?_ | refine wantBf ?_ ?_ | refine wantBt ?_ ?_ | refine boolD ?_ ?_ | refine boolE ?_ ?_ | refine boolN ?_ ?_ | refine boolNB ?_ ?_ | refine boolB ?_ ?_) <;> intro h <;> try simp (disch := omega) only [go_sem, ac121, enter, zeroS, List.length_map , h]))
    · rw [e3]
      have h3 := copy_run (check_gd e2).good (by omega) hb
      generalize putM p v x = R at h1 h2 h3 e1 e2
      rw [e1] at h1
      rw [e2] at h2
      rw [encV_eq v, encV_eq x] at h1 ⊢
      rw [encV_eq R.1] at h1 h2 h3 ⊢
      (repeat' first | simp (disch := omega) only [go_sem, ac121, enter, zeroS, List.length_map] | refine pure_of _ (h1) ?_ | refine pure_of _ (h2) ?_ | refine pure_of _ (h3) ?_ | ((first | refine wantDf ?_ ?_ | refine wantDt ?_ ?_ | refine wantEf ?_ ?_ | refine wantEt ?_ ?_ | refine wantNf ?_ ?_ | refine wantNt ?_ ?_ | refine wantNBf ?_ ?_ | refine wantNBt ?_ ?_ | refine wantBf ?_ ?_ | refine wantBt ?_ ?_ | refine boolD ?_ ?_ | refine boolE ?_ ?_ | refine boolN ?_ ?_ | refine boolNB ?_ ?_ | refine boolB ?_ ?_) <;> intro h <;> try simp (disch := omega) only [go_sem, ac121, enter, zeroS, List.length_map , h]))
theorem refPutQ_run (p : List Stp) (v x : V) (hg : ∃ n, n ≤ 48 ∧ Gd n v) (hv : v.bulk ≤ 2 ^ 24) (hfew : Few 65536 v) (hp : p.length < 2 ^ 30) (hs : ∀ s, s ∈ p → stpIn s) (hb : (putM p v x).1.bulk ≤ 2 ^ 24) :
    PRun C0 122 [encV v, .tsl 3 (p.map encS), encV x] (.tup [encV (putC p v x).1, .int .i64 (putC p v x).2]) := by
  have h1 := refPut_run p v x hg hv hfew hp hs
  have h2 := check_run _ hb
  refine prun_of ac122 rfl ?_
  by_cases h0 : p = []
  · subst h0
    rw [show putC [] v x = (x, 0) from rfl]
    rw [encV_eq v, encV_eq x]
    (repeat' first | simp (disch := omega) only [go_sem, ac122, enter, zeroS, List.map_nil] | ((first | refine wantDf ?_ ?_ | refine wantDt ?_ ?_ | refine wantEf ?_ ?_ | refine wantEt ?_ ?_ | refine wantNf ?_ ?_ | refine wantNt ?_ ?_ | refine wantNBf ?_ ?_ | refine wantNBt ?_ ?_ | refine wantBf ?_ ?_ | refine wantBt ?_ ?_ | refine boolD ?_ ?_ | refine boolE ?_ ?_ | refine boolN ?_ ?_ | refine boolNB ?_ ?_ | refine boolB ?_ ?_) <;> intro h <;> try simp (disch := omega) only [go_sem, ac122, enter, zeroS, List.map_nil, h]))
  · have hlen : 0 < p.length := List.length_pos_iff.2 h0
    rcases putC_cases h0 v x with ⟨e1, e2⟩ | ⟨e1, e2, e3⟩ | ⟨e1, e2, e3⟩
    · rw [e2, nullV_enc]
      generalize putM p v x = R at h1 h2 e1
      rw [encV_eq v, encV_eq x] at h1 ⊢
      rw [encV_eq R.1] at h1
      (repeat' first | simp (disch := omega) only [go_sem, ac122, enter, zeroS, List.length_map] | refine pure_of _ (h1) ?_ | ((first | refine wantDf ?_ ?_ | refine wantDt ?_ ?_ | refine wantEf ?_ ?_ | refine wantEt ?_ ?_ | refine wantNf ?_ ?_ | refine wantNt ?_ ?_ | refine wantNBf ?_ ?_ | refine wantNBt ?_ ?_ | refine wantBf ?_ ?_ | refine wantBt ?_ ?_ | refine boolD ?_ ?_ | refine boolE ?_ ?_ | refine boolN ?_ ?_ | refine boolNB ?_ ?_ | refine boolB ?_ ?_) <;> intro h <;> try simp (disch := omega) only [go_sem, ac122, enter, zeroS, List.length_map , h]))
    · rw [e3, nullV_enc]
      generalize putM p v x = R at h1 h2 e1 e2
      rw [e1] at h1
      rw [encV_eq v, encV_eq x] at h1 ⊢
      rw [encV_eq R.1] at h1 h2
      (repeat' first | simp (disch := omega) only [go_sem, ac122, enter, zeroS, List.length_map] | refine pure_of _ (h1) ?_ | refine pure_of _ (h2) ?_ | ((first | refine wantDf ?_ ?_ | refine wantDt ?_ ?_ | refine wantEf ?_ ?_ | refine wantEt ?_ ?_ | refine wantNf ?_ ?_ | refine wantNt ?_ ?_ | refine wantNBf ?_ ?_ | refine wantNBt ?_ ?_ | refine wantBf ?_ ?_ | refine wantBt ?_ ?_ | refine boolD ?_ ?_ | refine boolE ?_ ?_ | refine boolN ?_ ?_ | refine boolNB ?_ ?_ | refine boolB ?_ ?_) <;> intro h <;> try simp (disch := omega) only [go_sem, ac122, enter, zeroS, List.length_map , h]))
    · rw [e3]
      generalize putM p v x = R at h1 h2 e1 e2
      rw [e1] at h1
      rw [e2] at h2
      rw [encV_eq v, encV_eq x] at h1 ⊢
      rw [encV_eq R.1] at h1 h2 ⊢
      (repeat' first | simp (disch := omega) only [go_sem, ac122, enter, zeroS, List.length_map] | refine pure_of _ (h1) ?_ | refine pure_of _ (h2) ?_ | ((first | refine wantDf ?_ ?_ | refine wantDt ?_ ?_ | refine wantEf ?_ ?_ | refine wantEt ?_ ?_ | refine wantNf ?_ ?_ | refine wantNt ?_ ?_ | refine wantNBf ?_ ?_ | refine wantNBt ?_ ?_ | refine wantBf ?_ ?_ | refine wantBt ?_ ?_ | refine boolD ?_ ?_ | refine boolE ?_ ?_ | refine boolN ?_ ?_ | refine boolNB ?_ ?_ | refine boolB ?_ ?_) <;> intro h <;> try simp (disch := omega) only [go_sem, ac122, enter, zeroS, List.length_map , h]))
noncomputable def nearM (p : List Stp) : Bool := pathOk p && p.all fun s => decide (s.index ≤ 200)
theorem near_run (p : List Stp) (hp : p.length < 2 ^ 30) (hk : ∀ s, s ∈ p → s.key.length < 2 ^ 30) : PRun C0 120 [.tsl 3 (p.map encS)] (.bool (nearM p)) := by
  have h1 := validPath_run p hp hk
  refine prun_of ac120 rfl ?_
  unfold nearM
  cases hb : pathOk p with
  | false =>
    rw [hb] at h1
    (repeat' first | simp (disch := omega) only [go_sem, ac120, enter] | refine pure_of _ (h1) ?_ | ((first | refine wantDf ?_ ?_ | refine wantDt ?_ ?_ | refine wantEf ?_ ?_ | refine wantEt ?_ ?_ | refine wantNf ?_ ?_ | refine wantNt ?_ ?_ | refine wantNBf ?_ ?_ | refine wantNBt ?_ ?_ | refine wantBf ?_ ?_ | refine wantBt ?_ ?_ | refine boolD ?_ ?_ | refine boolE ?_ ?_ | refine boolN ?_ ?_ | refine boolNB ?_ ?_ | refine boolB ?_ ?_) <;> intro h <;> try simp (disch := omega) only [go_sem, ac120, enter , h]))
  | true =>
    rw [hb] at h1
    (repeat' first | simp (disch := omega) only [go_sem, ac120, enter] | refine pure_of _ (h1) ?_ | ((first | refine wantDf ?_ ?_ | refine wantDt ?_ ?_ | refine wantEf ?_ ?_ | refine wantEt ?_ ?_ | refine wantNf ?_ ?_ | refine wantNt ?_ ?_ | refine wantNBf ?_ ?_ | refine wantNBt ?_ ?_ | refine wantBf ?_ ?_ | refine wantBt ?_ ?_ | refine boolD ?_ ?_ | refine boolE ?_ ?_ | refine boolN ?_ ?_ | refine boolNB ?_ ?_ | refine boolB ?_ ?_) <;> intro h <;> try simp (disch := omega) only [go_sem, ac120, enter , h]))
    refine loop_of (α := Nat) (fun k => { tmps := slots 19 [(0, .tsl 3 (p.map encS)), (3, .int .i64 k)], heap := [], base := 0 }) (fun k => k ≤ p.length ∧ ∀ s, s ∈ p.take k → s.index ≤ 200) (fun k => p.length - k) 0 rfl ⟨Nat.zero_le _, by simp⟩ ?_
    rintro k ⟨hk1, hk2⟩
    by_cases hlt : k < p.length
    · obtain ⟨s, hs⟩ := get_some hlt
      have hs2 := map_get (g := encS) hs
      rw [encS_of] at hs2
      by_cases h200 : 200 < s.index
      · have hall : (p.all fun s => decide (s.index ≤ 200)) = false := by
          rw [List.all_eq_false]
          exact ⟨s, List.mem_of_getElem? hs, by simp; omega⟩
        rw [hall]
        (repeat' first | simp (disch := omega) only [go_sem, hs2, List.length_map] | ((first | refine wantDf ?_ ?_ | refine wantDt ?_ ?_ | refine wantEf ?_ ?_ | refine wantEt ?_ ?_ | refine wantNf ?_ ?_ | refine wantNt ?_ ?_ | refine wantNBf ?_ ?_ | refine wantNBt ?_ ?_ | refine wantBf ?_ ?_ | refine wantBt ?_ ?_ | refine boolD ?_ ?_ | refine boolE ?_ ?_ | refine boolN ?_ ?_ | refine boolNB ?_ ?_ | refine boolB ?_ ?_) <;> intro h <;> try simp (disch := omega) only [go_sem, hs2, List.length_map, h]))
      · (repeat' first | simp (disch := omega) only [go_sem, hs2, List.length_map] | ((first | refine wantDf ?_ ?_ | refine wantDt ?_ ?_ | refine wantEf ?_ ?_ | refine wantEt ?_ ?_ | refine wantNf ?_ ?_ | refine wantNt ?_ ?_ | refine wantNBf ?_ ?_ | refine wantNBt ?_ ?_ | refine wantBf ?_ ?_ | refine wantBt ?_ ?_ | refine boolD ?_ ?_ | refine boolE ?_ ?_ | refine boolN ?_ ?_ | refine boolNB ?_ ?_ | refine boolB ?_ ?_) <;> intro h <;> try simp (disch := omega) only [go_sem, hs2, List.length_map, h]))
        refine ⟨k + 1, rfl, ⟨hlt, fun y hy => ?_⟩, by omega⟩
        rw [List.take_add_one, hs] at hy
        rcases List.mem_append.1 hy with hy | hy
        · exact hk2 y hy
        · have e : y = s := by simpa using hy
          rw [e]
          omega
    · rw [take_len hlt hk1] at hk2
      have hall : (p.all fun s => decide (s.index ≤ 200)) = true := by
        rw [List.all_eq_true]
        exact fun s hs => by simpa using hk2 s hs
      rw [hall]
      (repeat' first | simp (disch := omega) only [go_sem, List.length_map] | ((first | refine wantDf ?_ ?_ | refine wantDt ?_ ?_ | refine wantEf ?_ ?_ | refine wantEt ?_ ?_ | refine wantNf ?_ ?_ | refine wantNt ?_ ?_ | refine wantNBf ?_ ?_ | refine wantNBt ?_ ?_ | refine wantBf ?_ ?_ | refine wantBt ?_ ?_ | refine boolD ?_ ?_ | refine boolE ?_ ?_ | refine boolN ?_ ?_ | refine boolNB ?_ ?_ | refine boolB ?_ ?_) <;> intro h <;> try simp (disch := omega) only [go_sem, List.length_map, h]))
end Ago
/- What is put is what is read; putting it again changes nothing. -/
namespace Ago
theorem putL_get (l : List V) (i : Nat) (y : V) : (putL l i y)[i]? = some y := by
  unfold putL
  rw [List.getElem?_set_self (by simp; omega)]
theorem putL_len (l : List V) (i : Nat) (y : V) : i < (putL l i y).length := by
  unfold putL
  simp
  omega
theorem putL_again (l : List V) (i : Nat) (y : V) : putL (putL l i y) i y = putL l i y := by
  have h := putL_len l i y
  have hg := putL_get l i y
  generalize putL l i y = m at h hg
  unfold putL
  rw [show i + 1 - m.length = 0 by omega, List.replicate_zero, List.append_nil]
  apply List.ext_getElem?
  intro j
  rw [List.getElem?_set]
  split
  · rename_i e
    subst e
    first | rw [if_pos h, hg] | rw [hg]
  · rfl
theorem keyAt_set {f : List (List UInt8 × V)} {key : List UInt8} {i : Nat} {y : V} (h : keyAt f key = some i) : keyAt (f.set i (key, y)) key = some i := by
  obtain ⟨hlt, h1, h2⟩ := List.findIdx?_eq_some_iff_getElem.1 h
  refine List.findIdx?_eq_some_iff_getElem.2 ⟨by simpa using hlt, by simp, fun j hj => ?_⟩
  rw [List.getElem_set_ne (by omega)]
  exact h2 j hj
theorem keyAt_add {f : List (List UInt8 × V)} {key : List UInt8} {y : V} (h : keyAt f key = none) : keyAt (f ++ [(key, y)]) key = some f.length := by
  have h := List.findIdx?_eq_none_iff.1 h
  refine List.findIdx?_eq_some_iff_getElem.2 ⟨by simp, by simp, fun j hj => ?_⟩
  rw [List.getElem_append_left hj]
  simpa using h _ (List.getElem_mem hj)
theorem putF_key (f : List (List UInt8 × V)) (key : List UInt8) (y : V) : ∃ i, keyAt (putF f key y) key = some i ∧ (putF f key y)[i]? = some (key, y) := by
  unfold putF
  cases h : keyAt f key with
  | none =>
    refine ⟨f.length, keyAt_add h, ?_⟩
    simp
  | some i =>
    obtain ⟨hlt, h1, h2⟩ := List.findIdx?_eq_some_iff_getElem.1 h
    exact ⟨i, keyAt_set h, by simp only; rw [List.getElem?_set_self hlt]⟩
theorem putF_get (f : List (List UInt8 × V)) (key : List UInt8) (y : V) : fieldM (putF f key y) key = some y := by
  obtain ⟨i, h1, h2⟩ := putF_key f key y
  obtain ⟨x, h3, h4⟩ := keyAt_some h1
  rw [h2] at h3
  cases h3
  exact h4
theorem putF_again (f : List (List UInt8 × V)) (key : List UInt8) (y : V) : putF (putF f key y) key y = putF f key y := by
  obtain ⟨i, h1, h2⟩ := putF_key f key y
  generalize putF f key y = g at h1 h2
  unfold putF
  rw [h1]
  simp only
  apply List.ext_getElem?
  intro j
  rw [List.getElem?_set]
  split
  · rename_i e
    subst e
    first | rw [if_pos (List.getElem?_eq_some_iff.1 h2).1, h2] | rw [h2]
  · rfl
theorem putM_get : ∀ (p : List Stp) (v x : V), (∀ s, s ∈ p → stpIn s) → (putM p v x).2 = 0 → getM (putM p v x).1 p = (x, 0) ∧ putM p (putM p v x).1 x = ((putM p v x).1, 0)
  | [], v, x, _, _ => ⟨rfl, rfl⟩
  | s :: p, v, x, hs, h => by
    have ih := fun w hw => putM_get p w x (fun t ht => hs t (by simp [ht])) hw
    rw [putM_cons] at h ⊢
    split at h
    · rename_i hb
      obtain ⟨hi0, _⟩ := hs s (by simp) hb
      rw [if_pos hb]
      split at h
      · rename_i hk
        rw [if_pos hk]
        split at h
        · rename_i he
          exact (he h).elim
        · rename_i he
          have he := Classical.not_not.1 he
          rw [if_neg (by rw [he]; simp)]
          split at h
          · cases h
          · rename_i hbig
            rw [if_neg hbig]
            obtain ⟨i1, i2⟩ := ih _ he
            generalize (putM p (partM (listV v.l) s) x).1 = y at i1 i2
            have hp : partM (listV (putL v.l s.index.toNat y)) s = y := by
              unfold partM
              rw [if_pos hb, if_pos hi0, show (listV (putL v.l s.index.toNat y)).l = putL v.l s.index.toNat y from rfl, putL_get]
              rfl
            refine ⟨?_, ?_⟩
            · show getM (listV (putL v.l s.index.toNat y)) (s :: p) = (x, 0)
              unfold getM
              rw [if_neg (by simp [listV, V.s]), if_neg (by simp [fitsM, hb, listV, V.s]), hp]
              exact i1
            · show putM (s :: p) (listV (putL v.l s.index.toNat y)) x = (listV (putL v.l s.index.toNat y), 0)
              rw [putM_cons, if_pos hb, if_pos (by simp [listV, V.s])]
              rw [show listV (listV (putL v.l s.index.toNat y)).l = listV (putL v.l s.index.toNat y) from rfl, hp, i2]
              rw [if_neg (by simp), if_neg hbig, show (listV (putL v.l s.index.toNat y)).l = putL v.l s.index.toNat y from rfl, putL_again]
      · cases h
    · rename_i hb
      rw [if_neg hb]
      have hb' : s.byIndex = false := by simpa using hb
      split at h
      · rename_i hk
        rw [if_pos hk]
        split at h
        · rename_i he
          exact (he h).elim
        · rename_i he
          have he := Classical.not_not.1 he
          rw [if_neg (by rw [he]; simp)]
          obtain ⟨i1, i2⟩ := ih _ he
          generalize (putM p (partM (mapV v.f) s) x).1 = y at i1 i2
          have hp : partM (mapV (putF v.f s.key y)) s = y := by
            unfold partM
            rw [if_neg hb, show (mapV (putF v.f s.key y)).f = putF v.f s.key y from rfl, putF_get]
            rfl
          refine ⟨?_, ?_⟩
          · show getM (mapV (putF v.f s.key y)) (s :: p) = (x, 0)
            unfold getM
            rw [if_neg (by simp [mapV, V.s]), if_neg (by simp [fitsM, hb', mapV, V.s]), hp]
            exact i1
          · show putM (s :: p) (mapV (putF v.f s.key y)) x = (mapV (putF v.f s.key y), 0)
            rw [putM_cons, if_neg hb, if_pos (by simp [mapV, V.s])]
            rw [show mapV (mapV (putF v.f s.key y)).f = mapV (putF v.f s.key y) from rfl, hp, i2]
            rw [if_neg (by simp), show (mapV (putF v.f s.key y)).f = putF v.f s.key y from rfl, putF_again]
      · cases h
end Ago
/- The laws QpathPuts, QpathFar, QpathPutGet: their runs. -/
set_option maxRecDepth 100000
set_option maxHeartbeats 4000000
namespace Ago
open Go (IntKind)
theorem near_facts {p : List Stp} (h : nearM p = true) : p.length ≤ 48 ∧ (∀ s, s ∈ p → stpIn s) ∧ ∀ s, s ∈ p → 0 ≤ s.index ∧ s.index ≤ (200 : Nat) ∧ s.key.length ≤ 1024 := by
  unfold nearM pathOk at h
  simp only [Bool.and_eq_true, decide_eq_true_eq, List.all_eq_true] at h
  obtain ⟨⟨h1, h2⟩, h3⟩ := h
  have key : ∀ s, s ∈ p → 0 ≤ s.index ∧ s.index ≤ 200 ∧ s.key.length ≤ 1024 := fun s hs => by
    have ho := h2 s hs
    have h200 := h3 s hs
    unfold stpOk at ho
    split at ho
    · simp only [Bool.and_eq_true, decide_eq_true_eq, beq_iff_eq] at ho
      refine ⟨ho.1.2, by omega, ?_⟩
      rw [ho.1.1]
      simp
    · simp only [Bool.and_eq_true, decide_eq_true_eq, beq_iff_eq] at ho
      exact ⟨by omega, by omega, ho.1.2⟩
  exact ⟨h1, fun s hs _ => by have := key s hs; omega, fun s hs => by have := key s hs; omega⟩
theorem Few.mono {N : Nat} {v : V} (h : Few N v) : ∀ {M : Nat}, N ≤ M → Few M v := by
  induction h with
  | mk hl hf _ _ ih1 ih2 => exact fun hM => .mk (by omega) (by omega) (fun x hx => ih1 x hx hM) fun x hx => ih2 x hx hM
theorem near_bulk {p : List Stp} (h : nearM p = true) (v x : V) : (putM p v x).1.bulk ≤ max v.bulk 14 + x.bulk + 200000 := by
  obtain ⟨h1, _, h3⟩ := near_facts h
  have := putM_bulk (I := 200) (K := 1024) p v x h3
  have h4 : p.length * ((200 + 1) * 15 + 1024 + 40) ≤ 48 * 4079 := Nat.mul_le_mul h1 (by omega)
  omega
theorem putC_bulk {p : List Stp} {v x : V} {N : Nat} (h1 : (putM p v x).1.bulk ≤ N) (h2 : x.bulk ≤ N) (h3 : 14 ≤ N) : (putC p v x).1.bulk ≤ N := by
  by_cases h0 : p = []
  · subst h0
    exact h2
  · rcases putC_cases h0 v x with ⟨_, e⟩ | ⟨_, _, e⟩ | ⟨_, _, e⟩
    · rw [e, bulk_null]; exact h3
    · rw [e, bulk_null]; exact h3
    · rw [e]; exact h1
theorem qpathPuts_run (v : V) (p : List Stp) (x : V) (hv : v.bulk ≤ 2 ^ 20) (hp : p.length < 2 ^ 30) (hk : ∀ s, s ∈ p → s.key.length < 2 ^ 30) (hx : x.bulk ≤ 2 ^ 20) : PRun C0 116 [encV v, .tsl 3 (p.map encS), encV x] (.bool true) := by
  obtain ⟨b1, h1, h1'⟩ := lawValid_run v (by omega)
  obtain ⟨b2, h2, h2'⟩ := lawValid_run x (by omega)
  have h3 := near_run p hp hk
  refine prun_of ac116 rfl ?_
  cases b1 with
  | false =>
    rw [encV_eq] at h1
    rw [encV_eq v, encV_eq x]
    (repeat' first | simp (disch := omega) only [go_sem, ac116, enter] | refine pure_of _ (h1) ?_ | ((first | refine wantDf ?_ ?_ | refine wantDt ?_ ?_ | refine wantEf ?_ ?_ | refine wantEt ?_ ?_ | refine wantNf ?_ ?_ | refine wantNt ?_ ?_ | refine wantNBf ?_ ?_ | refine wantNBt ?_ ?_ | refine wantBf ?_ ?_ | refine wantBt ?_ ?_ | refine boolD ?_ ?_ | refine boolE ?_ ?_ | refine boolN ?_ ?_ | refine boolNB ?_ ?_ | refine boolB ?_ ?_) <;> intro h <;> try simp (disch := omega) only [go_sem, ac116, enter , h]))
  | true =>
    cases b2 with
    | false =>
      rw [encV_eq] at h1 h2
      rw [encV_eq v, encV_eq x]
      (repeat' first | simp (disch := omega) only [go_sem, ac116, enter] | refine pure_of _ (h1) ?_ | refine pure_of _ (h2) ?_ | ((first | refine wantDf ?_ ?_ | refine wantDt ?_ ?_ | refine wantEf ?_ ?_ | refine wantEt ?_ ?_ | refine wantNf ?_ ?_ | refine wantNt ?_ ?_ | refine wantNBf ?_ ?_ | refine wantNBt ?_ ?_ | refine wantBf ?_ ?_ | refine wantBt ?_ ?_ | refine boolD ?_ ?_ | refine boolE ?_ ?_ | refine boolN ?_ ?_ | refine boolNB ?_ ?_ | refine boolB ?_ ?_) <;> intro h <;> try simp (disch := omega) only [go_sem, ac116, enter , h]))
    | true =>
      cases hn : nearM p with
      | false =>
        rw [hn] at h3
        rw [encV_eq] at h1 h2
        rw [encV_eq v, encV_eq x]
        (repeat' first | simp (disch := omega) only [go_sem, ac116, enter] | refine pure_of _ (h1) ?_ | refine pure_of _ (h2) ?_ | refine pure_of _ (h3) ?_ | ((first | refine wantDf ?_ ?_ | refine wantDt ?_ ?_ | refine wantEf ?_ ?_ | refine wantEt ?_ ?_ | refine wantNf ?_ ?_ | refine wantNt ?_ ?_ | refine wantNBf ?_ ?_ | refine wantNBt ?_ ?_ | refine wantBf ?_ ?_ | refine wantBt ?_ ?_ | refine boolD ?_ ?_ | refine boolE ?_ ?_ | refine boolN ?_ ?_ | refine boolNB ?_ ?_ | refine boolB ?_ ?_) <;> intro h <;> try simp (disch := omega) only [go_sem, ac116, enter , h]))
      | true =>
        rw [hn] at h3
        obtain ⟨n1, n2, n3⟩ := near_facts hn
        have hb := near_bulk hn v x
        obtain ⟨g1, f1⟩ := h1' rfl
        obtain ⟨g2, _⟩ := h2' rfl
        have h4 := qPut_run p v x ⟨48, by omega, g1⟩ (by omega) ⟨48, by omega, g2⟩ (by omega) hp n2 (by omega)
        have h5 := refPutQ_run p v x ⟨48, by omega, g1⟩ (by omega) (f1.mono (by omega)) hp n2 (by omega)
        have h6 := alike_run (putC p v x).1 (putC p v x).2 (putC_bulk (N := 2 ^ 24) (by omega) (by omega) (by omega))
        generalize putC p v x = R at h4 h5 h6
        rw [encV_eq] at h1 h2
        rw [encV_eq v, encV_eq x] at h4 h5 ⊢
        rw [encV_eq R.1] at h4 h5 h6
        (repeat' first | simp (disch := omega) only [go_sem, ac116, enter, zeroS] | refine pure_of _ (h1) ?_ | refine pure_of _ (h2) ?_ | refine pure_of _ (h3) ?_ | refine pure_of _ (h4) ?_ | refine pure_of _ (h5) ?_ | refine pure_of _ (h6) ?_ | ((first | refine wantDf ?_ ?_ | refine wantDt ?_ ?_ | refine wantEf ?_ ?_ | refine wantEt ?_ ?_ | refine wantNf ?_ ?_ | refine wantNt ?_ ?_ | refine wantNBf ?_ ?_ | refine wantNBt ?_ ?_ | refine wantBf ?_ ?_ | refine wantBt ?_ ?_ | refine boolD ?_ ?_ | refine boolE ?_ ?_ | refine boolN ?_ ?_ | refine boolNB ?_ ?_ | refine boolB ?_ ?_) <;> intro h <;> try simp (disch := omega) only [go_sem, ac116, enter, zeroS , h]))
/-- The law's boolean. -/
def boolV : V := .mk ⟨1, false, ⟨false, [], 0⟩, ⟨0, 0, 0, 0⟩, [], []⟩ [] []
theorem boolV_enc : encV boolV = .agg [.int .i64 1, .bool false, .bool false, .str [], .int .i64 0, .int .i64 0, .int .i64 0, .int .i64 0, .int .i64 0, .str [], .tsl 1 [], .tsl 13 [], .tsl 14 []] := by
  rw [encV_eq]
  rfl
theorem boolV_gd : Gd 1 boolV := .mk (by decide) fun x hx => by simp [V.kids, boolV, V.s, V.l] at hx
theorem boolV_bulk : boolV.bulk = 14 := by
  unfold V.bulk
  rw [boolV_enc]
  rfl
theorem qpathFar_run (v : V) (i : Int) (hv : v.bulk ≤ 2 ^ 20) : PRun C0 117 [encV v, .int .i64 i] (.bool true) := by
  obtain ⟨b1, h1, h1'⟩ := lawValid_run v (by omega)
  refine prun_of ac117 rfl ?_
  cases b1 with
  | false =>
    rw [encV_eq] at h1
    rw [encV_eq v]
    (repeat' first | simp (disch := omega) only [go_sem, ac117, enter] | refine pure_of _ (h1) ?_ | ((first | refine wantDf ?_ ?_ | refine wantDt ?_ ?_ | refine wantEf ?_ ?_ | refine wantEt ?_ ?_ | refine wantNf ?_ ?_ | refine wantNt ?_ ?_ | refine wantNBf ?_ ?_ | refine wantNBt ?_ ?_ | refine wantBf ?_ ?_ | refine wantBt ?_ ?_ | refine boolD ?_ ?_ | refine boolE ?_ ?_ | refine boolN ?_ ?_ | refine boolNB ?_ ?_ | refine boolB ?_ ?_) <;> intro h <;> try simp (disch := omega) only [go_sem, ac117, enter , h]))
  | true =>
    obtain ⟨g1, f1⟩ := h1' rfl
    by_cases hi : 0 ≤ i ∧ i ≤ 65536
    · obtain ⟨hi0, hi1⟩ := hi
      have hin : ∀ s, s ∈ [(⟨true, [], i⟩ : Stp)] → stpIn s := fun s hs => by
        rw [List.mem_singleton.1 hs]
        exact fun _ => ⟨hi0, by show i < _; omega⟩
      have hb := putM_bulk (I := 65536) (K := 0) [⟨true, [], i⟩] v boolV fun s hs => by
        rw [List.mem_singleton.1 hs]
        exact ⟨hi0, by simp only; omega, Nat.le_refl _⟩
      rw [boolV_bulk, List.length_singleton] at hb
      have h4 := qPut_run [⟨true, [], i⟩] v boolV ⟨48, by omega, g1⟩ (by omega) ⟨1, by omega, boolV_gd⟩ (by rw [boolV_bulk]; omega) (by simp) hin (by omega)
      have h5 := refPutQ_run [⟨true, [], i⟩] v boolV ⟨48, by omega, g1⟩ (by omega) (f1.mono (by omega)) (by simp) hin (by omega)
      have h6 := alike_run (putC [⟨true, [], i⟩] v boolV).1 (putC [⟨true, [], i⟩] v boolV).2 (putC_bulk (N := 2 ^ 24) (by omega) (by rw [boolV_bulk]; omega) (by omega))
      generalize putC [⟨true, [], i⟩] v boolV = R at h4 h5 h6
      rw [boolV_enc, List.map_cons, List.map_nil, encS_of] at h4 h5
      rw [encV_eq] at h1
      rw [encV_eq v] at h4 h5 ⊢
      rw [encV_eq R.1] at h4 h5 h6
      (repeat' first | simp (disch := omega) only [go_sem, ac117, enter, zeroS, markFrom, Blk.mark, List.contains_cons, List.contains_nil, Bool.or_false] | refine pure_of _ (h1) ?_ | refine pure_of _ (h4) ?_ | refine pure_of _ (h5) ?_ | refine pure_of _ (h6) ?_ | ((first | refine wantDf ?_ ?_ | refine wantDt ?_ ?_ | refine wantEf ?_ ?_ | refine wantEt ?_ ?_ | refine wantNf ?_ ?_ | refine wantNt ?_ ?_ | refine wantNBf ?_ ?_ | refine wantNBt ?_ ?_ | refine wantBf ?_ ?_ | refine wantBt ?_ ?_ | refine boolD ?_ ?_ | refine boolE ?_ ?_ | refine boolN ?_ ?_ | refine boolNB ?_ ?_ | refine boolB ?_ ?_) <;> intro h <;> try simp (disch := omega) only [go_sem, ac117, enter, zeroS, markFrom, Blk.mark, List.contains_cons, List.contains_nil, Bool.or_false , h]))
    · rw [encV_eq] at h1
      rw [encV_eq v]
      by_cases hi0 : i < 0
      · (repeat' first | simp (disch := omega) only [go_sem, ac117, enter] | refine pure_of _ (h1) ?_ | ((first | refine wantDf ?_ ?_ | refine wantDt ?_ ?_ | refine wantEf ?_ ?_ | refine wantEt ?_ ?_ | refine wantNf ?_ ?_ | refine wantNt ?_ ?_ | refine wantNBf ?_ ?_ | refine wantNBt ?_ ?_ | refine wantBf ?_ ?_ | refine wantBt ?_ ?_ | refine boolD ?_ ?_ | refine boolE ?_ ?_ | refine boolN ?_ ?_ | refine boolNB ?_ ?_ | refine boolB ?_ ?_) <;> intro h <;> try simp (disch := omega) only [go_sem, ac117, enter , h]))
      · (repeat' first | simp (disch := omega) only [go_sem, ac117, enter] | refine pure_of _ (h1) ?_ | ((first | refine wantDf ?_ ?_ | refine wantDt ?_ ?_ | refine wantEf ?_ ?_ | refine wantEt ?_ ?_ | refine wantNf ?_ ?_ | refine wantNt ?_ ?_ | refine wantNBf ?_ ?_ | refine wantNBt ?_ ?_ | refine wantBf ?_ ?_ | refine wantBt ?_ ?_ | refine boolD ?_ ?_ | refine boolE ?_ ?_ | refine boolN ?_ ?_ | refine boolNB ?_ ?_ | refine boolB ?_ ?_) <;> intro h <;> try simp (disch := omega) only [go_sem, ac117, enter , h]))
theorem gd_fine {v : V} (h : Gd 48 v) (hv : v.bulk ≤ 2 ^ 24) : Fine v := ⟨⟨48, Nat.le_refl _, h.good⟩, hv⟩
theorem qpathPutGet_run (v : V) (p : List Stp) (x : V) (hv : v.bulk ≤ 2 ^ 20) (hp : p.length < 2 ^ 30) (hk : ∀ s, s ∈ p → s.key.length < 2 ^ 30) (hx : x.bulk ≤ 2 ^ 20) : PRun C0 118 [encV v, .tsl 3 (p.map encS), encV x] (.bool true) := by
  obtain ⟨b1, h1, h1'⟩ := lawValid_run v (by omega)
  obtain ⟨b2, h2, h2'⟩ := lawValid_run x (by omega)
  have h3 := near_run p hp hk
  refine prun_of ac118 rfl ?_
  cases b1 with
  | false =>
    rw [encV_eq] at h1
    rw [encV_eq v, encV_eq x]
    (repeat' first | simp (disch := omega) only [go_sem, ac118, enter] | refine pure_of _ (h1) ?_ | ((first | refine wantDf ?_ ?_ | refine wantDt ?_ ?_ | refine wantEf ?_ ?_ | refine wantEt ?_ ?_ | refine wantNf ?_ ?_ | refine wantNt ?_ ?_ | refine wantNBf ?_ ?_ | refine wantNBt ?_ ?_ | refine wantBf ?_ ?_ | refine wantBt ?_ ?_ | refine boolD ?_ ?_ | refine boolE ?_ ?_ | refine boolN ?_ ?_ | refine boolNB ?_ ?_ | refine boolB ?_ ?_) <;> intro h <;> try simp (disch := omega) only [go_sem, ac118, enter , h]))
  | true =>
    cases b2 with
    | false =>
      rw [encV_eq] at h1 h2
      rw [encV_eq v, encV_eq x]
      (repeat' first | simp (disch := omega) only [go_sem, ac118, enter] | refine pure_of _ (h1) ?_ | refine pure_of _ (h2) ?_ | ((first | refine wantDf ?_ ?_ | refine wantDt ?_ ?_ | refine wantEf ?_ ?_ | refine wantEt ?_ ?_ | refine wantNf ?_ ?_ | refine wantNt ?_ ?_ | refine wantNBf ?_ ?_ | refine wantNBt ?_ ?_ | refine wantBf ?_ ?_ | refine wantBt ?_ ?_ | refine boolD ?_ ?_ | refine boolE ?_ ?_ | refine boolN ?_ ?_ | refine boolNB ?_ ?_ | refine boolB ?_ ?_) <;> intro h <;> try simp (disch := omega) only [go_sem, ac118, enter , h]))
    | true =>
      cases hn : nearM p with
      | false =>
        rw [hn] at h3
        rw [encV_eq] at h1 h2
        rw [encV_eq v, encV_eq x]
        (repeat' first | simp (disch := omega) only [go_sem, ac118, enter] | refine pure_of _ (h1) ?_ | refine pure_of _ (h2) ?_ | refine pure_of _ (h3) ?_ | ((first | refine wantDf ?_ ?_ | refine wantDt ?_ ?_ | refine wantEf ?_ ?_ | refine wantEt ?_ ?_ | refine wantNf ?_ ?_ | refine wantNt ?_ ?_ | refine wantNBf ?_ ?_ | refine wantNBt ?_ ?_ | refine wantBf ?_ ?_ | refine wantBt ?_ ?_ | refine boolD ?_ ?_ | refine boolE ?_ ?_ | refine boolN ?_ ?_ | refine boolNB ?_ ?_ | refine boolB ?_ ?_) <;> intro h <;> try simp (disch := omega) only [go_sem, ac118, enter , h]))
      | true =>
        rw [hn] at h3
        obtain ⟨n1, n2, n3⟩ := near_facts hn
        have hb := near_bulk hn v x
        obtain ⟨g1, f1⟩ := h1' rfl
        obtain ⟨g2, _⟩ := h2' rfl
        have h4 := qPut_run p v x ⟨48, by omega, g1⟩ (by omega) ⟨48, by omega, g2⟩ (by omega) hp n2 (by omega)
        have h5 := refPutQ_run p v x ⟨48, by omega, g1⟩ (by omega) (f1.mono (by omega)) hp n2 (by omega)
        have hcb := putC_bulk (N := 2 ^ 22) (p := p) (v := v) (x := x) (by omega) (by omega) (by omega)
        by_cases he : (putC p v x).2 = 0
        · have hok : Gd 48 (putC p v x).1 ∧ getM (putC p v x).1 p = (x, 0) ∧ putC p (putC p v x).1 x = ((putC p v x).1, 0) ∧ (putM p (putC p v x).1 x).1.bulk ≤ 2 ^ 24 := by
            have hb2 := near_bulk hn (putC p v x).1 x
            by_cases h0 : p = []
            · subst h0
              exact ⟨g2, rfl, rfl, by show x.bulk ≤ _; omega⟩
            · rcases putC_cases h0 v x with ⟨e1, e2⟩ | ⟨e1, e2, e3⟩ | ⟨e1, e2, e3⟩
              · rw [e2] at he
                exact (e1 he).elim
              · rw [e3] at he
                exact (e2 he).elim
              · obtain ⟨i1, i2⟩ := putM_get p v x n2 e1
                rw [e3] at hb2 hcb ⊢
                refine ⟨check_gd e2, i1, ?_, by omega⟩
                show putC p (putM p v x).1 x = ((putM p v x).1, 0)
                unfold putC
                rw [if_neg h0, i2, if_neg (by simp), if_neg (by rw [e2]; simp)]
          obtain ⟨o1, o2, o3, o4⟩ := hok
          generalize putC p v x = R at h4 h5 hcb he o1 o2 o3 o4
          rw [he] at h4 h5
          have h6 := qGet_run R.1 p (gd_fine o1 (by omega)) hp
          rw [o2] at h6
          have h7 := qPut_run p R.1 x ⟨48, by omega, o1⟩ (by omega) ⟨48, by omega, g2⟩ (by omega) hp n2 o4
          rw [o3] at h7
          have h8 := sameRefl_run _ x (Nat.le_refl _) (by omega)
          have h9 := sameRefl_run _ R.1 (Nat.le_refl _) (by omega)
          rw [encV_eq] at h1 h2 h8 h9
          rw [encV_eq v, encV_eq x] at h4 h5 ⊢
          rw [encV_eq R.1] at h4 h5 h6 h7
          rw [encV_eq x] at h6 h7
          (repeat' first | simp (disch := omega) only [go_sem, ac118, enter, zeroS] | refine pure_of _ (h1) ?_ | refine pure_of _ (h2) ?_ | refine pure_of _ (h3) ?_ | refine pure_of _ (h4) ?_ | refine pure_of _ (h5) ?_ | refine pure_of _ (h6) ?_ | refine pure_of _ (h7) ?_ | refine pure_of _ (h8) ?_ | refine pure_of _ (h9) ?_ | ((first | refine wantDf ?_ ?_ | refine wantDt ?_ ?_ | refine wantEf ?_ ?_ | refine wantEt ?_ ?_ | refine wantNf ?_ ?_ | refine wantNt ?_ ?_ | refine wantNBf ?_ ?_ | refine wantNBt ?_ ?_ | refine wantBf ?_ ?_ | refine wantBt ?_ ?_ | refine boolD ?_ ?_ | refine boolE ?_ ?_ | refine boolN ?_ ?_ | refine boolNB ?_ ?_ | refine boolB ?_ ?_) <;> intro h <;> try simp (disch := omega) only [go_sem, ac118, enter, zeroS , h]))
        · generalize putC p v x = R at h4 h5 hcb he
          rw [encV_eq] at h1 h2
          rw [encV_eq v, encV_eq x] at h4 h5 ⊢
          rw [encV_eq R.1] at h4 h5
          (repeat' first | simp (disch := omega) only [go_sem, ac118, enter, zeroS] | refine pure_of _ (h1) ?_ | refine pure_of _ (h2) ?_ | refine pure_of _ (h3) ?_ | refine pure_of _ (h4) ?_ | refine pure_of _ (h5) ?_ | ((first | refine wantDf ?_ ?_ | refine wantDt ?_ ?_ | refine wantEf ?_ ?_ | refine wantEt ?_ ?_ | refine wantNf ?_ ?_ | refine wantNt ?_ ?_ | refine wantNBf ?_ ?_ | refine wantNBt ?_ ?_ | refine wantBf ?_ ?_ | refine wantBt ?_ ?_ | refine boolD ?_ ?_ | refine boolE ?_ ?_ | refine boolN ?_ ?_ | refine boolNB ?_ ?_ | refine boolB ?_ ?_) <;> intro h <;> try simp (disch := omega) only [go_sem, ac118, enter, zeroS , h]))
end Ago
