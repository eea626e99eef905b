/- value.check is the reference's look: the same faults in the same order. -/
import Derived.Test.YtglnglflcoeinaaGreatDoorRunE
set_option linter.unusedSimpArgs false
set_option linter.unusedVariables false
set_option maxRecDepth 100000
set_option maxHeartbeats 4000000
namespace Ago
open Go (IntKind)
theorem slots_map {g : AV → AV} (hg : g .dead = .dead) (n : Nat) : ∀ (l : List (Nat × AV)), (slots n l).map g = slots n (l.map fun x => (x.1, g x.2)) := by
  intro l
  unfold slots
  suffices h : ∀ (l : List (Nat × AV)) (s : List AV), (l.foldl (fun s x => s.set x.1 x.2) s).map g = (l.map fun x => (x.1, g x.2)).foldl (fun s x => s.set x.1 x.2) (s.map g) by
    rw [h, List.map_replicate, hg]
  intro l
  induction l with
  | nil => intro s; rfl
  | cons x l ih =>
    intro s
    rw [List.foldl_cons, ih, List.map_set]
    rfl
/-- One counter's block. -/
def cnt (r : Nat) (n : Int) : Blk := .row 1 [.int .i64 n] false true r
theorem tidy_flat {H E : Heap} {m : Nat} {v : AV} (hm : m = H.length) (hF : Flat (H ++ E)) (hv : Still v) : tidy m v (H ++ E) = ⟨[v], H, m, 0⟩ := by
  refine norm_none hm hF rfl (fun r hr => ?_) ?_
  · simp only [List.flatMap_cons, List.flatMap_nil, List.append_nil] at hr
    rw [hv.1] at hr
    cases hr
  · simp only [List.map_cons, List.map_nil]
    rw [hv.2]
/-- What is wrong with a value that has only what its kind has. -/
def oneI (v : V) : Int :=
  if v.s.kind = 2 ∧ decOk v.s.num = false ∨ v.s.kind = 3 ∧ tmOk v.s.time = false then 2
  else if v.s.kind = 4 ∧ utf v.s.text = false then 5
  else if 65536 < v.s.text.length ∨ 65536 < v.s.bytes.length then 10
  else keysM (v.f.map (·.1))
theorem own_num {v : V} (h : ownM v = true) (hk : v.s.kind ≠ 2) : v.s.num = ⟨false, [], 0⟩ := by
  unfold ownM numZ at h
  cases hn : v.s.num with
  | mk a b c => simp_all
theorem own_text {v : V} (h : ownM v = true) (hk : v.s.kind ≠ 4) : v.s.text = [] := by
  unfold ownM at h
  simp_all
theorem utf_nil : utf [] = true := by decide
theorem one_own {v : V} (h : ownM v = true) : oneM v = oneI v := by
  unfold oneM oneI
  rw [if_neg (by rw [h]; simp)]
  have h1 : decOk v.s.num = false → v.s.kind = 2 := fun hd => Classical.byContradiction fun hk => by
    rw [own_num h hk] at hd
    revert hd
    decide
  have h2 : utf v.s.text = false → v.s.kind = 4 := fun hd => Classical.byContradiction fun hk => by
    rw [own_text h hk, utf_nil] at hd
    cases hd
  have e1 : (decOk v.s.num = false ∨ v.s.kind = 3 ∧ tmOk v.s.time = false) ↔ (v.s.kind = 2 ∧ decOk v.s.num = false ∨ v.s.kind = 3 ∧ tmOk v.s.time = false) :=
    ⟨fun h => h.elim (fun h => .inl ⟨h1 h, h⟩) .inr, fun h => h.elim (fun h => .inl h.2) .inr⟩
  have e2 : utf v.s.text = false ↔ (v.s.kind = 4 ∧ utf v.s.text = false) := ⟨fun h => ⟨h2 h, h⟩, fun h => h.2⟩
  simp only [e1, ← e2]
theorem post_flat {m : Nat} {res : List ResV} {v : AV} {H E : Heap} {tm : List AV} {b rb : Nat} {e : Ex} (he : e = .normal ∨ e = .ret) (hm : m = H.length) (hF : Flat (H ++ E)) (hv : Still v) (hr : results res ⟨tm, H ++ E, b, rb⟩ = some v) : PostR m res v H e ⟨tm, H ++ E, b, rb⟩ := by
  refine postR_of he v hr ?_ ?_
  · rw [tidy_flat hm hF hv]
    rfl
  · rw [tidy_flat hm hF hv]
/-- What a function that writes owes at its end, its results not named. -/
def PostRE (base : Nat) (res : List ResV) (k : AV → Heap → Prop) (e : Ex) (s : St) : Prop := (e = .normal ∨ e = .ret) ∧ ∃ u, results res s = some u ∧ k ((tidy base u s.heap).tmps.getD 0 .dead) (tidy base u s.heap).heap
theorem runRE_of {C : Ctx} {f : Nat} (fn : AFn) {args : List AV} {H : Heap} {k : AV → Heap → Prop} (hf : C.code f = some fn) (h : @withStI (enter fn args H) ⟨aw (RunOf C) (PRun C) fn.body (PostRE H.length fn.res k)⟩) : ∃ v H', RunOf C f args H v H' ∧ k v H' := by
  unfold withStI at h
  obtain ⟨e, s, h1, he, u, h2, h3⟩ := aw_sound _ _ _ h
  exact ⟨_, _, .run hf h1 he h2, h3⟩
theorem postE_flat {m : Nat} {res : List ResV} {k : AV → Heap → Prop} {v : AV} {H E : Heap} {tm : List AV} {b rb : Nat} {e : Ex} (he : e = .normal ∨ e = .ret) (hm : m = H.length) (hF : Flat (H ++ E)) (hv : Still v) (hr : results res ⟨tm, H ++ E, b, rb⟩ = some v) (hk : k v H) : PostRE m res k e ⟨tm, H ++ E, b, rb⟩ := by
  refine ⟨he, v, hr, ?_⟩
  rw [tidy_flat hm hF hv]
  exact hk
theorem postE_flat0 {m : Nat} {res : List ResV} {k : AV → Heap → Prop} {v : AV} {H : Heap} {tm : List AV} {b rb : Nat} {e : Ex} (he : e = .normal ∨ e = .ret) (hm : m = H.length) (hF : Flat H) (hv : Still v) (hr : results res ⟨tm, H, b, rb⟩ = some v) (hk : k v H) : PostRE m res k e ⟨tm, H, b, rb⟩ := by
  refine ⟨he, v, hr, ?_⟩
  have := tidy_flat (E := []) hm (by rw [List.append_nil]; exact hF) hv
  rw [List.append_nil] at this
  rw [this]
  exact hk
theorem reach_two {X : Heap} {m r : Nat} (hr : r < m) {n : Nat} {els : List AV} (hX : X[m]? = some (.row n els false true m)) {L : List AV} (hL : L.flatMap (AV.refsN 6) = [r, m]) : reach X m 4000 (L.flatMap (AV.refsN 6)) [] = [m] := by
  rw [hL]
  unfold reach
  rw [if_pos hr]
  unfold reach
  rw [if_neg (Nat.lt_irrefl m), if_neg (by simp), hX]
  simp only [Blk.refs, if_true, List.nil_append]
  unfold reach
  rfl
theorem renOf_low {m r : Nat} {ks : List Nat} (hr : r < m) : renOf m ks r = some r := by unfold renOf; rw [if_pos hr]
theorem renOf_own {m : Nat} : renOf m [m] m = some m := by simp [renOf]
theorem drop_cons {α : Type} {l : List α} {k : Nat} {x : α} (hx : l[k]? = some x) : l.drop k = x :: l.drop (k + 1) := by
  obtain ⟨h3, h4⟩ := List.getElem?_eq_some_iff.1 hx
  rw [List.drop_eq_getElem_cons h3, h4]
/-- what the two loops go through -/
theorem seqL_kids {v : V} (h : ownM v = true) (F : V → Int → Int × Int) (s : Int) : seqL F v.kids s = seqL F (v.l ++ v.f.map (·.2)) s := by
  unfold ownM at h
  simp only [Bool.and_eq_true, Bool.or_eq_true, beq_iff_eq] at h
  obtain ⟨⟨_, h6⟩, h7⟩ := h
  unfold V.kids
  split
  · have : v.l = [] := List.eq_nil_of_length_eq_zero (by omega)
    rw [this, List.nil_append]
  · have : v.f = [] := List.eq_nil_of_length_eq_zero (by omega)
    rw [this, List.map_nil, List.append_nil]
theorem ckv_run : ∀ (n : Nat) (v : V), v.bulk ≤ n → n ≤ 2 ^ 24 → ∀ (f : Nat) (d seen : Int), 0 ≤ d → 49 < d + f → d ≤ 49 → 0 < f → 0 ≤ seen → seen ≤ 65536 → ∀ (H : Heap) (r : Nat), Flat H → r < H.length → H[r]? = some (cnt r seen) →
    ∃ s' : Int, RunOf C0 133 [encV v, .int .i64 d, .ptr 1 r 0 0] H (.int .i64 (lookM f v d seen).2) (H.set r (cnt r s')) ∧ ((lookM f v d seen).2 = 0 → s' = (lookM f v d seen).1) := by
  intro n
  induction n with
  | zero =>
    intro v hv
    have : 1 ≤ v.bulk := bulk_one _
    omega
  | succ n ih =>
    intro v hv hn f d seen hd1 hdf hd2 hf0 hs1 hs2 H r hF hr hH
    obtain ⟨f, rfl⟩ : ∃ g, f = g + 1 := ⟨f - 1, by omega⟩
    have L := V.lens (v := v) (N := 2 ^ 24) (by omega)
    have hll := L.list
    have hlf := L.fields
    have h139 := extra_run v
    have h140 := decOkI_run v.s.num (by have := L.digits; omega)
    have h141 := tmI_run v.s.time
    have h46 := utfI_run v.s.text (by have := L.text; omega)
    have h142 := keysI_run v.f (by have := L.fields; omega) (fun x hx => by have := (L.fkids x hx).2; omega)
    have hle := encV_eq v
    unfold encDec at h140
    unfold encTm at h141
    rw [encV_eq] at h139 ⊢
    unfold cnt at hH
    unfold cnt
    have hs1' : ∀ els, strikeGo r r 0 (H ++ [.row 13 els false true H.length]) 0 = some (H ++ [.row 13 els false true H.length]) := fun els => (hF.push 13 els).strike r 0
    have hg1 : ∀ l, (H.set r (.row 1 [.int .i64 (seen + 1)] false true r) ++ l)[r]? = some (.row 1 [.int .i64 (seen + 1)] false true r) := fun l => by
      rw [getL (by simpa using hr), List.getElem?_set_self hr]
    have hp0 : ∀ b l, (H.set r (.row 1 [.int .i64 (seen + 1)] false true r) ++ b :: l)[H.length]? = some b := fun b l => getP0 (by simp)
    have hFb : ∀ els, Flat (H.set r (.row 1 [.int .i64 (seen + 1)] false true r) ++ [.row 13 els false true H.length]) := fun els => (hF.set r 1 [.int .i64 (seen + 1)]).push' (k := H.length) 13 els (by simp)
    rw [show lookM (f + 1) v d seen = if 48 < d then (seen, 9) else if 65536 ≤ seen then (seen, 10) else if oneM v ≠ 0 then (seen, oneM v) else seqL (fun x s => lookM f x (d + 1) s) v.kids (seen + 1) from rfl]
    generalize hFF : (fun x s => lookM f x (d + 1) s) = F
    have hp0' : ∀ X b l, (H.set r X ++ b :: l)[H.length]? = some b := fun X b l => getP0 (by simp)
    have hp1' : ∀ X a b l, (H.set r X ++ a :: b :: l)[H.length + 1]? = some b := fun X a b l => getP1 (by simp)
    have hq1' : ∀ X a b c, (H.set r X ++ [a, b]).set (H.length + 1) c = H.set r X ++ [a, c] := fun X a b c => setP1 (by simp)
    have hg1' : ∀ X l, (H.set r X ++ l)[r]? = some X := fun X l => by
      rw [getL (by simpa using hr), List.getElem?_set_self hr]
    have hF1 : ∀ n els es, Flat (H.set r (.row n es false true r) ++ [.row 13 els false true H.length]) := fun n els es => (hF.set r n es).push' (k := H.length) 13 els (by simp)
    have hF2 : ∀ n els es els', Flat (H.set r (.row n es false true r) ++ [.row 13 els false true H.length, .row 13 els' false true (H.length + 1)]) := fun n els es els' => by
      have := (hF1 n els es).push' (k := H.length + 1) 13 els' (by simp)
      rwa [List.append_assoc] at this
    have hs2' : ∀ n els es els', strikeGo (H.length + 1) (H.length + 1) 0 (H.set r (.row n es false true r) ++ [.row 13 els false true H.length, .row 13 els' false true (H.length + 1)]) 0 = some (H.set r (.row n es false true r) ++ [.row 13 els false true H.length, .row 13 els' false true (H.length + 1)]) := fun n els es els' => (hF2 n els es els').strike _ _
    have hF3 : ∀ n els es, Flat (H.set r (.row n es false true r) ++ [.row 14 els false true H.length]) := fun n els es => (hF.set r n es).push' (k := H.length) 14 els (by simp)
    have hs3' : ∀ n els es, strikeGo H.length H.length 0 (H.set r (.row n es false true r) ++ [.row 14 els false true H.length]) 0 = some (H.set r (.row n es false true r) ++ [.row 14 els false true H.length]) := fun n els es => (hF3 n els es).strike _ _
    have hq0' : ∀ X a c, (H.set r X ++ [a]).set H.length c = H.set r X ++ [c] := fun X a c => setP0 (by simp)
    have fin : ∀ {X : Int × Int}, (∃ w H', RunOf C0 133 [encV v, .int .i64 d, .ptr 1 r 0 0] H w H' ∧ ∃ s' : Int, w = .int .i64 X.2 ∧ H' = H.set r (.row 1 [.int .i64 s'] false true r) ∧ (X.2 = 0 → s' = X.1)) →
        ∃ s' : Int, RunOf C0 133 [encV v, .int .i64 d, .ptr 1 r 0 0] H (.int .i64 X.2) (H.set r (.row 1 [.int .i64 s'] false true r)) ∧ (X.2 = 0 → s' = X.1) := fun {X} h => by
      obtain ⟨w, H', h1, s', rfl, rfl, h2⟩ := h
      exact ⟨s', h1, h2⟩
    rw [hle] at fin
    by_cases g1 : 48 < d
    · rw [if_pos g1]
      refine ⟨seen + 1, runR_of ac133 rfl ?_, by simp⟩
      (repeat' first | simp (disch := omega) only [go_sem, ac133, enter, List.length_map, getL, setL, hH, hs1', hg1, hp0] | ((apply spl) <;> intro h <;> try simp (disch := omega) only [go_sem, ac133, enter, List.length_map, getL, setL, hH, hs1', hg1, hp0, h]))
      exact post_flat (.inr rfl) (by simp) (hFb _) (still_int _ _) rfl
    · rw [if_neg g1]
      by_cases g2 : 65536 ≤ seen
      · rw [if_pos g2]
        refine ⟨seen + 1, runR_of ac133 rfl ?_, by simp⟩
        (repeat' first | simp (disch := omega) only [go_sem, ac133, enter, List.length_map, getL, setL, hH, hs1', hg1, hp0] | ((apply spl) <;> intro h <;> try simp (disch := omega) only [go_sem, ac133, enter, List.length_map, getL, setL, hH, hs1', hg1, hp0, h]))
        exact post_flat (.inr rfl) (by simp) (hFb _) (still_int _ _) rfl
      · rw [if_neg g2]
        cases hown : ownM v with
        | false =>
          have e1 : oneM v = 6 := by unfold oneM; rw [if_pos hown]
          rw [if_pos (by rw [e1]; decide), e1]
          rw [own_extra] at hown
          refine ⟨seen + 1, runR_of ac133 rfl ?_, by simp⟩
          (repeat' first | simp (disch := omega) only [go_sem, ac133, enter, List.length_map, getL, setL, hH, hs1', hg1, hp0] | refine pure_of _ (h139) ?_ | ((apply spl) <;> intro h <;> try simp (disch := omega) only [go_sem, ac133, enter, List.length_map, getL, setL, hH, hs1', hg1, hp0 , h]))
          all_goals first | exact post_flat (.inr rfl) (by simp) (hFb _) (still_int _ _) rfl | skip
          all_goals (exfalso; simp only [Bool.and_eq_false_iff, decide_eq_false_iff_not, Bool.not_eq_false'] at hown; first | omega | (rcases hown with h | h; omega; simp_all))
        | true =>
          have hown' := hown
          rw [own_extra] at hown'
          simp only [Bool.and_eq_true, decide_eq_true_eq, Bool.not_eq_true'] at hown'
          obtain ⟨⟨hk0, hk7⟩, hex⟩ := hown'
          rw [hex] at h139
          rw [one_own hown]
          by_cases hk2 : v.s.kind = 2
          · have hk := hk2
            cases hb : decOk v.s.num with
            | false =>
              rw [hb] at h140
              have ho : oneI v = 2 := by unfold oneI; rw [hb, if_pos (.inl ⟨hk2, rfl⟩)]
              rw [if_pos (by rw [ho]; decide), ho]
              refine ⟨seen + 1, runR_of ac133 rfl ?_, by simp⟩
              (repeat' first | simp (disch := omega) only [go_sem, ac133, enter, List.length_map, getL, setL, hH, hs1', hg1, hp0] | refine pure_of _ (h139) ?_ | refine pure_of _ (h140) ?_ | ((apply spl) <;> intro h <;> try simp (disch := omega) only [go_sem, ac133, enter, List.length_map, getL, setL, hH, hs1', hg1, hp0 , h]))
              exact post_flat (.inr rfl) (by simp) (hFb _) (still_int _ _) rfl
            | true =>
              rw [hb] at h140
              have ho : oneI v = (if 65536 < v.s.text.length ∨ 65536 < v.s.bytes.length then 10 else keysM (v.f.map (·.1))) := by unfold oneI; rw [hb, if_neg (by rw [hk2]; simp), if_neg (by rw [hk2]; simp)]
              rw [ho]
              by_cases hsz : 65536 < v.s.text.length ∨ 65536 < v.s.bytes.length
              · rw [if_pos hsz, if_pos (by decide)]
                refine ⟨seen + 1, runR_of ac133 rfl ?_, by simp⟩
                (repeat' first | simp (disch := omega) only [go_sem, ac133, enter, List.length_map, encB_len, getL, setL, hH, hs1', hg1, hp0] | refine pure_of _ (h139) ?_ | refine pure_of _ (h140) ?_ | refine pure_of _ (h141) ?_ | refine pure_of _ (h46) ?_ | refine pure_of _ (h142) ?_ | ((apply spl) <;> intro h <;> try simp (disch := omega) only [go_sem, ac133, enter, List.length_map, encB_len, getL, setL, hH, hs1', hg1, hp0 , h]))
                all_goals first | omega | exact post_flat (.inr rfl) (by simp) (hFb _) (still_int _ _) rfl
              · rw [if_neg hsz]
                by_cases hkey : keysM (v.f.map (·.1)) = 0
                · rw [hkey] at h142
                  rw [if_neg (by rw [hkey]; simp), seqL_kids hown]
                  refine fin (runRE_of ac133 rfl ?_)
                  (repeat' first | simp (disch := omega) only [go_sem, ac133, enter, List.length_map, encB_len, getL, setL, hH, hs1', hg1, hp0] | refine pure_of _ (h139) ?_ | refine pure_of _ (h140) ?_ | refine pure_of _ (h141) ?_ | refine pure_of _ (h46) ?_ | refine pure_of _ (h142) ?_ | ((apply spl) <;> intro h <;> try simp (disch := omega) only [go_sem, ac133, enter, List.length_map, encB_len, getL, setL, hH, hs1', hg1, hp0 , h]))
                  all_goals try omega
                  refine loop_of (α := Nat × Int) (fun a => { tmps := slots 121 [(1, .int .i64 d), (2, .ptr 1 r 0 0), (3, .ptr 13 H.length 0 0), (89, .tsl 13 (v.l.map encV)), (90, .int .i64 v.l.length), (91, .int .i64 a.1)], heap := H.set r (.row 1 [.int .i64 a.2] false true r) ++ [.row 13 [encV v] false true H.length], base := H.length })
                    (fun a => a.1 ≤ v.l.length ∧ seqL F (v.l ++ v.f.map (·.2)) (seen + 1) = seqL F (v.l.drop a.1 ++ v.f.map (·.2)) a.2 ∧ 0 ≤ a.2 ∧ a.2 ≤ 65536) (fun a => v.l.length - a.1) (0, seen + 1)
                    (by rw [hle]; exact norm_first (by simp) (hFb _) rfl (reach_two hr (hp0 _ _) rfl) (by (try rw [slots_map rfl]); simp only [List.map_cons, List.map_nil, AV.renN, renOf_low hr, renOf_own])) ⟨Nat.zero_le _, rfl, by simp only; omega, by simp only; omega⟩ ?_
                  rintro ⟨k, sn⟩ ⟨hk1, hm, hs3, hs4⟩
                  simp only at hk1 hm hs3 hs4
                  rw [hle]
                  by_cases hlt : k < v.l.length
                  · obtain ⟨x, hx⟩ := get_some hlt
                    have hxm := List.mem_of_getElem? hx
                    have hx2 := map_get (g := encV) hx
                    rw [drop_cons hx, List.cons_append, seqL_step] at hm
                    have hxk := L.kids x hxm
                    obtain ⟨s', hr1, hr2⟩ := ih x (by omega) (by omega) f (d + 1) sn (by omega) (by omega) (by omega) (by omega) (by omega) (by omega) (H.set r (.row 1 [.int .i64 sn] false true r) ++ [.row 13 [encV v] false true H.length, .row 13 [encV x] false true (H.length + 1)]) r (hF2 _ _ _ _) (by simp; omega) (hg1' _ _)
                    have hrg := lookM_range f x (d + 1) sn hs3 hs4
                    rw [setL (by simpa using hr), List.set_set] at hr1
                    unfold cnt at hr1
                    have hFx : F x sn = lookM f x (d + 1) sn := by rw [← hFF]
                    rw [hFx] at hm
                    generalize lookM f x (d + 1) sn = R at hr1 hr2 hm hrg
                    rw [encV_eq x] at hx2 hr1
                    rw [hle] at hr1
                    by_cases he : R.2 = 0
                    · rw [if_pos he] at hm
                      rw [he] at hr1
                      have hs' := hr2 he
                      (repeat' first | simp (disch := omega) only [go_sem, hx2, List.length_map, List.append_assoc, List.length_append, List.length_set, hg1', hp0', hp1', hq1', hs2'] | (refine call_of _ _ hr1 ?_) | ((apply spl) <;> intro h <;> try simp (disch := omega) only [go_sem, hx2, List.length_map, List.append_assoc, List.length_append, List.length_set, hg1', hp0', hp1', hq1', hs2' , h]))
                      refine ⟨(k + 1, R.1), ?_, ⟨hlt, hm, hrg.1, hrg.2⟩, by simp only; omega⟩
                      rw [hs']
                      exact norm_first (by simp) (hF2 _ _ _ _) rfl (reach_two hr (hp0' _ _ _) rfl) (by (try rw [slots_map rfl]); simp only [List.map_cons, List.map_nil, AV.renN, renOf_low hr, renOf_own])
                    · rw [if_neg he] at hm
                      rw [hm]
                      (repeat' first | simp (disch := omega) only [go_sem, hx2, he, List.length_map, List.append_assoc, List.length_append, List.length_set, hg1', hp0', hp1', hq1', hs2'] | (refine call_of _ _ hr1 ?_) | ((apply spl) <;> intro h <;> try simp (disch := omega) only [go_sem, hx2, he, List.length_map, List.append_assoc, List.length_append, List.length_set, hg1', hp0', hp1', hq1', hs2' , h]))
                      exact postE_flat (.inr rfl) (by simp) (hF2 _ _ _ _) (still_int _ _) rfl ⟨_, rfl, rfl, by simp [he]⟩
                  · rw [List.drop_of_length_le (by omega), List.nil_append] at hm
                    (repeat' first | simp (disch := omega) only [go_sem, List.length_map, hp0'] | ((apply spl) <;> intro h <;> try simp (disch := omega) only [go_sem, List.length_map, hp0', h]))
                    refine loop_of (α := Nat × Int) (fun a => { tmps := slots 121 [(1, .int .i64 d), (2, .ptr 1 r 0 0), (105, .tsl 14 (v.f.map encFd)), (106, .int .i64 v.f.length), (107, .int .i64 a.1)], heap := H.set r (.row 1 [.int .i64 a.2] false true r), base := H.length })
                      (fun a => a.1 ≤ v.f.length ∧ seqL F (v.l ++ v.f.map (·.2)) (seen + 1) = seqL F ((v.f.map (·.2)).drop a.1) a.2 ∧ 0 ≤ a.2 ∧ a.2 ≤ 65536) (fun a => v.f.length - a.1) (0, sn)
                      (norm_none (by simp) (hF1 _ _ _) rfl (fun q hq => by have : q = r := (List.mem_singleton.1 (show q ∈ [r] from hq)); omega) (by (try rw [slots_map rfl]); simp only [List.map_cons, List.map_nil, AV.renN, renOf_low hr])) ⟨Nat.zero_le _, hm, hs3, hs4⟩ ?_
                    clear hm hlt hk1 hs3 hs4
                    rintro ⟨k, sn⟩ ⟨hk1, hm, hs3, hs4⟩
                    simp only at hk1 hm hs3 hs4
                    by_cases hlt : k < v.f.length
                    · obtain ⟨x, hx⟩ := get_some hlt
                      have hxm := List.mem_of_getElem? hx
                      have hx2 := map_get (g := encFd) hx
                      have hx3 := map_get (g := fun y : List UInt8 × V => y.2) hx
                      rw [drop_cons hx3, seqL_step] at hm
                      have hxk := (L.fkids x hxm).1
                      obtain ⟨s', hr1, hr2⟩ := ih x.2 (by omega) (by omega) f (d + 1) sn (by omega) (by omega) (by omega) (by omega) (by omega) (by omega) (H.set r (.row 1 [.int .i64 sn] false true r) ++ [.row 14 [encFd x] false true H.length]) r (hF3 _ _ _) (by simp; omega) (hg1' _ _)
                      have hrg := lookM_range f x.2 (d + 1) sn hs3 hs4
                      rw [setL (by simpa using hr), List.set_set] at hr1
                      unfold cnt at hr1
                      have hFx : F x.2 sn = lookM f x.2 (d + 1) sn := by rw [← hFF]
                      rw [hFx] at hm
                      generalize lookM f x.2 (d + 1) sn = R at hr1 hr2 hm hrg
                      rw [encFd_eq] at hx2 hr1
                      rw [encV_eq x.2] at hr1
                      by_cases he : R.2 = 0
                      · rw [if_pos he] at hm
                        rw [he] at hr1
                        have hs' := hr2 he
                        (repeat' first | simp (disch := omega) only [go_sem, hx2, List.length_map, List.append_assoc, List.length_append, List.length_set, hg1', hp0', hq0', hs3'] | (refine call_of _ _ hr1 ?_) | ((apply spl) <;> intro h <;> try simp (disch := omega) only [go_sem, hx2, List.length_map, List.append_assoc, List.length_append, List.length_set, hg1', hp0', hq0', hs3' , h]))
                        refine ⟨(k + 1, R.1), ?_, ⟨hlt, hm, hrg.1, hrg.2⟩, by simp only; omega⟩
                        rw [hs']
                        exact norm_none (by simp) (hF3 _ _ _) rfl (fun q hq => by have : q = r := (List.mem_singleton.1 (show q ∈ [r] from hq)); omega) (by (try rw [slots_map rfl]); simp only [List.map_cons, List.map_nil, AV.renN, renOf_low hr])
                      · rw [if_neg he] at hm
                        rw [hm]
                        (repeat' first | simp (disch := omega) only [go_sem, hx2, he, List.length_map, List.append_assoc, List.length_append, List.length_set, hg1', hp0', hq0', hs3'] | (refine call_of _ _ hr1 ?_) | ((apply spl) <;> intro h <;> try simp (disch := omega) only [go_sem, hx2, he, List.length_map, List.append_assoc, List.length_append, List.length_set, hg1', hp0', hq0', hs3' , h]))
                        exact postE_flat (.inr rfl) (by simp) (hF3 _ _ _) (still_int _ _) rfl ⟨_, rfl, rfl, by simp [he]⟩
                    · rw [List.drop_of_length_le (by simp; omega)] at hm
                      rw [hm]
                      (repeat' first | simp (disch := omega) only [go_sem, List.length_map] | ((apply spl) <;> intro h <;> try simp (disch := omega) only [go_sem, List.length_map, h]))
                      exact postE_flat0 (.inr rfl) (by simp) (hF.set r _ _) (still_int _ _) rfl ⟨_, rfl, rfl, fun _ => rfl⟩
                · rw [if_pos hkey]
                  refine ⟨seen + 1, runR_of ac133 rfl ?_, fun h => absurd h hkey⟩
                  (repeat' first | simp (disch := omega) only [go_sem, ac133, enter, List.length_map, encB_len, getL, setL, hH, hs1', hg1, hp0] | refine pure_of _ (h139) ?_ | refine pure_of _ (h140) ?_ | refine pure_of _ (h141) ?_ | refine pure_of _ (h46) ?_ | refine pure_of _ (h142) ?_ | ((apply spl) <;> intro h <;> try simp (disch := omega) only [go_sem, ac133, enter, List.length_map, encB_len, getL, setL, hH, hs1', hg1, hp0 , h]))
                  all_goals first | omega | exact post_flat (.inr rfl) (by simp) (hFb _) (still_int _ _) rfl
          · by_cases hk3 : v.s.kind = 3
            · have hk := hk3
              cases hb : tmOk v.s.time with
              | false =>
                rw [hb] at h141
                have ho : oneI v = 2 := by unfold oneI; rw [hb, if_pos (.inr ⟨hk3, rfl⟩)]
                rw [if_pos (by rw [ho]; decide), ho]
                refine ⟨seen + 1, runR_of ac133 rfl ?_, by simp⟩
                (repeat' first | simp (disch := omega) only [go_sem, ac133, enter, List.length_map, getL, setL, hH, hs1', hg1, hp0] | refine pure_of _ (h139) ?_ | refine pure_of _ (h141) ?_ | ((apply spl) <;> intro h <;> try simp (disch := omega) only [go_sem, ac133, enter, List.length_map, getL, setL, hH, hs1', hg1, hp0 , h]))
                exact post_flat (.inr rfl) (by simp) (hFb _) (still_int _ _) rfl
              | true =>
                rw [hb] at h141
                have ho : oneI v = (if 65536 < v.s.text.length ∨ 65536 < v.s.bytes.length then 10 else keysM (v.f.map (·.1))) := by unfold oneI; rw [hb, if_neg (by rw [hk3]; simp), if_neg (by rw [hk3]; simp)]
                rw [ho]
                by_cases hsz : 65536 < v.s.text.length ∨ 65536 < v.s.bytes.length
                · rw [if_pos hsz, if_pos (by decide)]
                  refine ⟨seen + 1, runR_of ac133 rfl ?_, by simp⟩
                  (repeat' first | simp (disch := omega) only [go_sem, ac133, enter, List.length_map, encB_len, getL, setL, hH, hs1', hg1, hp0] | refine pure_of _ (h139) ?_ | refine pure_of _ (h140) ?_ | refine pure_of _ (h141) ?_ | refine pure_of _ (h46) ?_ | refine pure_of _ (h142) ?_ | ((apply spl) <;> intro h <;> try simp (disch := omega) only [go_sem, ac133, enter, List.length_map, encB_len, getL, setL, hH, hs1', hg1, hp0 , h]))
                  all_goals first | omega | exact post_flat (.inr rfl) (by simp) (hFb _) (still_int _ _) rfl
                · rw [if_neg hsz]
                  by_cases hkey : keysM (v.f.map (·.1)) = 0
                  · rw [hkey] at h142
                    rw [if_neg (by rw [hkey]; simp), seqL_kids hown]
                    refine fin (runRE_of ac133 rfl ?_)
                    (repeat' first | simp (disch := omega) only [go_sem, ac133, enter, List.length_map, encB_len, getL, setL, hH, hs1', hg1, hp0] | refine pure_of _ (h139) ?_ | refine pure_of _ (h140) ?_ | refine pure_of _ (h141) ?_ | refine pure_of _ (h46) ?_ | refine pure_of _ (h142) ?_ | ((apply spl) <;> intro h <;> try simp (disch := omega) only [go_sem, ac133, enter, List.length_map, encB_len, getL, setL, hH, hs1', hg1, hp0 , h]))
                    all_goals try omega
                    refine loop_of (α := Nat × Int) (fun a => { tmps := slots 121 [(1, .int .i64 d), (2, .ptr 1 r 0 0), (3, .ptr 13 H.length 0 0), (89, .tsl 13 (v.l.map encV)), (90, .int .i64 v.l.length), (91, .int .i64 a.1)], heap := H.set r (.row 1 [.int .i64 a.2] false true r) ++ [.row 13 [encV v] false true H.length], base := H.length })
                      (fun a => a.1 ≤ v.l.length ∧ seqL F (v.l ++ v.f.map (·.2)) (seen + 1) = seqL F (v.l.drop a.1 ++ v.f.map (·.2)) a.2 ∧ 0 ≤ a.2 ∧ a.2 ≤ 65536) (fun a => v.l.length - a.1) (0, seen + 1)
                      (by rw [hle]; exact norm_first (by simp) (hFb _) rfl (reach_two hr (hp0 _ _) rfl) (by (try rw [slots_map rfl]); simp only [List.map_cons, List.map_nil, AV.renN, renOf_low hr, renOf_own])) ⟨Nat.zero_le _, rfl, by simp only; omega, by simp only; omega⟩ ?_
                    rintro ⟨k, sn⟩ ⟨hk1, hm, hs3, hs4⟩
                    simp only at hk1 hm hs3 hs4
                    rw [hle]
                    by_cases hlt : k < v.l.length
                    · obtain ⟨x, hx⟩ := get_some hlt
                      have hxm := List.mem_of_getElem? hx
                      have hx2 := map_get (g := encV) hx
                      rw [drop_cons hx, List.cons_append, seqL_step] at hm
                      have hxk := L.kids x hxm
                      obtain ⟨s', hr1, hr2⟩ := ih x (by omega) (by omega) f (d + 1) sn (by omega) (by omega) (by omega) (by omega) (by omega) (by omega) (H.set r (.row 1 [.int .i64 sn] false true r) ++ [.row 13 [encV v] false true H.length, .row 13 [encV x] false true (H.length + 1)]) r (hF2 _ _ _ _) (by simp; omega) (hg1' _ _)
                      have hrg := lookM_range f x (d + 1) sn hs3 hs4
                      rw [setL (by simpa using hr), List.set_set] at hr1
                      unfold cnt at hr1
                      have hFx : F x sn = lookM f x (d + 1) sn := by rw [← hFF]
                      rw [hFx] at hm
                      generalize lookM f x (d + 1) sn = R at hr1 hr2 hm hrg
                      rw [encV_eq x] at hx2 hr1
                      rw [hle] at hr1
                      by_cases he : R.2 = 0
                      · rw [if_pos he] at hm
                        rw [he] at hr1
                        have hs' := hr2 he
                        (repeat' first | simp (disch := omega) only [go_sem, hx2, List.length_map, List.append_assoc, List.length_append, List.length_set, hg1', hp0', hp1', hq1', hs2'] | (refine call_of _ _ hr1 ?_) | ((apply spl) <;> intro h <;> try simp (disch := omega) only [go_sem, hx2, List.length_map, List.append_assoc, List.length_append, List.length_set, hg1', hp0', hp1', hq1', hs2' , h]))
                        refine ⟨(k + 1, R.1), ?_, ⟨hlt, hm, hrg.1, hrg.2⟩, by simp only; omega⟩
                        rw [hs']
                        exact norm_first (by simp) (hF2 _ _ _ _) rfl (reach_two hr (hp0' _ _ _) rfl) (by (try rw [slots_map rfl]); simp only [List.map_cons, List.map_nil, AV.renN, renOf_low hr, renOf_own])
                      · rw [if_neg he] at hm
                        rw [hm]
                        (repeat' first | simp (disch := omega) only [go_sem, hx2, he, List.length_map, List.append_assoc, List.length_append, List.length_set, hg1', hp0', hp1', hq1', hs2'] | (refine call_of _ _ hr1 ?_) | ((apply spl) <;> intro h <;> try simp (disch := omega) only [go_sem, hx2, he, List.length_map, List.append_assoc, List.length_append, List.length_set, hg1', hp0', hp1', hq1', hs2' , h]))
                        exact postE_flat (.inr rfl) (by simp) (hF2 _ _ _ _) (still_int _ _) rfl ⟨_, rfl, rfl, by simp [he]⟩
                    · rw [List.drop_of_length_le (by omega), List.nil_append] at hm
                      (repeat' first | simp (disch := omega) only [go_sem, List.length_map, hp0'] | ((apply spl) <;> intro h <;> try simp (disch := omega) only [go_sem, List.length_map, hp0', h]))
                      refine loop_of (α := Nat × Int) (fun a => { tmps := slots 121 [(1, .int .i64 d), (2, .ptr 1 r 0 0), (105, .tsl 14 (v.f.map encFd)), (106, .int .i64 v.f.length), (107, .int .i64 a.1)], heap := H.set r (.row 1 [.int .i64 a.2] false true r), base := H.length })
                        (fun a => a.1 ≤ v.f.length ∧ seqL F (v.l ++ v.f.map (·.2)) (seen + 1) = seqL F ((v.f.map (·.2)).drop a.1) a.2 ∧ 0 ≤ a.2 ∧ a.2 ≤ 65536) (fun a => v.f.length - a.1) (0, sn)
                        (norm_none (by simp) (hF1 _ _ _) rfl (fun q hq => by have : q = r := (List.mem_singleton.1 (show q ∈ [r] from hq)); omega) (by (try rw [slots_map rfl]); simp only [List.map_cons, List.map_nil, AV.renN, renOf_low hr])) ⟨Nat.zero_le _, hm, hs3, hs4⟩ ?_
                      clear hm hlt hk1 hs3 hs4
                      rintro ⟨k, sn⟩ ⟨hk1, hm, hs3, hs4⟩
                      simp only at hk1 hm hs3 hs4
                      by_cases hlt : k < v.f.length
                      · obtain ⟨x, hx⟩ := get_some hlt
                        have hxm := List.mem_of_getElem? hx
                        have hx2 := map_get (g := encFd) hx
                        have hx3 := map_get (g := fun y : List UInt8 × V => y.2) hx
                        rw [drop_cons hx3, seqL_step] at hm
                        have hxk := (L.fkids x hxm).1
                        obtain ⟨s', hr1, hr2⟩ := ih x.2 (by omega) (by omega) f (d + 1) sn (by omega) (by omega) (by omega) (by omega) (by omega) (by omega) (H.set r (.row 1 [.int .i64 sn] false true r) ++ [.row 14 [encFd x] false true H.length]) r (hF3 _ _ _) (by simp; omega) (hg1' _ _)
                        have hrg := lookM_range f x.2 (d + 1) sn hs3 hs4
                        rw [setL (by simpa using hr), List.set_set] at hr1
                        unfold cnt at hr1
                        have hFx : F x.2 sn = lookM f x.2 (d + 1) sn := by rw [← hFF]
                        rw [hFx] at hm
                        generalize lookM f x.2 (d + 1) sn = R at hr1 hr2 hm hrg
                        rw [encFd_eq] at hx2 hr1
                        rw [encV_eq x.2] at hr1
                        by_cases he : R.2 = 0
                        · rw [if_pos he] at hm
                          rw [he] at hr1
                          have hs' := hr2 he
                          (repeat' first | simp (disch := omega) only [go_sem, hx2, List.length_map, List.append_assoc, List.length_append, List.length_set, hg1', hp0', hq0', hs3'] | (refine call_of _ _ hr1 ?_) | ((apply spl) <;> intro h <;> try simp (disch := omega) only [go_sem, hx2, List.length_map, List.append_assoc, List.length_append, List.length_set, hg1', hp0', hq0', hs3' , h]))
                          refine ⟨(k + 1, R.1), ?_, ⟨hlt, hm, hrg.1, hrg.2⟩, by simp only; omega⟩
                          rw [hs']
                          exact norm_none (by simp) (hF3 _ _ _) rfl (fun q hq => by have : q = r := (List.mem_singleton.1 (show q ∈ [r] from hq)); omega) (by (try rw [slots_map rfl]); simp only [List.map_cons, List.map_nil, AV.renN, renOf_low hr])
                        · rw [if_neg he] at hm
                          rw [hm]
                          (repeat' first | simp (disch := omega) only [go_sem, hx2, he, List.length_map, List.append_assoc, List.length_append, List.length_set, hg1', hp0', hq0', hs3'] | (refine call_of _ _ hr1 ?_) | ((apply spl) <;> intro h <;> try simp (disch := omega) only [go_sem, hx2, he, List.length_map, List.append_assoc, List.length_append, List.length_set, hg1', hp0', hq0', hs3' , h]))
                          exact postE_flat (.inr rfl) (by simp) (hF3 _ _ _) (still_int _ _) rfl ⟨_, rfl, rfl, by simp [he]⟩
                      · rw [List.drop_of_length_le (by simp; omega)] at hm
                        rw [hm]
                        (repeat' first | simp (disch := omega) only [go_sem, List.length_map] | ((apply spl) <;> intro h <;> try simp (disch := omega) only [go_sem, List.length_map, h]))
                        exact postE_flat0 (.inr rfl) (by simp) (hF.set r _ _) (still_int _ _) rfl ⟨_, rfl, rfl, fun _ => rfl⟩
                  · rw [if_pos hkey]
                    refine ⟨seen + 1, runR_of ac133 rfl ?_, fun h => absurd h hkey⟩
                    (repeat' first | simp (disch := omega) only [go_sem, ac133, enter, List.length_map, encB_len, getL, setL, hH, hs1', hg1, hp0] | refine pure_of _ (h139) ?_ | refine pure_of _ (h140) ?_ | refine pure_of _ (h141) ?_ | refine pure_of _ (h46) ?_ | refine pure_of _ (h142) ?_ | ((apply spl) <;> intro h <;> try simp (disch := omega) only [go_sem, ac133, enter, List.length_map, encB_len, getL, setL, hH, hs1', hg1, hp0 , h]))
                    all_goals first | omega | exact post_flat (.inr rfl) (by simp) (hFb _) (still_int _ _) rfl
            · by_cases hk4 : v.s.kind = 4
              · have hk := hk4
                cases hb : utf v.s.text with
                | false =>
                  rw [hb] at h46
                  have ho : oneI v = 5 := by unfold oneI; rw [if_neg (by rw [hk4]; simp), hb, if_pos ⟨hk4, rfl⟩]
                  rw [if_pos (by rw [ho]; decide), ho]
                  refine ⟨seen + 1, runR_of ac133 rfl ?_, by simp⟩
                  (repeat' first | simp (disch := omega) only [go_sem, ac133, enter, List.length_map, getL, setL, hH, hs1', hg1, hp0] | refine pure_of _ (h139) ?_ | refine pure_of _ (h46) ?_ | ((apply spl) <;> intro h <;> try simp (disch := omega) only [go_sem, ac133, enter, List.length_map, getL, setL, hH, hs1', hg1, hp0 , h]))
                  exact post_flat (.inr rfl) (by simp) (hFb _) (still_int _ _) rfl
                | true =>
                  rw [hb] at h46
                  have ho : oneI v = (if 65536 < v.s.text.length ∨ 65536 < v.s.bytes.length then 10 else keysM (v.f.map (·.1))) := by unfold oneI; rw [hb, if_neg (by rw [hk4]; simp), if_neg (by rw [hk4]; simp)]
                  rw [ho]
                  by_cases hsz : 65536 < v.s.text.length ∨ 65536 < v.s.bytes.length
                  · rw [if_pos hsz, if_pos (by decide)]
                    refine ⟨seen + 1, runR_of ac133 rfl ?_, by simp⟩
                    (repeat' first | simp (disch := omega) only [go_sem, ac133, enter, List.length_map, encB_len, getL, setL, hH, hs1', hg1, hp0] | refine pure_of _ (h139) ?_ | refine pure_of _ (h140) ?_ | refine pure_of _ (h141) ?_ | refine pure_of _ (h46) ?_ | refine pure_of _ (h142) ?_ | ((apply spl) <;> intro h <;> try simp (disch := omega) only [go_sem, ac133, enter, List.length_map, encB_len, getL, setL, hH, hs1', hg1, hp0 , h]))
                    all_goals first | omega | exact post_flat (.inr rfl) (by simp) (hFb _) (still_int _ _) rfl
                  · rw [if_neg hsz]
                    by_cases hkey : keysM (v.f.map (·.1)) = 0
                    · rw [hkey] at h142
                      rw [if_neg (by rw [hkey]; simp), seqL_kids hown]
                      refine fin (runRE_of ac133 rfl ?_)
                      (repeat' first | simp (disch := omega) only [go_sem, ac133, enter, List.length_map, encB_len, getL, setL, hH, hs1', hg1, hp0] | refine pure_of _ (h139) ?_ | refine pure_of _ (h140) ?_ | refine pure_of _ (h141) ?_ | refine pure_of _ (h46) ?_ | refine pure_of _ (h142) ?_ | ((apply spl) <;> intro h <;> try simp (disch := omega) only [go_sem, ac133, enter, List.length_map, encB_len, getL, setL, hH, hs1', hg1, hp0 , h]))
                      all_goals try omega
                      refine loop_of (α := Nat × Int) (fun a => { tmps := slots 121 [(1, .int .i64 d), (2, .ptr 1 r 0 0), (3, .ptr 13 H.length 0 0), (89, .tsl 13 (v.l.map encV)), (90, .int .i64 v.l.length), (91, .int .i64 a.1)], heap := H.set r (.row 1 [.int .i64 a.2] false true r) ++ [.row 13 [encV v] false true H.length], base := H.length })
                        (fun a => a.1 ≤ v.l.length ∧ seqL F (v.l ++ v.f.map (·.2)) (seen + 1) = seqL F (v.l.drop a.1 ++ v.f.map (·.2)) a.2 ∧ 0 ≤ a.2 ∧ a.2 ≤ 65536) (fun a => v.l.length - a.1) (0, seen + 1)
                        (by rw [hle]; exact norm_first (by simp) (hFb _) rfl (reach_two hr (hp0 _ _) rfl) (by (try rw [slots_map rfl]); simp only [List.map_cons, List.map_nil, AV.renN, renOf_low hr, renOf_own])) ⟨Nat.zero_le _, rfl, by simp only; omega, by simp only; omega⟩ ?_
                      rintro ⟨k, sn⟩ ⟨hk1, hm, hs3, hs4⟩
                      simp only at hk1 hm hs3 hs4
                      rw [hle]
                      by_cases hlt : k < v.l.length
                      · obtain ⟨x, hx⟩ := get_some hlt
                        have hxm := List.mem_of_getElem? hx
                        have hx2 := map_get (g := encV) hx
                        rw [drop_cons hx, List.cons_append, seqL_step] at hm
                        have hxk := L.kids x hxm
                        obtain ⟨s', hr1, hr2⟩ := ih x (by omega) (by omega) f (d + 1) sn (by omega) (by omega) (by omega) (by omega) (by omega) (by omega) (H.set r (.row 1 [.int .i64 sn] false true r) ++ [.row 13 [encV v] false true H.length, .row 13 [encV x] false true (H.length + 1)]) r (hF2 _ _ _ _) (by simp; omega) (hg1' _ _)
                        have hrg := lookM_range f x (d + 1) sn hs3 hs4
                        rw [setL (by simpa using hr), List.set_set] at hr1
                        unfold cnt at hr1
                        have hFx : F x sn = lookM f x (d + 1) sn := by rw [← hFF]
                        rw [hFx] at hm
                        generalize lookM f x (d + 1) sn = R at hr1 hr2 hm hrg
                        rw [encV_eq x] at hx2 hr1
                        rw [hle] at hr1
                        by_cases he : R.2 = 0
                        · rw [if_pos he] at hm
                          rw [he] at hr1
                          have hs' := hr2 he
                          (repeat' first | simp (disch := omega) only [go_sem, hx2, List.length_map, List.append_assoc, List.length_append, List.length_set, hg1', hp0', hp1', hq1', hs2'] | (refine call_of _ _ hr1 ?_) | ((apply spl) <;> intro h <;> try simp (disch := omega) only [go_sem, hx2, List.length_map, List.append_assoc, List.length_append, List.length_set, hg1', hp0', hp1', hq1', hs2' , h]))
                          refine ⟨(k + 1, R.1), ?_, ⟨hlt, hm, hrg.1, hrg.2⟩, by simp only; omega⟩
                          rw [hs']
                          exact norm_first (by simp) (hF2 _ _ _ _) rfl (reach_two hr (hp0' _ _ _) rfl) (by (try rw [slots_map rfl]); simp only [List.map_cons, List.map_nil, AV.renN, renOf_low hr, renOf_own])
                        · rw [if_neg he] at hm
                          rw [hm]
                          (repeat' first | simp (disch := omega) only [go_sem, hx2, he, List.length_map, List.append_assoc, List.length_append, List.length_set, hg1', hp0', hp1', hq1', hs2'] | (refine call_of _ _ hr1 ?_) | ((apply spl) <;> intro h <;> try simp (disch := omega) only [go_sem, hx2, he, List.length_map, List.append_assoc, List.length_append, List.length_set, hg1', hp0', hp1', hq1', hs2' , h]))
                          exact postE_flat (.inr rfl) (by simp) (hF2 _ _ _ _) (still_int _ _) rfl ⟨_, rfl, rfl, by simp [he]⟩
                      · rw [List.drop_of_length_le (by omega), List.nil_append] at hm
                        (repeat' first | simp (disch := omega) only [go_sem, List.length_map, hp0'] | ((apply spl) <;> intro h <;> try simp (disch := omega) only [go_sem, List.length_map, hp0', h]))
                        refine loop_of (α := Nat × Int) (fun a => { tmps := slots 121 [(1, .int .i64 d), (2, .ptr 1 r 0 0), (105, .tsl 14 (v.f.map encFd)), (106, .int .i64 v.f.length), (107, .int .i64 a.1)], heap := H.set r (.row 1 [.int .i64 a.2] false true r), base := H.length })
                          (fun a => a.1 ≤ v.f.length ∧ seqL F (v.l ++ v.f.map (·.2)) (seen + 1) = seqL F ((v.f.map (·.2)).drop a.1) a.2 ∧ 0 ≤ a.2 ∧ a.2 ≤ 65536) (fun a => v.f.length - a.1) (0, sn)
                          (norm_none (by simp) (hF1 _ _ _) rfl (fun q hq => by have : q = r := (List.mem_singleton.1 (show q ∈ [r] from hq)); omega) (by (try rw [slots_map rfl]); simp only [List.map_cons, List.map_nil, AV.renN, renOf_low hr])) ⟨Nat.zero_le _, hm, hs3, hs4⟩ ?_
                        clear hm hlt hk1 hs3 hs4
                        rintro ⟨k, sn⟩ ⟨hk1, hm, hs3, hs4⟩
                        simp only at hk1 hm hs3 hs4
                        by_cases hlt : k < v.f.length
                        · obtain ⟨x, hx⟩ := get_some hlt
                          have hxm := List.mem_of_getElem? hx
                          have hx2 := map_get (g := encFd) hx
                          have hx3 := map_get (g := fun y : List UInt8 × V => y.2) hx
                          rw [drop_cons hx3, seqL_step] at hm
                          have hxk := (L.fkids x hxm).1
                          obtain ⟨s', hr1, hr2⟩ := ih x.2 (by omega) (by omega) f (d + 1) sn (by omega) (by omega) (by omega) (by omega) (by omega) (by omega) (H.set r (.row 1 [.int .i64 sn] false true r) ++ [.row 14 [encFd x] false true H.length]) r (hF3 _ _ _) (by simp; omega) (hg1' _ _)
                          have hrg := lookM_range f x.2 (d + 1) sn hs3 hs4
                          rw [setL (by simpa using hr), List.set_set] at hr1
                          unfold cnt at hr1
                          have hFx : F x.2 sn = lookM f x.2 (d + 1) sn := by rw [← hFF]
                          rw [hFx] at hm
                          generalize lookM f x.2 (d + 1) sn = R at hr1 hr2 hm hrg
                          rw [encFd_eq] at hx2 hr1
                          rw [encV_eq x.2] at hr1
                          by_cases he : R.2 = 0
                          · rw [if_pos he] at hm
                            rw [he] at hr1
                            have hs' := hr2 he
                            (repeat' first | simp (disch := omega) only [go_sem, hx2, List.length_map, List.append_assoc, List.length_append, List.length_set, hg1', hp0', hq0', hs3'] | (refine call_of _ _ hr1 ?_) | ((apply spl) <;> intro h <;> try simp (disch := omega) only [go_sem, hx2, List.length_map, List.append_assoc, List.length_append, List.length_set, hg1', hp0', hq0', hs3' , h]))
                            refine ⟨(k + 1, R.1), ?_, ⟨hlt, hm, hrg.1, hrg.2⟩, by simp only; omega⟩
                            rw [hs']
                            exact norm_none (by simp) (hF3 _ _ _) rfl (fun q hq => by have : q = r := (List.mem_singleton.1 (show q ∈ [r] from hq)); omega) (by (try rw [slots_map rfl]); simp only [List.map_cons, List.map_nil, AV.renN, renOf_low hr])
                          · rw [if_neg he] at hm
                            rw [hm]
                            (repeat' first | simp (disch := omega) only [go_sem, hx2, he, List.length_map, List.append_assoc, List.length_append, List.length_set, hg1', hp0', hq0', hs3'] | (refine call_of _ _ hr1 ?_) | ((apply spl) <;> intro h <;> try simp (disch := omega) only [go_sem, hx2, he, List.length_map, List.append_assoc, List.length_append, List.length_set, hg1', hp0', hq0', hs3' , h]))
                            exact postE_flat (.inr rfl) (by simp) (hF3 _ _ _) (still_int _ _) rfl ⟨_, rfl, rfl, by simp [he]⟩
                        · rw [List.drop_of_length_le (by simp; omega)] at hm
                          rw [hm]
                          (repeat' first | simp (disch := omega) only [go_sem, List.length_map] | ((apply spl) <;> intro h <;> try simp (disch := omega) only [go_sem, List.length_map, h]))
                          exact postE_flat0 (.inr rfl) (by simp) (hF.set r _ _) (still_int _ _) rfl ⟨_, rfl, rfl, fun _ => rfl⟩
                    · rw [if_pos hkey]
                      refine ⟨seen + 1, runR_of ac133 rfl ?_, fun h => absurd h hkey⟩
                      (repeat' first | simp (disch := omega) only [go_sem, ac133, enter, List.length_map, encB_len, getL, setL, hH, hs1', hg1, hp0] | refine pure_of _ (h139) ?_ | refine pure_of _ (h140) ?_ | refine pure_of _ (h141) ?_ | refine pure_of _ (h46) ?_ | refine pure_of _ (h142) ?_ | ((apply spl) <;> intro h <;> try simp (disch := omega) only [go_sem, ac133, enter, List.length_map, encB_len, getL, setL, hH, hs1', hg1, hp0 , h]))
                      all_goals first | omega | exact post_flat (.inr rfl) (by simp) (hFb _) (still_int _ _) rfl
              · have hk : True := trivial
                have ho : oneI v = (if 65536 < v.s.text.length ∨ 65536 < v.s.bytes.length then 10 else keysM (v.f.map (·.1))) := by unfold oneI; rw [if_neg (by simp [hk2, hk3]), if_neg (by simp [hk4])]
                rw [ho]
                by_cases hsz : 65536 < v.s.text.length ∨ 65536 < v.s.bytes.length
                · rw [if_pos hsz, if_pos (by decide)]
                  refine ⟨seen + 1, runR_of ac133 rfl ?_, by simp⟩
                  (repeat' first | simp (disch := omega) only [go_sem, ac133, enter, List.length_map, encB_len, getL, setL, hH, hs1', hg1, hp0] | refine pure_of _ (h139) ?_ | refine pure_of _ (h140) ?_ | refine pure_of _ (h141) ?_ | refine pure_of _ (h46) ?_ | refine pure_of _ (h142) ?_ | ((apply spl) <;> intro h <;> try simp (disch := omega) only [go_sem, ac133, enter, List.length_map, encB_len, getL, setL, hH, hs1', hg1, hp0 , h]))
                  all_goals first | omega | exact post_flat (.inr rfl) (by simp) (hFb _) (still_int _ _) rfl
                · rw [if_neg hsz]
                  by_cases hkey : keysM (v.f.map (·.1)) = 0
                  · rw [hkey] at h142
                    rw [if_neg (by rw [hkey]; simp), seqL_kids hown]
                    refine fin (runRE_of ac133 rfl ?_)
                    (repeat' first | simp (disch := omega) only [go_sem, ac133, enter, List.length_map, encB_len, getL, setL, hH, hs1', hg1, hp0] | refine pure_of _ (h139) ?_ | refine pure_of _ (h140) ?_ | refine pure_of _ (h141) ?_ | refine pure_of _ (h46) ?_ | refine pure_of _ (h142) ?_ | ((apply spl) <;> intro h <;> try simp (disch := omega) only [go_sem, ac133, enter, List.length_map, encB_len, getL, setL, hH, hs1', hg1, hp0 , h]))
                    all_goals try omega
                    refine loop_of (α := Nat × Int) (fun a => { tmps := slots 121 [(1, .int .i64 d), (2, .ptr 1 r 0 0), (3, .ptr 13 H.length 0 0), (89, .tsl 13 (v.l.map encV)), (90, .int .i64 v.l.length), (91, .int .i64 a.1)], heap := H.set r (.row 1 [.int .i64 a.2] false true r) ++ [.row 13 [encV v] false true H.length], base := H.length })
                      (fun a => a.1 ≤ v.l.length ∧ seqL F (v.l ++ v.f.map (·.2)) (seen + 1) = seqL F (v.l.drop a.1 ++ v.f.map (·.2)) a.2 ∧ 0 ≤ a.2 ∧ a.2 ≤ 65536) (fun a => v.l.length - a.1) (0, seen + 1)
                      (by rw [hle]; exact norm_first (by simp) (hFb _) rfl (reach_two hr (hp0 _ _) rfl) (by (try rw [slots_map rfl]); simp only [List.map_cons, List.map_nil, AV.renN, renOf_low hr, renOf_own])) ⟨Nat.zero_le _, rfl, by simp only; omega, by simp only; omega⟩ ?_
                    rintro ⟨k, sn⟩ ⟨hk1, hm, hs3, hs4⟩
                    simp only at hk1 hm hs3 hs4
                    rw [hle]
                    by_cases hlt : k < v.l.length
                    · obtain ⟨x, hx⟩ := get_some hlt
                      have hxm := List.mem_of_getElem? hx
                      have hx2 := map_get (g := encV) hx
                      rw [drop_cons hx, List.cons_append, seqL_step] at hm
                      have hxk := L.kids x hxm
                      obtain ⟨s', hr1, hr2⟩ := ih x (by omega) (by omega) f (d + 1) sn (by omega) (by omega) (by omega) (by omega) (by omega) (by omega) (H.set r (.row 1 [.int .i64 sn] false true r) ++ [.row 13 [encV v] false true H.length, .row 13 [encV x] false true (H.length + 1)]) r (hF2 _ _ _ _) (by simp; omega) (hg1' _ _)
                      have hrg := lookM_range f x (d + 1) sn hs3 hs4
                      rw [setL (by simpa using hr), List.set_set] at hr1
                      unfold cnt at hr1
                      have hFx : F x sn = lookM f x (d + 1) sn := by rw [← hFF]
                      rw [hFx] at hm
                      generalize lookM f x (d + 1) sn = R at hr1 hr2 hm hrg
                      rw [encV_eq x] at hx2 hr1
                      rw [hle] at hr1
                      by_cases he : R.2 = 0
                      · rw [if_pos he] at hm
                        rw [he] at hr1
                        have hs' := hr2 he
                        (repeat' first | simp (disch := omega) only [go_sem, hx2, List.length_map, List.append_assoc, List.length_append, List.length_set, hg1', hp0', hp1', hq1', hs2'] | (refine call_of _ _ hr1 ?_) | ((apply spl) <;> intro h <;> try simp (disch := omega) only [go_sem, hx2, List.length_map, List.append_assoc, List.length_append, List.length_set, hg1', hp0', hp1', hq1', hs2' , h]))
                        refine ⟨(k + 1, R.1), ?_, ⟨hlt, hm, hrg.1, hrg.2⟩, by simp only; omega⟩
                        rw [hs']
                        exact norm_first (by simp) (hF2 _ _ _ _) rfl (reach_two hr (hp0' _ _ _) rfl) (by (try rw [slots_map rfl]); simp only [List.map_cons, List.map_nil, AV.renN, renOf_low hr, renOf_own])
                      · rw [if_neg he] at hm
                        rw [hm]
                        (repeat' first | simp (disch := omega) only [go_sem, hx2, he, List.length_map, List.append_assoc, List.length_append, List.length_set, hg1', hp0', hp1', hq1', hs2'] | (refine call_of _ _ hr1 ?_) | ((apply spl) <;> intro h <;> try simp (disch := omega) only [go_sem, hx2, he, List.length_map, List.append_assoc, List.length_append, List.length_set, hg1', hp0', hp1', hq1', hs2' , h]))
                        exact postE_flat (.inr rfl) (by simp) (hF2 _ _ _ _) (still_int _ _) rfl ⟨_, rfl, rfl, by simp [he]⟩
                    · rw [List.drop_of_length_le (by omega), List.nil_append] at hm
                      (repeat' first | simp (disch := omega) only [go_sem, List.length_map, hp0'] | ((apply spl) <;> intro h <;> try simp (disch := omega) only [go_sem, List.length_map, hp0', h]))
                      refine loop_of (α := Nat × Int) (fun a => { tmps := slots 121 [(1, .int .i64 d), (2, .ptr 1 r 0 0), (105, .tsl 14 (v.f.map encFd)), (106, .int .i64 v.f.length), (107, .int .i64 a.1)], heap := H.set r (.row 1 [.int .i64 a.2] false true r), base := H.length })
                        (fun a => a.1 ≤ v.f.length ∧ seqL F (v.l ++ v.f.map (·.2)) (seen + 1) = seqL F ((v.f.map (·.2)).drop a.1) a.2 ∧ 0 ≤ a.2 ∧ a.2 ≤ 65536) (fun a => v.f.length - a.1) (0, sn)
                        (norm_none (by simp) (hF1 _ _ _) rfl (fun q hq => by have : q = r := (List.mem_singleton.1 (show q ∈ [r] from hq)); omega) (by (try rw [slots_map rfl]); simp only [List.map_cons, List.map_nil, AV.renN, renOf_low hr])) ⟨Nat.zero_le _, hm, hs3, hs4⟩ ?_
                      clear hm hlt hk1 hs3 hs4
                      rintro ⟨k, sn⟩ ⟨hk1, hm, hs3, hs4⟩
                      simp only at hk1 hm hs3 hs4
                      by_cases hlt : k < v.f.length
                      · obtain ⟨x, hx⟩ := get_some hlt
                        have hxm := List.mem_of_getElem? hx
                        have hx2 := map_get (g := encFd) hx
                        have hx3 := map_get (g := fun y : List UInt8 × V => y.2) hx
                        rw [drop_cons hx3, seqL_step] at hm
                        have hxk := (L.fkids x hxm).1
                        obtain ⟨s', hr1, hr2⟩ := ih x.2 (by omega) (by omega) f (d + 1) sn (by omega) (by omega) (by omega) (by omega) (by omega) (by omega) (H.set r (.row 1 [.int .i64 sn] false true r) ++ [.row 14 [encFd x] false true H.length]) r (hF3 _ _ _) (by simp; omega) (hg1' _ _)
                        have hrg := lookM_range f x.2 (d + 1) sn hs3 hs4
                        rw [setL (by simpa using hr), List.set_set] at hr1
                        unfold cnt at hr1
                        have hFx : F x.2 sn = lookM f x.2 (d + 1) sn := by rw [← hFF]
                        rw [hFx] at hm
                        generalize lookM f x.2 (d + 1) sn = R at hr1 hr2 hm hrg
                        rw [encFd_eq] at hx2 hr1
                        rw [encV_eq x.2] at hr1
                        by_cases he : R.2 = 0
                        · rw [if_pos he] at hm
                          rw [he] at hr1
                          have hs' := hr2 he
                          (repeat' first | simp (disch := omega) only [go_sem, hx2, List.length_map, List.append_assoc, List.length_append, List.length_set, hg1', hp0', hq0', hs3'] | (refine call_of _ _ hr1 ?_) | ((apply spl) <;> intro h <;> try simp (disch := omega) only [go_sem, hx2, List.length_map, List.append_assoc, List.length_append, List.length_set, hg1', hp0', hq0', hs3' , h]))
                          refine ⟨(k + 1, R.1), ?_, ⟨hlt, hm, hrg.1, hrg.2⟩, by simp only; omega⟩
                          rw [hs']
                          exact norm_none (by simp) (hF3 _ _ _) rfl (fun q hq => by have : q = r := (List.mem_singleton.1 (show q ∈ [r] from hq)); omega) (by (try rw [slots_map rfl]); simp only [List.map_cons, List.map_nil, AV.renN, renOf_low hr])
                        · rw [if_neg he] at hm
                          rw [hm]
                          (repeat' first | simp (disch := omega) only [go_sem, hx2, he, List.length_map, List.append_assoc, List.length_append, List.length_set, hg1', hp0', hq0', hs3'] | (refine call_of _ _ hr1 ?_) | ((apply spl) <;> intro h <;> try simp (disch := omega) only [go_sem, hx2, he, List.length_map, List.append_assoc, List.length_append, List.length_set, hg1', hp0', hq0', hs3' , h]))
                          exact postE_flat (.inr rfl) (by simp) (hF3 _ _ _) (still_int _ _) rfl ⟨_, rfl, rfl, by simp [he]⟩
                      · rw [List.drop_of_length_le (by simp; omega)] at hm
                        rw [hm]
                        (repeat' first | simp (disch := omega) only [go_sem, List.length_map] | ((apply spl) <;> intro h <;> try simp (disch := omega) only [go_sem, List.length_map, h]))
                        exact postE_flat0 (.inr rfl) (by simp) (hF.set r _ _) (still_int _ _) rfl ⟨_, rfl, rfl, fun _ => rfl⟩
                  · rw [if_pos hkey]
                    refine ⟨seen + 1, runR_of ac133 rfl ?_, fun h => absurd h hkey⟩
                    (repeat' first | simp (disch := omega) only [go_sem, ac133, enter, List.length_map, encB_len, getL, setL, hH, hs1', hg1, hp0] | refine pure_of _ (h139) ?_ | refine pure_of _ (h140) ?_ | refine pure_of _ (h141) ?_ | refine pure_of _ (h46) ?_ | refine pure_of _ (h142) ?_ | ((apply spl) <;> intro h <;> try simp (disch := omega) only [go_sem, ac133, enter, List.length_map, encB_len, getL, setL, hH, hs1', hg1, hp0 , h]))
                    all_goals first | omega | exact post_flat (.inr rfl) (by simp) (hFb _) (still_int _ _) rfl
end Ago
/- value.Check is the reference's Check. -/
set_option maxRecDepth 100000
set_option maxHeartbeats 4000000
namespace Ago
open Go (IntKind)
theorem checkV_run (v : V) (hv : v.bulk ≤ 2 ^ 24) : PRun C0 126 [encV v] (.int .i64 (checkM v)) := by
  have hF : Flat [.row 13 [encV v] false true 0, .row 1 [.int .i64 0] false true 1] := (Flat.nil.push' 13 [encV v] (k := 0) rfl).push' 1 [.int .i64 0] (k := 1) rfl
  obtain ⟨s', h, _⟩ := ckv_run _ v (Nat.le_refl _) hv 49 1 0 (by omega) (by omega) (by omega) (by omega) (by omega) (by omega) _ 1 hF (by simp) rfl
  refine prun_of ac126 rfl ?_
  unfold checkM
  generalize (lookM 49 v 1 0).2 = e at h ⊢
  rw [encV_eq] at h ⊢
  (repeat' first | simp (disch := omega) only [go_sem, ac126, enter] | (refine call_of _ _ h ?_) | ((apply spl) <;> intro h <;> try simp (disch := omega) only [go_sem, ac126, enter , h]))
  all_goals rfl
end Ago
