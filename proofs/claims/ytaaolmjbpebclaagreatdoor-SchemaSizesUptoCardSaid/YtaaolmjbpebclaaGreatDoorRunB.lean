/- Loops and calls over a heap that is not told. -/
import Derived.Test.YtaaolmjbpebclaaGreatDoorRunA
set_option linter.unusedSimpArgs false
set_option linter.unusedVariables false
set_option maxRecDepth 100000
set_option maxHeartbeats 4000000
namespace Ago
open Go (IntKind)
/-- A heap that lies below: what it refers to lies in it, and it is not renamed. -/
structure Cl (H : Heap) : Prop where
  refs : ∀ b, b ∈ H → ∀ r, r ∈ b.refs → r < H.length
  ren : ∀ b, b ∈ H → ∀ f g, (∀ r, r < H.length → f r = some r) → (∀ r, r < H.length → g r = r) → Blk.ren f g b = b
theorem Cl.nil : Cl [] := ⟨fun b h => (by cases h), fun b h => (by cases h)⟩
theorem Cl.push {H : Heap} (h : Cl H) (n : Nat) (els : List AV) (ro : Bool) (fam : Nat) (hf : fam ≤ H.length) : Cl (H ++ [.row n els ro true fam]) := by
  refine ⟨fun b hb r hr => ?_, fun b hb f g hf2 hg2 => ?_⟩
  · rcases List.mem_append.1 hb with hb | hb
    · have := h.refs b hb r hr
      simp
      omega
    · rw [List.mem_singleton.1 hb] at hr
      simp [Blk.refs] at hr
  · rcases List.mem_append.1 hb with hb | hb
    · exact h.ren b hb f g (fun r hr => hf2 r (by simp; omega)) (fun r hr => hg2 r (by simp; omega))
    · rw [List.mem_singleton.1 hb]
      simp [Blk.ren, hg2 fam (by simp; omega)]
theorem reach_lowC (H : Heap) (base : Nat) : ∀ (k : Nat) (todo seen : List Nat), (∀ r, r ∈ todo → r < base) → reach H base k todo seen = seen
  | 0, _, _, _ => rfl
  | _ + 1, [], _, _ => rfl
  | k + 1, r :: todo, seen, h => by
    unfold reach
    rw [if_pos (h r (by simp))]
    exact reach_lowC H base k todo seen fun x hx => h x (by simp [hx])
theorem reach_app (H : Heap) (base : Nat) : ∀ (k : Nat) (todo low seen : List Nat), (∀ r, r ∈ low → r < base) → reach H base k (todo ++ low) seen = reach H base k todo seen
  | 0, _, _, _, _ => rfl
  | k + 1, [], low, seen, h => by
    rw [List.nil_append, reach_lowC H base (k + 1) low seen h]
    rfl
  | k + 1, r :: todo, low, seen, h => by
    rw [List.cons_append]
    unfold reach
    split
    · exact reach_app H base k todo low seen h
    · split
      · exact reach_app H base k todo low seen h
      · split
        · exact reach_app H base k todo low seen h
        · rw [← List.append_assoc]
          exact reach_app H base k _ low _ h
def Blk.roB : Blk → Bool
  | .row _ _ ro _ _ => ro
  | _ => false
theorem dropped_ro (ks : List Nat) : ∀ (E : Heap) (j : Nat), (∀ b, b ∈ E → b.roB = false) → droppedGo ks E j = []
  | [], _, _ => rfl
  | b :: E, j, h => by
    have ih := dropped_ro ks E (j + 1) fun x hx => h x (by simp [hx])
    have hb := h b (by simp)
    cases b with
    | row n els ro fl fam =>
      simp only [Blk.roB] at hb
      subst hb
      exact ih
    | _ => exact ih
theorem norm_cl {live : List Nat} {tm : List AV} {H E : Heap} {m rb : Nat} {L L' : List AV} {ks : List Nat} {K : Heap} (hm : m = H.length) (hC : Cl H) (hE : ∀ b, b ∈ E → b.roB = false) (hL : keepLive live 0 tm = L) (hr : reach (H ++ E) m 4000 (L.flatMap (AV.refsN 6)) [] = ks)
    (hk : ∀ r, r ∈ ks → ((H ++ E).getD r .gone).refs = []) (hi : L.map (AV.renN (renOf m ks) 6) = L') (hK : (ks.map fun r => (H ++ E).getD r .gone).map (Blk.ren (renOf m ks) (famRen (H ++ E) m ks)) = K) : St.norm live ⟨tm, H ++ E, m, rb⟩ = ⟨L', H ++ K, m, 0⟩ := by
  subst hm
  unfold St.norm St.normTm
  rw [hL]
  have h1 : ((H ++ E).take H.length) = H := by simp
  have h2 : ((H ++ E).drop H.length) = E := by simp
  simp only [h1]
  rw [reach_app _ _ _ _ _ _ (fun r hr => by
    obtain ⟨b, hb, hr⟩ := List.mem_flatMap.1 hr
    exact hC.refs b hb r hr), hr]
  unfold St.normBy
  simp only [h1, h2]
  rw [dropped_ro ks E _ hE]
  have hc : closedBy (renOf H.length ks) (H ++ ks.map fun r => (H ++ E).getD r .gone) = true := by
    unfold closedBy
    rw [List.all_eq_true]
    intro b hb
    rw [List.all_eq_true]
    intro q hq
    rcases List.mem_append.1 hb with hb | hb
    · have := hC.refs b hb q hq
      unfold renOf
      rw [if_pos this]
      rfl
    · obtain ⟨r, h3, rfl⟩ := List.mem_map.1 hb
      rw [hk r h3] at hq
      cases hq
  simp only [hc, roFit, roMark, Bool.and_self, normIf, hi]
  rw [List.map_append, hK]
  have h4 : H.map (Blk.ren (renOf H.length ks) (famRen (H ++ E) H.length ks)) = H := by
    rw [List.map_congr_left (g := id) (fun b hb => hC.ren b hb _ _ (fun r hr => by unfold renOf; rw [if_pos hr]) (fun r hr => by unfold famRen; rw [if_pos hr])), List.map_id]
  rw [h4]
/-- What a function owes at its end. -/
def PostC (base : Nat) (res : List ResV) (v : AV) (H' : Heap) (e : Ex) (s : St) : Prop := (e = .normal ∨ e = .ret) ∧ ∃ u, results res s = some u ∧ (tidy base u s.heap).tmps.getD 0 .dead = v ∧ (tidy base u s.heap).heap = H'
theorem runC_of {C : Ctx} {f : Nat} (fn : AFn) {args : List AV} {H H' : Heap} {v : AV} (hf : C.code f = some fn) (h : @withStI (enter fn args H) ⟨aw (RunOf C) (PRun C) fn.body (PostC H.length fn.res v H')⟩) : RunOf C f args H v H' := by
  unfold withStI at h
  obtain ⟨e, s, h1, he, u, h2, rfl, rfl⟩ := aw_sound _ _ _ h
  exact .run hf h1 he h2
end Ago
/- Heaps of rows that have no references, of a length that is not told. -/
set_option maxRecDepth 100000
set_option maxHeartbeats 4000000
namespace Ago
open Go (IntKind)

/-- Every block is a row of its own, and no element has a reference. -/
def Flat (H : Heap) : Prop := ∀ j b, H[j]? = some b → ∃ n els, b = Blk.row n els false true j
theorem Flat.nil : Flat [] := fun j b h => by simp at h
theorem Flat.push {H : Heap} (h : Flat H) (n : Nat) (els : List AV) : Flat (H ++ [.row n els false true H.length]) := fun j b hj => by
  by_cases hlt : j < H.length
  · rw [List.getElem?_append_left hlt] at hj
    exact h j b hj
  · rw [List.getElem?_append_right (by omega)] at hj
    have e : j - H.length = 0 := by
      have := (List.getElem?_eq_some_iff.1 hj).1
      simp at this
      omega
    rw [e] at hj
    obtain rfl : j = H.length := by omega
    cases hj
    exact ⟨n, els, rfl⟩
theorem Flat.set {H : Heap} (h : Flat H) (r n : Nat) (els : List AV) : Flat (H.set r (.row n els false true r)) := fun j b hj => by
  rw [List.getElem?_set] at hj
  split at hj
  · rename_i e
    subst e
    split at hj
    · cases hj
      exact ⟨n, els, rfl⟩
    · cases hj
  · exact h j b hj
theorem strikeGo_flat (r k : Nat) : ∀ (H : Heap) (i : Nat), (∀ j b, H[j]? = some b → ∃ n els, b = Blk.row n els false true (i + j)) → strikeGo r r k H i = some H
  | [], _, _ => rfl
  | b :: H, i, h => by
    have ih := strikeGo_flat r k H (i + 1) fun j b hj => by
      obtain ⟨n, els, e⟩ := h (j + 1) b (by simpa using hj)
      exact ⟨n, els, by rw [e]; congr 1; omega⟩
    obtain ⟨n, els, rfl⟩ := h 0 b (by simp)
    unfold strikeGo
    rw [ih]
    simp only [Nat.add_zero]
    rw [if_neg (by omega)]
theorem Flat.strike {H : Heap} (h : Flat H) (r k : Nat) : strikeGo r r k H 0 = some H := strikeGo_flat r k H 0 fun j b hj => by
  rw [Nat.zero_add]
  exact h j b hj
theorem Flat.refs {H : Heap} (h : Flat H) : H.flatMap Blk.refs = [] := by
  rw [List.flatMap_eq_nil_iff]
  intro b hb
  obtain ⟨j, hj⟩ := List.getElem?_of_mem hb
  obtain ⟨n, els, rfl⟩ := h j b hj
  rfl
theorem Flat.left {H E : Heap} (h : Flat (H ++ E)) : Flat H := fun j b hj => h j b (by
  rw [List.getElem?_append_left (List.getElem?_eq_some_iff.1 hj).1]
  exact hj)

theorem getP0 {H l : Heap} {b : Blk} {m : Nat} (h : m = H.length) : (H ++ b :: l)[m]? = some b := by
  subst h
  rw [List.getElem?_append_right (Nat.le_refl _), Nat.sub_self]
  rfl
theorem getP1 {H l : Heap} {a b : Blk} {m : Nat} (h : m = H.length + 1) : (H ++ a :: b :: l)[m]? = some b := by
  subst h
  rw [List.getElem?_append_right (by omega), Nat.add_sub_cancel_left]
  rfl
theorem setP0 {H l : Heap} {b x : Blk} {m : Nat} (h : m = H.length) : (H ++ b :: l).set m x = H ++ x :: l := by
  subst h
  rw [List.set_append_right _ _ (Nat.le_refl _), Nat.sub_self]
  rfl
theorem getL {H l : Heap} {m : Nat} (h : m < H.length) : (H ++ l)[m]? = H[m]? := List.getElem?_append_left h
/-! ### What the head of a loop keeps -/

theorem Flat.mem {H : Heap} (h : Flat H) : ∀ b, b ∈ H → ∃ n els fam, b = Blk.row n els false true fam := fun b hb => by
  obtain ⟨j, hj⟩ := List.getElem?_of_mem hb
  obtain ⟨n, els, rfl⟩ := h j b hj
  exact ⟨n, els, j, rfl⟩
end Ago
/- The names that a schema refers to, gathered in a slice that grows. -/
set_option maxRecDepth 100000
set_option maxHeartbeats 4000000
namespace Ago
open Go (IntKind)
theorem strikeGo_stay (r fam k : Nat) : ∀ (H : Heap) (i : Nat), (∀ j n els ro fl, H[j]? = some (.row n els ro fl fam) → i + j = r ∨ els.length < k) → strikeGo r fam k H i = some H
  | [], _, _ => rfl
  | b :: H, i, h => by
    have ih := strikeGo_stay r fam k H (i + 1) fun j n els ro fl hj => by
      have := h (j + 1) n els ro fl hj
      omega
    unfold strikeGo
    rw [ih]
    cases b with
    | row n els ro fl fam' =>
      show (if fam' = fam ∧ i ≠ r ∧ k ≤ els.length then _ else _) = _
      rw [if_neg]
      rintro ⟨rfl, h1, h2⟩
      have := h 0 n els ro fl rfl
      omega
    | _ => rfl
theorem strike_stay {H : Heap} {r fam k : Nat} (h : ∀ j n els ro fl, H[j]? = some (.row n els ro fl fam) → j = r ∨ els.length < k) : H.strike r fam k = some H := strikeGo_stay r fam k H 0 fun j n els ro fl hj => by
  have := h j n els ro fl hj
  omega
/-- Families of a heap are numbers of its blocks. -/
def Fb (H : Heap) : Prop := ∀ (j n : Nat) (els : List AV) (ro fl : Bool) (f : Nat), H[j]? = some (Blk.row n els ro fl f) → f < H.length
/-- A slice of strings that nobody else writes behind; what comes next has the family fam. -/
inductive Hold (H : Heap) : AV → List AV → Nat → Prop
  | nil : Hold H (AV.snil 1) [] H.length
  | row {r fam : Nat} {els : List AV} : els ≠ [] → H[r]? = some (Blk.row 1 els false true fam) → fam < H.length → (∀ j n e ro fl, H[j]? = some (Blk.row n e ro fl fam) → j = r ∨ e.length ≤ els.length) → Hold H (AV.sref 1 r 0 els.length) els fam
theorem Hold.two {H : Heap} {l : AV} {els : List AV} {fam : Nat} (h : Hold H l els fam) : (l = .snil 1 ∧ els = [] ∧ fam = H.length) ∨ ∃ r, l = .sref 1 r 0 els.length ∧ H[r]? = some (Blk.row 1 els false true fam) ∧ fam < H.length ∧ r < H.length ∧ (∀ j n e ro fl, H[j]? = some (Blk.row n e ro fl fam) → j = r ∨ e.length ≤ els.length) := by
  cases h with
  | nil => exact .inl ⟨rfl, rfl, rfl⟩
  | row h1 h2 h3 h4 => exact .inr ⟨_, rfl, h2, h3, (List.getElem?_eq_some_iff.1 h2).1, h4⟩
def nextV (H : Heap) (l : AV) (els m : List AV) : AV := if m = [] then l else .sref 1 H.length 0 (els ++ m).length
def nextH (H : Heap) (els m : List AV) (fam : Nat) : Heap := if m = [] then H else H ++ [.row 1 (els ++ m) false true fam]
theorem getA {H : Heap} {j : Nat} {b c : Blk} (h : (H ++ [b])[j]? = some c) : H[j]? = some c ∨ (j = H.length ∧ b = c) := by
  rcases Nat.lt_or_ge j H.length with hj | hj
  · rw [List.getElem?_append_left hj] at h
    exact .inl h
  · rw [List.getElem?_append_right hj] at h
    have : j - H.length = 0 := by
      have := (List.getElem?_eq_some_iff.1 h).1
      simp at this
      omega
    rw [this] at h
    simp at h
    exact .inr ⟨by omega, h⟩
theorem Hold.fam_le {H : Heap} {l : AV} {els : List AV} {fam : Nat} (h : Hold H l els fam) : fam ≤ H.length := by
  cases h with
  | nil => exact Nat.le_refl _
  | row _ _ h _ => omega
theorem Hold.next {H : Heap} {l : AV} {els : List AV} {fam : Nat} (h : Hold H l els fam) (hf : Fb H) (m : List AV) : Hold (nextH H els m fam) (nextV H l els m) (els ++ m) (if m = [] then fam else fam) ∧ Fb (nextH H els m fam) := by
  have hle := h.fam_le
  unfold nextH nextV
  by_cases hm : m = []
  · subst hm
    simp only [if_true, List.append_nil]
    exact ⟨h, hf⟩
  · rw [if_neg hm, if_neg hm, if_neg hm]
    refine ⟨.row (by simp [hm]) (by simp) (by simp; omega) fun j n e ro fl hj => ?_, fun j n e ro fl f hj => ?_⟩
    · rcases getA hj with hj2 | ⟨rfl, hj2⟩
      · cases h with
        | nil =>
          have := hf _ _ _ _ _ _ hj2
          omega
        | row h1 h2 h3 h4 =>
          rcases h4 j n e ro fl hj2 with rfl | h5
          · rw [h2] at hj2
            cases hj2
            simp
          · right
            simp
            omega
      · exact .inl rfl
    · rcases getA hj with hj | ⟨_, hj⟩
      · have := hf _ _ _ _ _ _ hj
        simp
        omega
      · cases hj
        simp
        omega
theorem Cl.next {H : Heap} {l : AV} {els : List AV} {fam : Nat} (hC : Cl H) (h : Hold H l els fam) (m : List AV) : Cl (nextH H els m fam) := by
  unfold nextH
  split
  · exact hC
  · exact hC.push _ _ _ _ h.fam_le
/-- The names, in the order in which they stand. -/
def refsM (o : Bool) : Nat → Sch → List (List UInt8)
  | 0, _ => []
  | d + 1, x => (if x.s.op = 14 then [x.s.name] else []) ++ (if o = true ∧ (x.s.op = 9 ∨ x.s.op = 10) then [] else x.kids.flatMap (refsM o d))
theorem refsM_zero (o : Bool) (x : Sch) : refsM o 0 x = [] := (rfl)
theorem refsM_succ (o : Bool) (d : Nat) (x : Sch) : refsM o (d + 1) x = (if x.s.op = 14 then [x.s.name] else []) ++ (if o = true ∧ (x.s.op = 9 ∨ x.s.op = 10) then [] else x.kids.flatMap (refsM o d)) := (rfl)
theorem refs_len (o : Bool) : ∀ (d : Nat) (x : Sch), (refsM o d x).length ≤ cntM d x
  | 0, x => by simp [refsM_zero]
  | d + 1, x => by
    rw [refsM_succ, cntM_succ, List.length_append]
    have h1 : (if x.s.op = 14 then [x.s.name] else []).length ≤ 1 := by split <;> simp
    have h2 : (if o = true ∧ (x.s.op = 9 ∨ x.s.op = 10) then [] else x.kids.flatMap (refsM o d)).length ≤ (x.kids.map (cntM d)).sum := by
      split
      · simp
      · rw [List.length_flatMap]
        exact sum_le x.kids fun y _ => refs_len o d y
    omega
theorem reach_single {H : Heap} {base k q : Nat} {b : Blk} (h1 : base ≤ q) (h2 : H[q]? = some b) (h3 : b.refs = []) : reach H base (k + 2) [q] [] = [q] := by
  rw [reach, if_neg (by omega), if_neg (by simp), h2]
  simp only [h3, List.nil_append]
  rfl
/-- Slots of which one alone refers to the heap. -/
structure OneRef (S : AV → List AV) : Prop where
  ren : ∀ f a, (S a).map (AV.renN f 6) = S (AV.renN f 6 a)
  refs : ∀ a, (S a).flatMap (AV.refsN 6) = AV.refsN 6 a
theorem renOf_low {m r : Nat} (ks : List Nat) (h : r < m) : renOf m ks r = some r := by
  unfold renOf
  rw [if_pos h]
theorem norm_hold0 {S : AV → List AV} (hS : OneRef S) {live : List Nat} {tm : List AV} {H E : Heap} {m rb : Nat} {a : AV} (hm : m = H.length) (hC : Cl H) (hE : ∀ b, b ∈ E → b.roB = false) (hL : keepLive live 0 tm = S a) (ha : ∀ r, r ∈ AV.refsN 6 a → r < m)
    (hr : ∀ f : Nat → Option Nat, (∀ r, r < m → f r = some r) → AV.renN f 6 a = a) : St.norm live ⟨tm, H ++ E, m, rb⟩ = ⟨S a, H, m, 0⟩ := by
  have := norm_cl (rb := rb) (ks := []) (K := []) (L' := S a) hm hC hE hL (by rw [hS.refs]; exact reach_lowC _ _ _ _ _ ha) (by simp) (by rw [hS.ren, hr _ fun r hr => renOf_low _ hr]) rfl
  rw [List.append_nil] at this
  exact this
theorem norm_hold1 {S : AV → List AV} (hS : OneRef S) {live : List Nat} {tm : List AV} {H E : Heap} {m rb q n fam : Nat} {els : List AV} (hm : m = H.length) (hC : Cl H) (hE : ∀ b, b ∈ E → b.roB = false) (hL : keepLive live 0 tm = S (.sref 1 q 0 n)) (hq : m ≤ q)
    (hb : (H ++ E)[q]? = some (.row 1 els false true fam)) : St.norm live ⟨tm, H ++ E, m, rb⟩ = ⟨S (.sref 1 m 0 n), H ++ [.row 1 els false true (if fam < m then fam else m)], m, 0⟩ := by
  refine norm_cl (ks := [q]) hm hC hE hL (by rw [hS.refs]; exact reach_single hq hb rfl) (fun r hr => ?_) ?_ ?_
  · rw [List.mem_singleton.1 hr, List.getD_eq_getElem?_getD, hb]
    rfl
  · rw [hS.ren]
    congr 1
    simp only [AV.renN, renOf]
    rw [if_neg (by omega)]
    simp [List.idxOf?, List.findIdx?, List.findIdx?.go]
  · simp only [List.map_cons, List.map_nil, List.getD_eq_getElem?_getD, hb, Option.getD_some, Blk.ren, if_true, famRen]
    congr 2
    split
    · rfl
    · simp [List.findIdx, List.findIdx.go, hb, Blk.famOf]
theorem one_self : OneRef fun a => [a] := ⟨fun _ _ => rfl, fun a => by simp⟩
theorem post_hold0 {m : Nat} {res : List ResV} {a : AV} {H E : Heap} {tm : List AV} {b rb : Nat} {e : Ex} (he : e = .normal ∨ e = .ret) (hres : results res ⟨tm, H ++ E, b, rb⟩ = some a) (hm : m = H.length) (hC : Cl H) (hE : ∀ b, b ∈ E → b.roB = false) (ha : ∀ r, r ∈ AV.refsN 6 a → r < m)
    (hr : ∀ f : Nat → Option Nat, (∀ r, r < m → f r = some r) → AV.renN f 6 a = a) : PostC m res a H e ⟨tm, H ++ E, b, rb⟩ := by
  have := norm_hold0 (rb := 0) one_self (live := [0]) (tm := [a]) hm hC hE rfl ha hr
  refine ⟨he, a, hres, ?_, ?_⟩
  · unfold tidy
    rw [this]
    rfl
  · unfold tidy
    rw [this]
theorem post_hold1 {m : Nat} {res : List ResV} {H E : Heap} {tm : List AV} {b rb q n fam : Nat} {els : List AV} {e : Ex} (he : e = .normal ∨ e = .ret) (hres : results res ⟨tm, H ++ E, b, rb⟩ = some (.sref 1 q 0 n)) (hm : m = H.length) (hC : Cl H) (hE : ∀ b, b ∈ E → b.roB = false) (hq : m ≤ q)
    (hb : (H ++ E)[q]? = some (.row 1 els false true fam)) : PostC m res (.sref 1 m 0 n) (H ++ [.row 1 els false true (if fam < m then fam else m)]) e ⟨tm, H ++ E, b, rb⟩ := by
  have := norm_hold1 (rb := 0) one_self (live := [0]) (tm := [.sref 1 q 0 n]) hm hC hE rfl hq hb
  refine ⟨he, _, hres, ?_, ?_⟩
  · unfold tidy
    rw [this]
    rfl
  · unfold tidy
    rw [this]
theorem Hold.low {H : Heap} {l : AV} {els : List AV} {fam : Nat} (h : Hold H l els fam) : (∀ r, r ∈ AV.refsN 6 l → r < H.length) ∧ ∀ f : Nat → Option Nat, (∀ r, r < H.length → f r = some r) → AV.renN f 6 l = l := by
  cases h with
  | nil => exact ⟨fun r hr => by simp [AV.refsN] at hr, fun f _ => rfl⟩
  | row h1 h2 h3 h4 =>
    have := (List.getElem?_eq_some_iff.1 h2).1
    refine ⟨fun r hr => ?_, fun f hf => ?_⟩
    · simp only [AV.refsN, List.mem_singleton] at hr
      omega
    · simp only [AV.renN]
      rw [hf _ this]
theorem ro_cons {b : Blk} {E : Heap} (h1 : b.roB = false) (h2 : ∀ b, b ∈ E → b.roB = false) : ∀ x, x ∈ b :: E → x.roB = false := fun x hx => by
  rcases List.mem_cons.1 hx with rfl | hx
  · exact h1
  · exact h2 x hx
theorem ro_nil : ∀ b, b ∈ ([] : Heap) → b.roB = false := fun b h => by cases h
theorem nextV_low {H : Heap} {l : AV} {els m : List AV} (hm : m = []) : nextV H l els m = l ∧ ∀ fam, nextH H els m fam = H := by
  subst hm
  exact ⟨rfl, fun _ => rfl⟩
theorem Hold.fam_if {H : Heap} {l : AV} {els : List AV} {fam : Nat} (h : Hold H l els fam) : (if fam < H.length then fam else H.length) = fam := by
  have := h.fam_le
  split <;> omega
theorem Hold.fam_nil {H : Heap} {l : AV} {els : List AV} {fam : Nat} (h : Hold H l els fam) (he : els = []) : fam = H.length := by
  cases h with
  | nil => rfl
  | row h1 _ _ _ => exact (h1 he).elim
theorem step_norm {S : AV → List AV} (hS : OneRef S) {live : List Nat} {tm : List AV} {H : Heap} {l : AV} {els m m1 : List AV} {fam fam2 rb : Nat} {box : Blk} (hH : Hold H l els fam) (hC : Cl H) (hbox : box.roB = false)
    (h2 : fam2 = fam ∨ (els = [] ∧ H.length ≤ fam2)) (hL : keepLive live 0 tm = S (nextV (nextH H els m fam ++ [box]) (nextV H l els m) (els ++ m) m1)) :
    St.norm live ⟨tm, nextH (nextH H els m fam ++ [box]) (els ++ m) m1 fam2, H.length, rb⟩ = ⟨S (nextV H l els (m ++ m1)), nextH H els (m ++ m1) fam, H.length, 0⟩ := by
  have hf2 : (if fam2 < H.length then fam2 else H.length) = fam := by
    rcases h2 with rfl | ⟨he, h2⟩
    · exact hH.fam_if
    · rw [hH.fam_nil he, if_neg (by omega)]
  by_cases hm : m = []
  · subst hm
    simp only [nextV, nextH, if_true, List.nil_append, List.append_nil] at hL ⊢
    by_cases hm1 : m1 = []
    · subst hm1
      simp only [if_true] at hL ⊢
      exact norm_hold0 hS rfl hC (ro_cons hbox ro_nil) hL hH.low.1 hH.low.2
    · simp only [if_neg hm1] at hL ⊢
      rw [List.append_assoc]
      have := norm_hold1 (rb := rb) (els := els ++ m1) (fam := fam2) hS (E := [box] ++ [.row 1 (els ++ m1) false true fam2]) rfl hC (ro_cons hbox (ro_cons rfl ro_nil)) hL (by simp) (by simp)
      rw [this, hf2]
  · have hmm : ¬ m ++ m1 = [] := by simp [hm]
    simp only [nextV, nextH, if_neg hm, if_neg hmm] at hL ⊢
    by_cases hm1 : m1 = []
    · subst hm1
      simp only [if_true, List.append_nil] at hL ⊢
      rw [List.append_assoc]
      have := norm_hold1 (rb := rb) (els := els ++ m) (fam := fam) hS (E := [.row 1 (els ++ m) false true fam] ++ [box]) rfl hC (ro_cons rfl (ro_cons hbox ro_nil)) hL (by simp) (by simp)
      rw [this, hH.fam_if]
    · simp only [if_neg hm1] at hL ⊢
      rw [List.append_assoc, List.append_assoc]
      have := norm_hold1 (rb := rb) (els := els ++ m ++ m1) (fam := fam2) hS (E := [.row 1 (els ++ m) false true fam] ++ ([box] ++ [.row 1 (els ++ m ++ m1) false true fam2])) rfl hC (ro_cons rfl (ro_cons hbox (ro_cons rfl ro_nil))) hL (by simp) (by simp)
      rw [this, hf2, List.append_assoc]
theorem post_next {res : List ResV} {H : Heap} {l : AV} {els m : List AV} {fam b rb : Nat} {tm : List AV} {e : Ex} (he : e = .normal ∨ e = .ret) (hH : Hold H l els fam) (hC : Cl H) (hres : results res ⟨tm, nextH H els m fam, b, rb⟩ = some (nextV H l els m)) :
    PostC H.length res (nextV H l els m) (nextH H els m fam) e ⟨tm, nextH H els m fam, b, rb⟩ := by
  by_cases hm : m = []
  · subst hm
    simp only [nextV, nextH, if_true] at hres ⊢
    have := post_hold0 (res := res) (E := []) (tm := tm) (b := b) (rb := rb) he (by rw [List.append_nil]; exact hres) rfl hC ro_nil hH.low.1 hH.low.2
    rw [List.append_nil] at this
    exact this
  · simp only [nextV, nextH, if_neg hm] at hres ⊢
    have := post_hold1 (res := res) (els := els ++ m) (fam := fam) (E := [.row 1 (els ++ m) false true fam]) (tm := tm) (b := b) (rb := rb) he hres rfl hC (ro_cons rfl ro_nil) (Nat.le_refl _) (by simp)
    rw [hH.fam_if] at this
    exact this
theorem Fb.push {H : Heap} (h : Fb H) {n : Nat} {els : List AV} {ro fl : Bool} {f : Nat} (hf : f ≤ H.length) : Fb (H ++ [.row n els ro fl f]) := fun j n' e ro' fl' f' hj => by
  rcases getA hj with hj2 | ⟨_, hj2⟩
  · have := h _ _ _ _ _ _ hj2
    simp
    omega
  · cases hj2
    simp
    omega
theorem strike_box {H : Heap} (hF : Fb H) (n k : Nat) (els : List AV) (fl : Bool) : strikeGo H.length H.length k (H ++ [.row n els false fl H.length]) 0 = some (H ++ [.row n els false fl H.length]) := strike_stay fun j n' e ro' fl' hj => by
  rcases getA hj with hj2 | ⟨h, _⟩
  · have := hF _ _ _ _ _ _ hj2
    omega
  · exact .inl h
theorem strike_two {H : Heap} {r fam : Nat} {els : List AV} (hf : fam < H.length) (h4 : ∀ j n e ro fl, H[j]? = some (Blk.row n e ro fl fam) → j = r ∨ e.length ≤ els.length) (n1 n2 : Nat) (e1 e2 : List AV) :
    strikeGo r fam (els.length + 1) (H ++ [.row n1 e1 false true H.length, .row n2 e2 false true (H.length + 1)]) 0 = some (H ++ [.row n1 e1 false true H.length, .row n2 e2 false true (H.length + 1)]) := strike_stay fun j n' e ro' fl' hj => by
  rw [show H ++ [Blk.row n1 e1 false true H.length, Blk.row n2 e2 false true (H.length + 1)] = (H ++ [Blk.row n1 e1 false true H.length]) ++ [Blk.row n2 e2 false true (H.length + 1)] by simp] at hj
  rcases getA hj with hj2 | ⟨_, h⟩
  · rcases getA hj2 with hj3 | ⟨_, h⟩
    · have := h4 _ _ _ _ _ hj3
      omega
    · cases h
      omega
  · cases h
    omega
theorem Hold.box {H : Heap} {l : AV} {els : List AV} {fam : Nat} (h : Hold H l els fam) (n : Nat) (e : List AV) (ro fl : Bool) : ∃ fam2, Hold (H ++ [.row n e ro fl H.length]) l els fam2 ∧ (fam2 = fam ∨ (els = [] ∧ H.length ≤ fam2)) := by
  cases h with
  | nil => exact ⟨_, .nil, .inr ⟨rfl, by simp⟩⟩
  | row h1 h2 h3 h4 =>
    have hr := (List.getElem?_eq_some_iff.1 h2).1
    refine ⟨fam, .row h1 (by rw [List.getElem?_append_left hr]; exact h2) (by simp; omega) (fun j n' e' ro' fl' hj => ?_), .inl rfl⟩
    rcases getA hj with hj2 | ⟨_, hj2⟩
    · exact h4 _ _ _ _ _ hj2
    · cases hj2
      omega
theorem refs_run (o : Bool) : ∀ (d : Nat) (D : Int), D = d → d < 2 ^ 30 → ∀ x : Sch, x.bulk ≤ 2 ^ 24 → ∀ (H : Heap) (l : AV) (els : List AV) (fam : Nat), Cl H → Fb H → Hold H l els fam → els.length + cntM d x ≤ 2 ^ 26 →
    RunOf CS 491 [l, encSch x, .int .i64 D, .bool o] H (nextV H l els ((refsM o d x).map .str)) (nextH H els ((refsM o d x).map .str) fam) := by
  intro d
  induction d with
  | zero =>
    intro D hD hd x hx H l els fam hC hF hH hl
    rw [refsM_zero]
    simp only [nextV, nextH, List.map_nil, if_true]
    rw [encSch_eq]
    refine runC_of ac491 rfl ?_
    (repeat' first | simp (disch := omega) only [go_sem, ac491, enter, List.length_map] | (refine spl (fun h => ?_) (fun h => ?_) <;> try simp (disch := omega) only [go_sem, ac491, enter, List.length_map, h]) | fail)
    all_goals first | omega | skip
    exact post_hold0 (.inr rfl) rfl rfl hC (ro_cons rfl ro_nil) hH.low.1 hH.low.2
  | succ d ih =>
    intro D hD hd x hx H l els fam hC hF hH hl
    have L := Sch.lens hx
    have hp := parts_run x hx
    have hkl := kids_len x
    have h0 := hH
    rw [refsM_succ]
    by_cases h14 : x.s.op = 14
    · rw [if_pos h14, if_neg (by omega : ¬ (o = true ∧ (x.s.op = 9 ∨ x.s.op = 10)))]
      rw [encSch_eq] at hp ⊢
      obtain ⟨M, hM⟩ : ∃ M : Nat → List (List UInt8), ∀ k, M k = [x.s.name] ++ (x.kids.take k).flatMap (refsM o d) := ⟨_, fun _ => rfl⟩
      have hM0 : M 0 = [x.s.name] := by rw [hM]; rfl
      have hMs : ∀ k y, x.kids[k]? = some y → M (k + 1) = M k ++ refsM o d y := fun k y hy => by
        rw [hM, hM, List.take_add_one, hy]
        simp
      have hMm : ∀ k, x.kids.length ≤ k → (M k).map AV.str = AV.str x.s.name :: (x.kids.flatMap (refsM o d)).map AV.str := fun k hk => by
        rw [hM, List.take_of_length_le hk]
        rfl
      have hMb : ∀ k y, x.kids[k]? = some y → els.length + (M k).length + cntM d y ≤ 2 ^ 26 := fun k y hy => by
        have h1 : (M k).length ≤ 1 + ((x.kids.take k).map (cntM d)).sum := by
          rw [hM, List.length_append, List.length_flatMap]
          have := sum_le (f := fun z => (refsM o d z).length) (g := cntM d) (x.kids.take k) fun z _ => refs_len o d z
          simp only [List.length_cons, List.length_nil]
          omega
        have h2 := sum_take (cntM d) x.kids k y hy
        have h3 := sum_take_le (cntM d) x.kids (k + 1)
        rw [cntM_succ] at hl
        omega
      have hl2 := hl
      rw [cntM_succ] at hl2
      rcases hH.two with ⟨e1, e2, e3⟩ | ⟨r, e1, e2, e3, e4, e5⟩
      · rw [e1] at hH ⊢
        have h00 : els.length = 0 := by rw [e2]; rfl
        cases o with
        | true =>
          refine runC_of ac491 rfl ?_
          (repeat' first | simp (disch := omega) only [go_sem, ac491, enter, List.length_map, getP0, getP1, List.length_append, List.append_assoc, Nat.add_assoc] | refine pure_of _ (hp) ?_ | (refine spl (fun h => ?_) (fun h => ?_) <;> try simp (disch := omega) only [go_sem, ac491, enter, List.length_map, getP0, getP1, List.length_append, List.append_assoc, Nat.add_assoc , h]) | fail)
          all_goals first | omega | skip
          refine loop_of (α := Nat) (fun k => { tmps := slots 49 [(0, nextV H (.snil 1) els ((M k).map .str)), (2, .int .i64 D), (3, .bool true), (35, .tsl 15 (x.kids.map encSch)), (36, .int .i64 x.kids.length), (37, .int .i64 k)], heap := nextH H els ((M k).map .str) fam, base := H.length }) (fun k => k ≤ x.kids.length) (fun k => x.kids.length - k) 0
            ?_ (Nat.zero_le _) ?_
          · show St.norm _ _ = _
            simp only [hM0]
            refine (norm_hold1 (rb := 0) (els := [.str x.s.name]) (fam := (H.length + 2)) (q := H.length + 2) (n := 1) (live := [0, 2, 3, 35, 36, 37]) (S := fun a => slots 49 [(0, a), (2, .int .i64 D), (3, .bool true), (35, .tsl 15 (x.kids.map encSch)), (36, .int .i64 x.kids.length), (37, .int .i64 (0 : Nat))]) (H := H) ⟨fun _ _ => rfl, fun a => List.append_nil _⟩ rfl hC ?_ ?_ (by omega) ?_).trans ?_
            · exact ro_cons rfl (ro_cons rfl (ro_cons rfl ro_nil))
            · rfl
            · simp
            · rw [if_neg (by omega)]
              simp [nextV, nextH, e2, e3]
          intro k hk
          by_cases hlt : k < x.kids.length
          · obtain ⟨y, hy⟩ := get_some hlt
            have hym := List.mem_of_getElem? hy
            have hy2 := map_get (g := encSch) hy
            obtain ⟨N1, F1⟩ := hH.next hF ((M k).map AV.str)
            rw [ite_self] at N1
            have C1 := Cl.next hC hH ((M k).map AV.str)
            obtain ⟨fam2, N2, q2⟩ := N1.box 15 [encSch y] false true
            have hb : (els ++ (M k).map AV.str).length + cntM d y ≤ 2 ^ 26 := by
              have := hMb k y hy
              simp only [List.length_append, List.length_map]
              omega
            have hc := ih (D - 1) (by omega) (by omega) y (by have := Sch.kids_bulk hym; omega) _ _ _ _ (C1.push 15 [encSch y] false _ (Nat.le_refl _)) (F1.push (Nat.le_refl _)) N2 hb
            have q3 : fam2 = fam ∨ (els = [] ∧ H.length ≤ fam2) := by
              rcases q2 with rfl | ⟨h1, h2⟩
              · exact .inl rfl
              · right
                have := List.append_eq_nil_iff.1 h1
                refine ⟨this.1, ?_⟩
                rw [show nextH H els ((M k).map AV.str) fam = H from (nextV_low (l := l) this.2).2 fam] at h2
                exact h2
            rw [encSch_eq] at hy2 hc
            (repeat' first | simp (disch := omega) only [go_sem, hy2, List.length_map, getP0, setP0, strike_box F1] | (refine call_of _ _ hc ?_) | (refine spl (fun h => ?_) (fun h => ?_) <;> try simp (disch := omega) only [go_sem, hy2, List.length_map, getP0, setP0, strike_box F1 , h]) | fail)
            all_goals first | omega | skip
            refine ⟨k + 1, ?_, hlt, by omega⟩
            rw [hMs k y hy, List.map_append]
            exact step_norm (S := fun a => slots 49 [(0, a), (2, .int .i64 D), (3, .bool true), (35, .tsl 15 (x.kids.map encSch)), (36, .int .i64 x.kids.length), (37, .int .i64 ((k + 1 : Nat) : Int))]) ⟨fun _ _ => rfl, fun a => List.append_nil _⟩ hH hC rfl q3 rfl
          · rw [← hMm k (by omega)]
            (repeat' first | simp (disch := omega) only [go_sem, List.length_map] | (refine spl (fun h => ?_) (fun h => ?_) <;> try simp (disch := omega) only [go_sem, List.length_map, h]) | fail)
            all_goals first | omega | skip
            exact post_next (.inr rfl) hH hC rfl
        | false =>
          refine runC_of ac491 rfl ?_
          (repeat' first | simp (disch := omega) only [go_sem, ac491, enter, List.length_map, getP0, getP1, List.length_append, List.append_assoc, Nat.add_assoc] | refine pure_of _ (hp) ?_ | (refine spl (fun h => ?_) (fun h => ?_) <;> try simp (disch := omega) only [go_sem, ac491, enter, List.length_map, getP0, getP1, List.length_append, List.append_assoc, Nat.add_assoc , h]) | fail)
          all_goals first | omega | skip
          refine loop_of (α := Nat) (fun k => { tmps := slots 49 [(0, nextV H (.snil 1) els ((M k).map .str)), (2, .int .i64 D), (3, .bool false), (35, .tsl 15 (x.kids.map encSch)), (36, .int .i64 x.kids.length), (37, .int .i64 k)], heap := nextH H els ((M k).map .str) fam, base := H.length }) (fun k => k ≤ x.kids.length) (fun k => x.kids.length - k) 0
            ?_ (Nat.zero_le _) ?_
          · show St.norm _ _ = _
            simp only [hM0]
            refine (norm_hold1 (rb := 0) (els := [.str x.s.name]) (fam := (H.length + 2)) (q := H.length + 2) (n := 1) (live := [0, 2, 3, 35, 36, 37]) (S := fun a => slots 49 [(0, a), (2, .int .i64 D), (3, .bool false), (35, .tsl 15 (x.kids.map encSch)), (36, .int .i64 x.kids.length), (37, .int .i64 (0 : Nat))]) (H := H) ⟨fun _ _ => rfl, fun a => List.append_nil _⟩ rfl hC ?_ ?_ (by omega) ?_).trans ?_
            · exact ro_cons rfl (ro_cons rfl (ro_cons rfl ro_nil))
            · rfl
            · simp
            · rw [if_neg (by omega)]
              simp [nextV, nextH, e2, e3]
          intro k hk
          by_cases hlt : k < x.kids.length
          · obtain ⟨y, hy⟩ := get_some hlt
            have hym := List.mem_of_getElem? hy
            have hy2 := map_get (g := encSch) hy
            obtain ⟨N1, F1⟩ := hH.next hF ((M k).map AV.str)
            rw [ite_self] at N1
            have C1 := Cl.next hC hH ((M k).map AV.str)
            obtain ⟨fam2, N2, q2⟩ := N1.box 15 [encSch y] false true
            have hb : (els ++ (M k).map AV.str).length + cntM d y ≤ 2 ^ 26 := by
              have := hMb k y hy
              simp only [List.length_append, List.length_map]
              omega
            have hc := ih (D - 1) (by omega) (by omega) y (by have := Sch.kids_bulk hym; omega) _ _ _ _ (C1.push 15 [encSch y] false _ (Nat.le_refl _)) (F1.push (Nat.le_refl _)) N2 hb
            have q3 : fam2 = fam ∨ (els = [] ∧ H.length ≤ fam2) := by
              rcases q2 with rfl | ⟨h1, h2⟩
              · exact .inl rfl
              · right
                have := List.append_eq_nil_iff.1 h1
                refine ⟨this.1, ?_⟩
                rw [show nextH H els ((M k).map AV.str) fam = H from (nextV_low (l := l) this.2).2 fam] at h2
                exact h2
            rw [encSch_eq] at hy2 hc
            (repeat' first | simp (disch := omega) only [go_sem, hy2, List.length_map, getP0, setP0, strike_box F1] | (refine call_of _ _ hc ?_) | (refine spl (fun h => ?_) (fun h => ?_) <;> try simp (disch := omega) only [go_sem, hy2, List.length_map, getP0, setP0, strike_box F1 , h]) | fail)
            all_goals first | omega | skip
            refine ⟨k + 1, ?_, hlt, by omega⟩
            rw [hMs k y hy, List.map_append]
            exact step_norm (S := fun a => slots 49 [(0, a), (2, .int .i64 D), (3, .bool false), (35, .tsl 15 (x.kids.map encSch)), (36, .int .i64 x.kids.length), (37, .int .i64 ((k + 1 : Nat) : Int))]) ⟨fun _ _ => rfl, fun a => List.append_nil _⟩ hH hC rfl q3 rfl
          · rw [← hMm k (by omega)]
            (repeat' first | simp (disch := omega) only [go_sem, List.length_map] | (refine spl (fun h => ?_) (fun h => ?_) <;> try simp (disch := omega) only [go_sem, List.length_map, h]) | fail)
            all_goals first | omega | skip
            exact post_next (.inr rfl) hH hC rfl
      · rw [e1] at hH ⊢
        have hs2 := strike_two e3 e5
        cases o with
        | true =>
          refine runC_of ac491 rfl ?_
          (repeat' first | simp (disch := omega) only [go_sem, ac491, enter, List.length_map, getP0, getP1, List.length_append, List.append_assoc, Nat.add_assoc, getL, e2, hs2] | refine pure_of _ (hp) ?_ | (refine spl (fun h => ?_) (fun h => ?_) <;> try simp (disch := omega) only [go_sem, ac491, enter, List.length_map, getP0, getP1, List.length_append, List.append_assoc, Nat.add_assoc, getL, e2, hs2 , h]) | fail)
          all_goals first | omega | skip
          refine loop_of (α := Nat) (fun k => { tmps := slots 49 [(0, nextV H (.sref 1 r 0 els.length) els ((M k).map .str)), (2, .int .i64 D), (3, .bool true), (35, .tsl 15 (x.kids.map encSch)), (36, .int .i64 x.kids.length), (37, .int .i64 k)], heap := nextH H els ((M k).map .str) fam, base := H.length }) (fun k => k ≤ x.kids.length) (fun k => x.kids.length - k) 0
            ?_ (Nat.zero_le _) ?_
          · show St.norm _ _ = _
            simp only [hM0]
            refine (norm_hold1 (rb := 0) (els := els ++ [.str x.s.name]) (fam := fam) (q := H.length + 2) (n := els.length + 1) (live := [0, 2, 3, 35, 36, 37]) (S := fun a => slots 49 [(0, a), (2, .int .i64 D), (3, .bool true), (35, .tsl 15 (x.kids.map encSch)), (36, .int .i64 x.kids.length), (37, .int .i64 (0 : Nat))]) (H := H) ⟨fun _ _ => rfl, fun a => List.append_nil _⟩ rfl hC ?_ ?_ (by omega) ?_).trans ?_
            · exact ro_cons rfl (ro_cons rfl (ro_cons rfl ro_nil))
            · rfl
            · simp
            · rw [if_pos e3]
              simp [nextV, nextH, e2, e3]
          intro k hk
          by_cases hlt : k < x.kids.length
          · obtain ⟨y, hy⟩ := get_some hlt
            have hym := List.mem_of_getElem? hy
            have hy2 := map_get (g := encSch) hy
            obtain ⟨N1, F1⟩ := hH.next hF ((M k).map AV.str)
            rw [ite_self] at N1
            have C1 := Cl.next hC hH ((M k).map AV.str)
            obtain ⟨fam2, N2, q2⟩ := N1.box 15 [encSch y] false true
            have hb : (els ++ (M k).map AV.str).length + cntM d y ≤ 2 ^ 26 := by
              have := hMb k y hy
              simp only [List.length_append, List.length_map]
              omega
            have hc := ih (D - 1) (by omega) (by omega) y (by have := Sch.kids_bulk hym; omega) _ _ _ _ (C1.push 15 [encSch y] false _ (Nat.le_refl _)) (F1.push (Nat.le_refl _)) N2 hb
            have q3 : fam2 = fam ∨ (els = [] ∧ H.length ≤ fam2) := by
              rcases q2 with rfl | ⟨h1, h2⟩
              · exact .inl rfl
              · right
                have := List.append_eq_nil_iff.1 h1
                refine ⟨this.1, ?_⟩
                rw [show nextH H els ((M k).map AV.str) fam = H from (nextV_low (l := l) this.2).2 fam] at h2
                exact h2
            rw [encSch_eq] at hy2 hc
            (repeat' first | simp (disch := omega) only [go_sem, hy2, List.length_map, getP0, setP0, strike_box F1] | (refine call_of _ _ hc ?_) | (refine spl (fun h => ?_) (fun h => ?_) <;> try simp (disch := omega) only [go_sem, hy2, List.length_map, getP0, setP0, strike_box F1 , h]) | fail)
            all_goals first | omega | skip
            refine ⟨k + 1, ?_, hlt, by omega⟩
            rw [hMs k y hy, List.map_append]
            exact step_norm (S := fun a => slots 49 [(0, a), (2, .int .i64 D), (3, .bool true), (35, .tsl 15 (x.kids.map encSch)), (36, .int .i64 x.kids.length), (37, .int .i64 ((k + 1 : Nat) : Int))]) ⟨fun _ _ => rfl, fun a => List.append_nil _⟩ hH hC rfl q3 rfl
          · rw [← hMm k (by omega)]
            (repeat' first | simp (disch := omega) only [go_sem, List.length_map] | (refine spl (fun h => ?_) (fun h => ?_) <;> try simp (disch := omega) only [go_sem, List.length_map, h]) | fail)
            all_goals first | omega | skip
            exact post_next (.inr rfl) hH hC rfl
        | false =>
          refine runC_of ac491 rfl ?_
          (repeat' first | simp (disch := omega) only [go_sem, ac491, enter, List.length_map, getP0, getP1, List.length_append, List.append_assoc, Nat.add_assoc, getL, e2, hs2] | refine pure_of _ (hp) ?_ | (refine spl (fun h => ?_) (fun h => ?_) <;> try simp (disch := omega) only [go_sem, ac491, enter, List.length_map, getP0, getP1, List.length_append, List.append_assoc, Nat.add_assoc, getL, e2, hs2 , h]) | fail)
          all_goals first | omega | skip
          refine loop_of (α := Nat) (fun k => { tmps := slots 49 [(0, nextV H (.sref 1 r 0 els.length) els ((M k).map .str)), (2, .int .i64 D), (3, .bool false), (35, .tsl 15 (x.kids.map encSch)), (36, .int .i64 x.kids.length), (37, .int .i64 k)], heap := nextH H els ((M k).map .str) fam, base := H.length }) (fun k => k ≤ x.kids.length) (fun k => x.kids.length - k) 0
            ?_ (Nat.zero_le _) ?_
          · show St.norm _ _ = _
            simp only [hM0]
            refine (norm_hold1 (rb := 0) (els := els ++ [.str x.s.name]) (fam := fam) (q := H.length + 2) (n := els.length + 1) (live := [0, 2, 3, 35, 36, 37]) (S := fun a => slots 49 [(0, a), (2, .int .i64 D), (3, .bool false), (35, .tsl 15 (x.kids.map encSch)), (36, .int .i64 x.kids.length), (37, .int .i64 (0 : Nat))]) (H := H) ⟨fun _ _ => rfl, fun a => List.append_nil _⟩ rfl hC ?_ ?_ (by omega) ?_).trans ?_
            · exact ro_cons rfl (ro_cons rfl (ro_cons rfl ro_nil))
            · rfl
            · simp
            · rw [if_pos e3]
              simp [nextV, nextH, e2, e3]
          intro k hk
          by_cases hlt : k < x.kids.length
          · obtain ⟨y, hy⟩ := get_some hlt
            have hym := List.mem_of_getElem? hy
            have hy2 := map_get (g := encSch) hy
            obtain ⟨N1, F1⟩ := hH.next hF ((M k).map AV.str)
            rw [ite_self] at N1
            have C1 := Cl.next hC hH ((M k).map AV.str)
            obtain ⟨fam2, N2, q2⟩ := N1.box 15 [encSch y] false true
            have hb : (els ++ (M k).map AV.str).length + cntM d y ≤ 2 ^ 26 := by
              have := hMb k y hy
              simp only [List.length_append, List.length_map]
              omega
            have hc := ih (D - 1) (by omega) (by omega) y (by have := Sch.kids_bulk hym; omega) _ _ _ _ (C1.push 15 [encSch y] false _ (Nat.le_refl _)) (F1.push (Nat.le_refl _)) N2 hb
            have q3 : fam2 = fam ∨ (els = [] ∧ H.length ≤ fam2) := by
              rcases q2 with rfl | ⟨h1, h2⟩
              · exact .inl rfl
              · right
                have := List.append_eq_nil_iff.1 h1
                refine ⟨this.1, ?_⟩
                rw [show nextH H els ((M k).map AV.str) fam = H from (nextV_low (l := l) this.2).2 fam] at h2
                exact h2
            rw [encSch_eq] at hy2 hc
            (repeat' first | simp (disch := omega) only [go_sem, hy2, List.length_map, getP0, setP0, strike_box F1] | (refine call_of _ _ hc ?_) | (refine spl (fun h => ?_) (fun h => ?_) <;> try simp (disch := omega) only [go_sem, hy2, List.length_map, getP0, setP0, strike_box F1 , h]) | fail)
            all_goals first | omega | skip
            refine ⟨k + 1, ?_, hlt, by omega⟩
            rw [hMs k y hy, List.map_append]
            exact step_norm (S := fun a => slots 49 [(0, a), (2, .int .i64 D), (3, .bool false), (35, .tsl 15 (x.kids.map encSch)), (36, .int .i64 x.kids.length), (37, .int .i64 ((k + 1 : Nat) : Int))]) ⟨fun _ _ => rfl, fun a => List.append_nil _⟩ hH hC rfl q3 rfl
          · rw [← hMm k (by omega)]
            (repeat' first | simp (disch := omega) only [go_sem, List.length_map] | (refine spl (fun h => ?_) (fun h => ?_) <;> try simp (disch := omega) only [go_sem, List.length_map, h]) | fail)
            all_goals first | omega | skip
            exact post_next (.inr rfl) hH hC rfl
    by_cases ho : o = true ∧ (x.s.op = 9 ∨ x.s.op = 10)
    · rw [if_neg h14, if_pos ho]
      simp only [nextV, nextH, List.map_nil, List.append_nil, if_true]
      rw [encSch_eq]
      obtain ⟨rfl, ho⟩ := ho
      refine runC_of ac491 rfl ?_
      (repeat' first | simp (disch := omega) only [go_sem, ac491, enter, List.length_map, getP0] | (refine spl (fun h => ?_) (fun h => ?_) <;> try simp (disch := omega) only [go_sem, ac491, enter, List.length_map, getP0, h]) | fail)
      all_goals first | omega | skip
      all_goals exact post_hold0 (.inr rfl) rfl rfl hC (ro_cons rfl ro_nil) hH.low.1 hH.low.2
    rw [if_neg h14, if_neg ho, List.nil_append]
    rw [encSch_eq] at hp ⊢
    refine runC_of ac491 rfl ?_
    have hno : ∀ b : Bool, o = b → b = true → ¬ x.s.op = 9 ∧ ¬ x.s.op = 10 := by
      rintro b rfl h
      constructor <;> (intro h2; exact ho ⟨h, by omega⟩)
    obtain ⟨M, hM⟩ : ∃ M : Nat → List (List UInt8), ∀ k, M k = (x.kids.take k).flatMap (refsM o d) := ⟨_, fun _ => rfl⟩
    have hM0 : M 0 = [] := by rw [hM]; rfl
    have hMs : ∀ k y, x.kids[k]? = some y → M (k + 1) = M k ++ refsM o d y := fun k y hy => by
      rw [hM, hM, List.take_add_one, hy]
      simp
    have hMm : ∀ k, x.kids.length ≤ k → (M k).map AV.str = (x.kids.flatMap (refsM o d)).map AV.str := fun k hk => by rw [hM, List.take_of_length_le hk]
    have hMb : ∀ k y, x.kids[k]? = some y → els.length + (M k).length + cntM d y ≤ 2 ^ 26 := fun k y hy => by
      have h1 : (M k).length ≤ ((x.kids.take k).map (cntM d)).sum := by
        rw [hM, List.length_flatMap]
        exact sum_le _ fun z _ => refs_len o d z
      have h2 := sum_take (cntM d) x.kids k y hy
      have h3 := sum_take_le (cntM d) x.kids (k + 1)
      rw [cntM_succ] at hl
      omega
    cases o with
    | true =>
      obtain ⟨h9, h10⟩ := hno true rfl rfl
      (repeat' first | simp (disch := omega) only [go_sem, ac491, enter, List.length_map, getP0] | refine pure_of _ (hp) ?_ | (refine spl (fun h => ?_) (fun h => ?_) <;> try simp (disch := omega) only [go_sem, ac491, enter, List.length_map, getP0 , h]) | fail)
      all_goals first | omega | skip
      refine loop_of (α := Nat) (fun k => { tmps := slots 49 [(0, nextV H l els ((M k).map .str)), (2, .int .i64 D), (3, .bool true), (35, .tsl 15 (x.kids.map encSch)), (36, .int .i64 x.kids.length), (37, .int .i64 k)], heap := nextH H els ((M k).map .str) fam, base := H.length }) (fun k => k ≤ x.kids.length) (fun k => x.kids.length - k) 0
        (by
          rw [hM0]
          exact norm_hold0 (S := fun a => slots 49 [(0, a), (2, .int .i64 D), (3, .bool true), (35, .tsl 15 (x.kids.map encSch)), (36, .int .i64 x.kids.length), (37, .int .i64 (0 : Nat))]) ⟨fun _ _ => rfl, fun a => List.append_nil _⟩ rfl hC (ro_cons rfl ro_nil) rfl hH.low.1 hH.low.2) (Nat.zero_le _) ?_
      intro k hk
      by_cases hlt : k < x.kids.length
      · obtain ⟨y, hy⟩ := get_some hlt
        have hym := List.mem_of_getElem? hy
        have hy2 := map_get (g := encSch) hy
        obtain ⟨N1, F1⟩ := hH.next hF ((M k).map AV.str)
        rw [ite_self] at N1
        have C1 := Cl.next hC hH ((M k).map AV.str)
        obtain ⟨fam2, N2, q2⟩ := N1.box 15 [encSch y] false true
        have hb : (els ++ (M k).map AV.str).length + cntM d y ≤ 2 ^ 26 := by
          have := hMb k y hy
          simp only [List.length_append, List.length_map]
          omega
        have hc := ih (D - 1) (by omega) (by omega) y (by have := Sch.kids_bulk hym; omega) _ _ _ _ (C1.push 15 [encSch y] false _ (Nat.le_refl _)) (F1.push (Nat.le_refl _)) N2 hb
        have q3 : fam2 = fam ∨ (els = [] ∧ H.length ≤ fam2) := by
          rcases q2 with rfl | ⟨h1, h2⟩
          · exact .inl rfl
          · right
            have := List.append_eq_nil_iff.1 h1
            refine ⟨this.1, ?_⟩
            rw [show nextH H els ((M k).map AV.str) fam = H from (nextV_low (l := l) this.2).2 fam] at h2
            exact h2
        rw [encSch_eq] at hy2 hc
        (repeat' first | simp (disch := omega) only [go_sem, hy2, List.length_map, getP0, setP0, strike_box F1] | (refine call_of _ _ hc ?_) | (refine spl (fun h => ?_) (fun h => ?_) <;> try simp (disch := omega) only [go_sem, hy2, List.length_map, getP0, setP0, strike_box F1 , h]) | fail)
        all_goals first | omega | skip
        refine ⟨k + 1, ?_, hlt, by omega⟩
        rw [hMs k y hy, List.map_append]
        exact step_norm (S := fun a => slots 49 [(0, a), (2, .int .i64 D), (3, .bool true), (35, .tsl 15 (x.kids.map encSch)), (36, .int .i64 x.kids.length), (37, .int .i64 ((k + 1 : Nat) : Int))]) ⟨fun _ _ => rfl, fun a => List.append_nil _⟩ hH hC rfl q3 rfl
      · rw [← hMm k (by omega)]
        (repeat' first | simp (disch := omega) only [go_sem, List.length_map] | (refine spl (fun h => ?_) (fun h => ?_) <;> try simp (disch := omega) only [go_sem, List.length_map, h]) | fail)
        all_goals first | omega | skip
        exact post_next (.inr rfl) hH hC rfl
    | false =>
      (repeat' first | simp (disch := omega) only [go_sem, ac491, enter, List.length_map, getP0] | refine pure_of _ (hp) ?_ | (refine spl (fun h => ?_) (fun h => ?_) <;> try simp (disch := omega) only [go_sem, ac491, enter, List.length_map, getP0 , h]) | fail)
      all_goals first | omega | skip
      refine loop_of (α := Nat) (fun k => { tmps := slots 49 [(0, nextV H l els ((M k).map .str)), (2, .int .i64 D), (3, .bool false), (35, .tsl 15 (x.kids.map encSch)), (36, .int .i64 x.kids.length), (37, .int .i64 k)], heap := nextH H els ((M k).map .str) fam, base := H.length }) (fun k => k ≤ x.kids.length) (fun k => x.kids.length - k) 0
        (by
          rw [hM0]
          exact norm_hold0 (S := fun a => slots 49 [(0, a), (2, .int .i64 D), (3, .bool false), (35, .tsl 15 (x.kids.map encSch)), (36, .int .i64 x.kids.length), (37, .int .i64 (0 : Nat))]) ⟨fun _ _ => rfl, fun a => List.append_nil _⟩ rfl hC (ro_cons rfl ro_nil) rfl hH.low.1 hH.low.2) (Nat.zero_le _) ?_
      intro k hk
      by_cases hlt : k < x.kids.length
      · obtain ⟨y, hy⟩ := get_some hlt
        have hym := List.mem_of_getElem? hy
        have hy2 := map_get (g := encSch) hy
        obtain ⟨N1, F1⟩ := hH.next hF ((M k).map AV.str)
        rw [ite_self] at N1
        have C1 := Cl.next hC hH ((M k).map AV.str)
        obtain ⟨fam2, N2, q2⟩ := N1.box 15 [encSch y] false true
        have hb : (els ++ (M k).map AV.str).length + cntM d y ≤ 2 ^ 26 := by
          have := hMb k y hy
          simp only [List.length_append, List.length_map]
          omega
        have hc := ih (D - 1) (by omega) (by omega) y (by have := Sch.kids_bulk hym; omega) _ _ _ _ (C1.push 15 [encSch y] false _ (Nat.le_refl _)) (F1.push (Nat.le_refl _)) N2 hb
        have q3 : fam2 = fam ∨ (els = [] ∧ H.length ≤ fam2) := by
          rcases q2 with rfl | ⟨h1, h2⟩
          · exact .inl rfl
          · right
            have := List.append_eq_nil_iff.1 h1
            refine ⟨this.1, ?_⟩
            rw [show nextH H els ((M k).map AV.str) fam = H from (nextV_low (l := l) this.2).2 fam] at h2
            exact h2
        rw [encSch_eq] at hy2 hc
        (repeat' first | simp (disch := omega) only [go_sem, hy2, List.length_map, getP0, setP0, strike_box F1] | (refine call_of _ _ hc ?_) | (refine spl (fun h => ?_) (fun h => ?_) <;> try simp (disch := omega) only [go_sem, hy2, List.length_map, getP0, setP0, strike_box F1 , h]) | fail)
        all_goals first | omega | skip
        refine ⟨k + 1, ?_, hlt, by omega⟩
        rw [hMs k y hy, List.map_append]
        exact step_norm (S := fun a => slots 49 [(0, a), (2, .int .i64 D), (3, .bool false), (35, .tsl 15 (x.kids.map encSch)), (36, .int .i64 x.kids.length), (37, .int .i64 ((k + 1 : Nat) : Int))]) ⟨fun _ _ => rfl, fun a => List.append_nil _⟩ hH hC rfl q3 rfl
      · rw [← hMm k (by omega)]
        (repeat' first | simp (disch := omega) only [go_sem, List.length_map] | (refine spl (fun h => ?_) (fun h => ?_) <;> try simp (disch := omega) only [go_sem, List.length_map, h]) | fail)
        all_goals first | omega | skip
        exact post_next (.inr rfl) hH hC rfl
end Ago
/- Lists of names: with, names, Compact, comparison. -/
set_option maxRecDepth 100000
set_option maxHeartbeats 4000000
namespace Ago
open Go (IntKind)
open Go.Op (bytesLess)
/-- An ascending list with a further string. -/
def withM (l : List (List UInt8)) (s : List UInt8) : List (List UInt8) := l.takeWhile (fun x => bytesLess x s) ++ s :: (l.dropWhile fun x => bytesLess x s).filter fun x => !(x == s)
theorem take_while_at {α : Type} (p : α → Bool) : ∀ (l : List α) (k : Nat), k ≤ l.length → (l.take k).all p = true → (∀ y, l[k]? = some y → p y = false) → l.takeWhile p = l.take k ∧ l.dropWhile p = l.drop k
  | [], k, _, _, _ => by simp
  | x :: l, 0, _, _, h => by
    have := h x rfl
    simp [this]
  | x :: l, k + 1, hk, ha, h => by
    simp only [List.take_succ_cons, List.all_cons, Bool.and_eq_true] at ha
    obtain ⟨h1, h2⟩ := take_while_at p l k (by simpa using hk) ha.2 (fun y hy => h y (by simpa using hy))
    simp [ha.1, h1, h2]
theorem take_all_iff {α : Type} (p : α → Bool) {l : List α} {k : Nat} {y : α} (hy : l[k]? = some y) (ha : (l.take k).all p = true) (hp : p y = true) : (l.take (k + 1)).all p = true := take_succ_all hy ha hp
theorem with_run (l : List (List UInt8)) (s : List UInt8) (hl : l.length < 2 ^ 30) : PRun CS 521 [.tsl 1 (l.map .str), .str s] (.tsl 1 ((withM l s).map .str)) := by
  refine prun_of ac521 rfl ?_
  (repeat' first | simp (disch := omega) only [go_sem, ac521, enter, List.length_map] | (refine spl (fun h => ?_) (fun h => ?_) <;> try simp (disch := omega) only [go_sem, ac521, enter, List.length_map, h]) | fail)
  refine loop_of (α := Nat) (fun k => { tmps := slots 52 [(0, .tsl 1 (l.map .str)), (1, .str s), (5, outSl 1 0 ((l.take k).map .str)), (6, .int .i64 k)], heap := outHp 1 0 ((l.take k).map .str), base := 0 }) (fun k => k ≤ l.length ∧ (l.take k).all (fun x => bytesLess x s) = true) (fun k => l.length - k) 0 rfl ⟨Nat.zero_le _, rfl⟩ ?_
  rintro k ⟨hk, ha⟩
  have key : ∀ k, k ≤ l.length → (l.take k).all (fun x => bytesLess x s) = true → (∀ y, l[k]? = some y → bytesLess y s = false) → withM l s = l.take k ++ s :: (l.drop k).filter (fun x => !(x == s)) := fun k hk ha h => by
    obtain ⟨h1, h2⟩ := take_while_at (fun x => bytesLess x s) l k hk ha h
    unfold withM
    rw [h1, h2]
  by_cases hc : ∃ y, l[k]? = some y ∧ bytesLess y s = true
  · obtain ⟨y, hy, hb⟩ := hc
    have hlt : k < l.length := (List.getElem?_eq_some_iff.1 hy).1
    have hy2 := map_get (g := AV.str) hy
    have hlen : (l.take k).length = k := by simp; omega
    have hnext : (l.take (k + 1)).map AV.str = (l.take k).map AV.str ++ [.str y] := by rw [List.take_add_one, hy]; simp
    obtain ⟨out, hout⟩ : ∃ out, (l.take k).map AV.str = out := ⟨_, rfl⟩
    have hol : out.length = k := by rw [← hout]; simp; omega
    rw [hout] at hnext ⊢
    cases out with
    | nil =>
      (repeat' first | simp (disch := omega) only [go_sem, hy2, hb, outSl, outHp, List.length_map] | (refine spl (fun h => ?_) (fun h => ?_) <;> try simp (disch := omega) only [go_sem, hy2, hb, outSl, outHp, List.length_map, h]) | fail)
      all_goals first | omega | skip
      refine ⟨k + 1, ?_, ⟨hlt, take_all_iff _ hy ha hb⟩, by omega⟩
      simp only [hnext]
      rfl
    | cons z out =>
      simp only [List.length_cons] at hol
      (repeat' first | simp (disch := omega) only [go_sem, hy2, hb, outSl, outHp, List.length_map] | (refine spl (fun h => ?_) (fun h => ?_) <;> try simp (disch := omega) only [go_sem, hy2, hb, outSl, outHp, List.length_map, h]) | fail)
      all_goals first | omega | skip
      refine ⟨k + 1, ?_, ⟨hlt, take_all_iff _ hy ha hb⟩, by omega⟩
      simp only [hnext, List.cons_append, outSl, outHp, List.length_append, List.length_cons, List.length_nil]
      rfl
  · have hno : ∀ y, l[k]? = some y → bytesLess y s = false := fun y hy => by
      cases h : bytesLess y s with
      | false => rfl
      | true => exact (hc ⟨y, hy, h⟩).elim
    have hw := key k hk ha hno
    rw [hw]
    obtain ⟨G, hG⟩ : ∃ G : Nat → List (List UInt8), ∀ j, G j = l.take k ++ s :: ((l.take j).drop k).filter (fun x => !(x == s)) := ⟨_, fun _ => rfl⟩
    have hG0 : (G k).map AV.str = (l.take k).map .str ++ [.str s] := by rw [hG]; simp
    have hGe : ∀ j, l.length ≤ j → G j = l.take k ++ s :: (l.drop k).filter (fun x => !(x == s)) := fun j hj => by rw [hG, List.take_of_length_le hj]
    have hGs : ∀ j y, k ≤ j → l[j]? = some y → (G (j + 1)).map AV.str = (G j).map .str ++ (if y = s then [] else [.str y]) := fun j y hj hy => by
      have h1 : j < l.length := (List.getElem?_eq_some_iff.1 hy).1
      rw [hG, hG, List.take_add_one, hy, List.drop_append_of_le_length (by simp; omega)]
      by_cases h : y = s
      · simp [h]
      · simp [h]
    have hGl : ∀ j, (G j).length ≤ j + 1 ∨ j < k := fun j => by
      rcases Nat.lt_or_ge j k with h | h
      · exact .inr h
      · left
        rw [hG]
        have := List.length_filter_le (fun x => !(x == s)) ((l.take j).drop k)
        simp only [List.length_append, List.length_cons, List.length_take, List.length_drop] at this ⊢
        omega
    have hGn : ∀ j, ∃ z zs, (G j).map AV.str = z :: zs := fun j => by
      rw [hG]
      cases l.take k with
      | nil => exact ⟨_, _, rfl⟩
      | cons a b => exact ⟨_, _, rfl⟩
    obtain ⟨out, hout⟩ : ∃ out, (l.take k).map AV.str = out := ⟨_, rfl⟩
    have hol : out.length = k := by rw [← hout]; simp; omega
    rw [hout] at hG0 ⊢
    cases out with
    | nil =>
      simp only [List.length_nil] at hol
      subst hol
      by_cases hlt : 0 < l.length
      · obtain ⟨y, hy⟩ := get_some hlt
        have hy2 := map_get (g := AV.str) hy
        have hb := hno y hy
        (repeat' first | simp (disch := omega) only [go_sem, hy2, hb, outSl, outHp, List.length_map] | (refine spl (fun h => ?_) (fun h => ?_) <;> try simp (disch := omega) only [go_sem, hy2, hb, outSl, outHp, List.length_map, h]) | fail)
        all_goals first | omega | skip
        refine loop_of (α := Nat) (fun j => { tmps := slots 52 [(0, .tsl 1 (l.map .str)), (1, .str s), (5, .sref 1 0 0 (G j).length), (6, .int .i64 j)], heap := [.row 1 ((G j).map .str) false true 0], base := 0 }) (fun j => j ≤ l.length ∧ 0 ≤ j) (fun j => l.length - j) 0 (by
          have hGk : (G 0).length = 0 + 1 := by
            have := congrArg List.length hG0
            simp at this
            omega
          simp only [hG0, hGk]
          try rfl) ⟨hk, Nat.le_refl _⟩ ?_
        rintro j ⟨hj, hkj⟩
        have hgl := hGl j
        by_cases hlt : j < l.length
        · obtain ⟨y, hy⟩ := get_some hlt
          have hy2 := map_get (g := AV.str) hy
          have hgs := hGs j y hkj hy
          have hgl2 : (G (j + 1)).length = (G j).length + (if y = s then 0 else 1) := by
            have := congrArg List.length hgs
            split at this <;> simp at this <;> split <;> simp_all
          by_cases hys : y = s
          · have hyb : (y == s) = true := by simp [hys]
            rw [if_pos hys] at hgs hgl2
            (repeat' first | simp (disch := omega) only [go_sem, hy2, hyb, List.length_map] | (refine spl (fun h => ?_) (fun h => ?_) <;> try simp (disch := omega) only [go_sem, hy2, hyb, List.length_map, h]) | fail)
            all_goals first | omega | skip
            all_goals (refine ⟨j + 1, ?_, (by first | exact ⟨hlt, by omega⟩ | exact hlt), by omega⟩; simp only [hgs, hgl2, List.append_nil, Nat.add_zero]; try rfl)
          · have hyb : (y == s) = false := by simp [hys]
            rw [if_neg hys] at hgs hgl2
            (repeat' first | simp (disch := omega) only [go_sem, hy2, hyb, List.length_map] | (refine spl (fun h => ?_) (fun h => ?_) <;> try simp (disch := omega) only [go_sem, hy2, hyb, List.length_map, h]) | fail)
            all_goals first | omega | skip
            all_goals (refine ⟨j + 1, ?_, (by first | exact ⟨hlt, by omega⟩ | exact hlt), by omega⟩; simp only [hgs, hgl2]; try rfl)
        · rw [← hGe j (by omega)]
          have hgl3 := List.take_of_length_le (l := (G j).map AV.str) (i := (G j).length) (by simp)
          (repeat' first | simp (disch := omega) only [go_sem, List.length_map, hgl3] | (refine spl (fun h => ?_) (fun h => ?_) <;> try simp (disch := omega) only [go_sem, List.length_map, hgl3, h]) | fail)
          all_goals first | omega | skip
      · (repeat' first | simp (disch := omega) only [go_sem, outSl, outHp, List.length_map] | (refine spl (fun h => ?_) (fun h => ?_) <;> try simp (disch := omega) only [go_sem, outSl, outHp, List.length_map, h]) | fail)
        all_goals first | omega | skip
        refine loop_of (α := Nat) (fun j => { tmps := slots 52 [(0, .tsl 1 (l.map .str)), (1, .str s), (5, .sref 1 0 0 (G j).length), (6, .int .i64 j)], heap := [.row 1 ((G j).map .str) false true 0], base := 0 }) (fun j => j ≤ l.length ∧ 0 ≤ j) (fun j => l.length - j) 0 (by
          have hGk : (G 0).length = 0 + 1 := by
            have := congrArg List.length hG0
            simp at this
            omega
          simp only [hG0, hGk]
          try rfl) ⟨hk, Nat.le_refl _⟩ ?_
        rintro j ⟨hj, hkj⟩
        have hgl := hGl j
        by_cases hlt : j < l.length
        · obtain ⟨y, hy⟩ := get_some hlt
          have hy2 := map_get (g := AV.str) hy
          have hgs := hGs j y hkj hy
          have hgl2 : (G (j + 1)).length = (G j).length + (if y = s then 0 else 1) := by
            have := congrArg List.length hgs
            split at this <;> simp at this <;> split <;> simp_all
          by_cases hys : y = s
          · have hyb : (y == s) = true := by simp [hys]
            rw [if_pos hys] at hgs hgl2
            (repeat' first | simp (disch := omega) only [go_sem, hy2, hyb, List.length_map] | (refine spl (fun h => ?_) (fun h => ?_) <;> try simp (disch := omega) only [go_sem, hy2, hyb, List.length_map, h]) | fail)
            all_goals first | omega | skip
            all_goals (refine ⟨j + 1, ?_, (by first | exact ⟨hlt, by omega⟩ | exact hlt), by omega⟩; simp only [hgs, hgl2, List.append_nil, Nat.add_zero]; try rfl)
          · have hyb : (y == s) = false := by simp [hys]
            rw [if_neg hys] at hgs hgl2
            (repeat' first | simp (disch := omega) only [go_sem, hy2, hyb, List.length_map] | (refine spl (fun h => ?_) (fun h => ?_) <;> try simp (disch := omega) only [go_sem, hy2, hyb, List.length_map, h]) | fail)
            all_goals first | omega | skip
            all_goals (refine ⟨j + 1, ?_, (by first | exact ⟨hlt, by omega⟩ | exact hlt), by omega⟩; simp only [hgs, hgl2]; try rfl)
        · rw [← hGe j (by omega)]
          have hgl3 := List.take_of_length_le (l := (G j).map AV.str) (i := (G j).length) (by simp)
          (repeat' first | simp (disch := omega) only [go_sem, List.length_map, hgl3] | (refine spl (fun h => ?_) (fun h => ?_) <;> try simp (disch := omega) only [go_sem, List.length_map, hgl3, h]) | fail)
          all_goals first | omega | skip
    | cons z out =>
      simp only [List.length_cons] at hol
      subst hol
      by_cases hlt : out.length + 1 < l.length
      · obtain ⟨y, hy⟩ := get_some hlt
        have hy2 := map_get (g := AV.str) hy
        have hb := hno y hy
        (repeat' first | simp (disch := omega) only [go_sem, hy2, hb, outSl, outHp, List.length_map] | (refine spl (fun h => ?_) (fun h => ?_) <;> try simp (disch := omega) only [go_sem, hy2, hb, outSl, outHp, List.length_map, h]) | fail)
        all_goals first | omega | skip
        refine loop_of (α := Nat) (fun j => { tmps := slots 52 [(0, .tsl 1 (l.map .str)), (1, .str s), (5, .sref 1 0 0 (G j).length), (6, .int .i64 j)], heap := [.row 1 ((G j).map .str) false true 0], base := 0 }) (fun j => j ≤ l.length ∧ (out.length + 1) ≤ j) (fun j => l.length - j) (out.length + 1) (by
          have hGk : (G (out.length + 1)).length = (out.length + 1) + 1 := by
            have := congrArg List.length hG0
            simp at this
            omega
          simp only [hG0, hGk]
          try rfl) ⟨hk, Nat.le_refl _⟩ ?_
        rintro j ⟨hj, hkj⟩
        have hgl := hGl j
        by_cases hlt : j < l.length
        · obtain ⟨y, hy⟩ := get_some hlt
          have hy2 := map_get (g := AV.str) hy
          have hgs := hGs j y hkj hy
          have hgl2 : (G (j + 1)).length = (G j).length + (if y = s then 0 else 1) := by
            have := congrArg List.length hgs
            split at this <;> simp at this <;> split <;> simp_all
          by_cases hys : y = s
          · have hyb : (y == s) = true := by simp [hys]
            rw [if_pos hys] at hgs hgl2
            (repeat' first | simp (disch := omega) only [go_sem, hy2, hyb, List.length_map] | (refine spl (fun h => ?_) (fun h => ?_) <;> try simp (disch := omega) only [go_sem, hy2, hyb, List.length_map, h]) | fail)
            all_goals first | omega | skip
            all_goals (refine ⟨j + 1, ?_, (by first | exact ⟨hlt, by omega⟩ | exact hlt), by omega⟩; simp only [hgs, hgl2, List.append_nil, Nat.add_zero]; try rfl)
          · have hyb : (y == s) = false := by simp [hys]
            rw [if_neg hys] at hgs hgl2
            (repeat' first | simp (disch := omega) only [go_sem, hy2, hyb, List.length_map] | (refine spl (fun h => ?_) (fun h => ?_) <;> try simp (disch := omega) only [go_sem, hy2, hyb, List.length_map, h]) | fail)
            all_goals first | omega | skip
            all_goals (refine ⟨j + 1, ?_, (by first | exact ⟨hlt, by omega⟩ | exact hlt), by omega⟩; simp only [hgs, hgl2]; try rfl)
        · rw [← hGe j (by omega)]
          have hgl3 := List.take_of_length_le (l := (G j).map AV.str) (i := (G j).length) (by simp)
          (repeat' first | simp (disch := omega) only [go_sem, List.length_map, hgl3] | (refine spl (fun h => ?_) (fun h => ?_) <;> try simp (disch := omega) only [go_sem, List.length_map, hgl3, h]) | fail)
          all_goals first | omega | skip
      · (repeat' first | simp (disch := omega) only [go_sem, outSl, outHp, List.length_map] | (refine spl (fun h => ?_) (fun h => ?_) <;> try simp (disch := omega) only [go_sem, outSl, outHp, List.length_map, h]) | fail)
        all_goals first | omega | skip
        refine loop_of (α := Nat) (fun j => { tmps := slots 52 [(0, .tsl 1 (l.map .str)), (1, .str s), (5, .sref 1 0 0 (G j).length), (6, .int .i64 j)], heap := [.row 1 ((G j).map .str) false true 0], base := 0 }) (fun j => j ≤ l.length ∧ (out.length + 1) ≤ j) (fun j => l.length - j) (out.length + 1) (by
          have hGk : (G (out.length + 1)).length = (out.length + 1) + 1 := by
            have := congrArg List.length hG0
            simp at this
            omega
          simp only [hG0, hGk]
          try rfl) ⟨hk, Nat.le_refl _⟩ ?_
        rintro j ⟨hj, hkj⟩
        have hgl := hGl j
        by_cases hlt : j < l.length
        · obtain ⟨y, hy⟩ := get_some hlt
          have hy2 := map_get (g := AV.str) hy
          have hgs := hGs j y hkj hy
          have hgl2 : (G (j + 1)).length = (G j).length + (if y = s then 0 else 1) := by
            have := congrArg List.length hgs
            split at this <;> simp at this <;> split <;> simp_all
          by_cases hys : y = s
          · have hyb : (y == s) = true := by simp [hys]
            rw [if_pos hys] at hgs hgl2
            (repeat' first | simp (disch := omega) only [go_sem, hy2, hyb, List.length_map] | (refine spl (fun h => ?_) (fun h => ?_) <;> try simp (disch := omega) only [go_sem, hy2, hyb, List.length_map, h]) | fail)
            all_goals first | omega | skip
            all_goals (refine ⟨j + 1, ?_, (by first | exact ⟨hlt, by omega⟩ | exact hlt), by omega⟩; simp only [hgs, hgl2, List.append_nil, Nat.add_zero]; try rfl)
          · have hyb : (y == s) = false := by simp [hys]
            rw [if_neg hys] at hgs hgl2
            (repeat' first | simp (disch := omega) only [go_sem, hy2, hyb, List.length_map] | (refine spl (fun h => ?_) (fun h => ?_) <;> try simp (disch := omega) only [go_sem, hy2, hyb, List.length_map, h]) | fail)
            all_goals first | omega | skip
            all_goals (refine ⟨j + 1, ?_, (by first | exact ⟨hlt, by omega⟩ | exact hlt), by omega⟩; simp only [hgs, hgl2]; try rfl)
        · rw [← hGe j (by omega)]
          have hgl3 := List.take_of_length_le (l := (G j).map AV.str) (i := (G j).length) (by simp)
          (repeat' first | simp (disch := omega) only [go_sem, List.length_map, hgl3] | (refine spl (fun h => ?_) (fun h => ?_) <;> try simp (disch := omega) only [go_sem, List.length_map, hgl3, h]) | fail)
          all_goals first | omega | skip
end Ago
/- The reference's names; comparison of lists of strings. -/
set_option maxRecDepth 100000
set_option maxHeartbeats 4000000
namespace Ago
open Go (IntKind)
open Go.Op (bytesLess)
theorem withM_len (l : List (List UInt8)) (s : List UInt8) : (withM l s).length ≤ l.length + 1 := by
  unfold withM
  have h1 : (l.takeWhile (fun x => bytesLess x s)).length + (l.dropWhile (fun x => bytesLess x s)).length = l.length := by
    rw [← List.length_append, List.takeWhile_append_dropWhile]
  have h2 := List.length_filter_le (fun x => !(x == s)) (l.dropWhile fun x => bytesLess x s)
  simp only [List.length_append, List.length_cons]
  omega
theorem withM_ne (l : List (List UInt8)) (s : List UInt8) : withM l s ≠ [] := by
  unfold withM
  simp
theorem fold_len : ∀ (m out : List (List UInt8)), (m.foldl withM out).length ≤ out.length + m.length
  | [], out => by simp
  | s :: m, out => by
    have := fold_len m (withM out s)
    have := withM_len out s
    simp only [List.foldl_cons, List.length_cons]
    omega
def namesM (o : Bool) : Nat → Sch → List (List UInt8)
  | 0, _ => []
  | d + 1, x => if o = true ∧ (x.s.op = 9 ∨ x.s.op = 10) then (if x.s.op = 14 then withM [] x.s.name else []) else x.kids.foldl (fun out y => (namesM o d y).foldl withM out) (if x.s.op = 14 then withM [] x.s.name else [])
theorem namesM_zero (o : Bool) (x : Sch) : namesM o 0 x = [] := (rfl)
theorem namesM_succ (o : Bool) (d : Nat) (x : Sch) : namesM o (d + 1) x = if o = true ∧ (x.s.op = 9 ∨ x.s.op = 10) then (if x.s.op = 14 then withM [] x.s.name else []) else x.kids.foldl (fun out y => (namesM o d y).foldl withM out) (if x.s.op = 14 then withM [] x.s.name else []) := (rfl)
theorem kfold_len (o : Bool) (d : Nat) (h : ∀ y, (namesM o d y).length ≤ cntM d y) : ∀ (l : List Sch) (out : List (List UInt8)), (l.foldl (fun out y => (namesM o d y).foldl withM out) out).length ≤ out.length + (l.map (cntM d)).sum
  | [], out => by simp
  | y :: l, out => by
    have h1 := kfold_len o d h l ((namesM o d y).foldl withM out)
    have h2 := fold_len (namesM o d y) out
    have h3 := h y
    simp only [List.foldl_cons, List.map_cons, List.sum_cons]
    omega
theorem names_len (o : Bool) : ∀ (d : Nat) (x : Sch), (namesM o d x).length ≤ cntM d x
  | 0, x => by simp [namesM_zero]
  | d + 1, x => by
    rw [namesM_succ, cntM_succ]
    have h1 : (if x.s.op = 14 then withM [] x.s.name else []).length ≤ 1 := by
      split
      · exact withM_len _ _
      · simp
    have h2 := kfold_len o d (names_len o d) x.kids (if x.s.op = 14 then withM [] x.s.name else [])
    split
    · omega
    · omega
/-- A slice that is nil until something is added. -/
def nilT (l : List (List UInt8)) : AV := if l = [] then .snil 1 else .tsl 1 (l.map .str)
theorem names_run (o : Bool) : ∀ (d : Nat) (D : Int), D = d → d < 2 ^ 30 → ∀ x : Sch, x.bulk ≤ 2 ^ 24 → PRun CS 512 [encSch x, .int .i64 D, .bool o] (.tsl 1 ((namesM o d x).map .str)) := by
  intro d
  induction d with
  | zero =>
    intro D hD hd x hx
    refine prun_of ac512 rfl ?_
    rw [encSch_eq, namesM_zero]
    (repeat' first | simp (disch := omega) only [go_sem, ac512, enter, List.length_map] | (refine spl (fun h => ?_) (fun h => ?_) <;> try simp (disch := omega) only [go_sem, ac512, enter, List.length_map, h]) | fail)
    all_goals omega
  | succ d ih =>
    intro D hD hd x hx
    have L := Sch.lens hx
    have hp := refParts_run x hx
    have hkl := kids_len x
    have hw0 := with_run [] x.s.name (by simp)
    rw [namesM_succ]
    obtain ⟨F, hF⟩ : ∃ F : Nat → List (List UInt8), ∀ k, F k = (x.kids.take k).foldl (fun out y => (namesM o d y).foldl withM out) (if x.s.op = 14 then withM [] x.s.name else []) := ⟨_, fun _ => rfl⟩
    have hF0 : F 0 = if x.s.op = 14 then withM [] x.s.name else [] := by rw [hF]; rfl
    have hFs : ∀ k y, x.kids[k]? = some y → F (k + 1) = (namesM o d y).foldl withM (F k) := fun k y hy => by
      rw [hF, hF, List.take_add_one, hy]
      simp
    have hFe : ∀ k, x.kids.length ≤ k → F k = x.kids.foldl (fun out y => (namesM o d y).foldl withM out) (if x.s.op = 14 then withM [] x.s.name else []) := fun k hk => by rw [hF, List.take_of_length_le hk]
    have hFl : ∀ k, k ≤ x.kids.length → (F k).length ≤ 2 ^ 25 := fun k hk => by
      rw [hF]
      have h1 : (if x.s.op = 14 then withM [] x.s.name else []).length ≤ 1 := by
        split
        · exact withM_len _ _
        · simp
      have h2 := kfold_len o d (names_len o d) (x.kids.take k) (if x.s.op = 14 then withM [] x.s.name else [])
      have h3 := sum_take_le (cntM d) x.kids k
      have h4 := cnt_le (d + 1) x
      rw [cntM_succ] at h4
      omega
    by_cases h14 : x.s.op = 14
    · rw [if_neg (by omega : ¬ (o = true ∧ (x.s.op = 9 ∨ x.s.op = 10)))]
      rw [if_pos h14] at hF0
      have hne := withM_ne [] x.s.name
      have hn0 : nilT (F 0) = .tsl 1 ((withM [] x.s.name).map .str) := by
        rw [hF0]
        unfold nilT
        rw [if_neg hne]
      rw [encSch_eq] at hp ⊢
      refine prun_of ac512 rfl ?_
      cases o with
      | true =>
        (repeat' first | simp (disch := omega) only [go_sem, ac512, enter, List.length_map] | refine pure_of _ (hp) ?_ | refine pure_of _ (hw0) ?_ | (refine spl (fun h => ?_) (fun h => ?_) <;> try simp (disch := omega) only [go_sem, ac512, enter, List.length_map , h]) | fail)
        all_goals first | omega | skip
        refine loop_of (α := Nat) (fun k => { tmps := slots 63 [(1, .int .i64 D), (2, .bool true), (7, nilT (F k)), (8, .tsl 15 (x.kids.map encSch)), (9, .int .i64 k)], heap := [], base := 0 }) (fun k => k ≤ x.kids.length) (fun k => x.kids.length - k) 0 (by simp only [hn0]; rfl) (Nat.zero_le _) ?_
        rintro k hk
        obtain ⟨out, hout⟩ : ∃ out, F k = out := ⟨_, rfl⟩
        have hol := hFl k hk
        rw [hout] at hol
        by_cases hlt : k < x.kids.length
        · obtain ⟨y, hy⟩ := get_some hlt
          have hym := List.mem_of_getElem? hy
          have hy2 := map_get (g := encSch) hy
          have hyb : y.bulk ≤ 2 ^ 24 := by have := Sch.kids_bulk hym; omega
          have hr := ih (D - 1) (by omega) (by omega) y hyb
          have hFs := hFs k y hy
          have hml := names_len true d y
          have hcy := cnt_le d y
          obtain ⟨m, hm⟩ : ∃ m, namesM true d y = m := ⟨_, rfl⟩
          rw [hm] at hr hml
          rw [hm, hout] at hFs
          rw [encSch_eq] at hy2 hr
          simp only [hout]
          (repeat' first | simp (disch := omega) only [go_sem, hy2, List.length_map] | refine pure_of _ (hr) ?_ | (refine spl (fun h => ?_) (fun h => ?_) <;> try simp (disch := omega) only [go_sem, hy2, List.length_map , h]) | fail)
          all_goals first | omega | skip
          refine loop_of (α := Nat) (fun j => { tmps := slots 63 [(1, .int .i64 D), (2, .bool true), (7, nilT ((m.take j).foldl withM out)), (8, .tsl 15 (x.kids.map encSch)), (9, .int .i64 k), (10, .tsl 1 (m.map .str)), (11, .int .i64 j)], heap := [], base := 0 }) (fun j => j ≤ m.length) (fun j => m.length - j) 0 (by
            have e : (m.take 0).foldl withM out = out := by simp
            simp only [e, nilT]
            split <;> rfl) (Nat.zero_le _) ?_
          intro j hj
          have hfl := fold_len (m.take j) out
          have htl : (m.take j).length ≤ m.length := by simp only [List.length_take]; omega
          by_cases hlt2 : j < m.length
          · obtain ⟨s, hs⟩ := get_some hlt2
            have hs2 := map_get (g := AV.str) hs
            have hfs : (m.take (j + 1)).foldl withM out = withM ((m.take j).foldl withM out) s := by
              rw [List.take_add_one, hs]
              simp
            obtain ⟨cur, hcur⟩ : ∃ cur, (m.take j).foldl withM out = cur := ⟨_, rfl⟩
            rw [hcur] at hfs hfl
            have hw := with_run cur s (by omega)
            have hne := withM_ne cur s
            have hnT : nilT ((m.take (j + 1)).foldl withM out) = .tsl 1 ((withM cur s).map .str) := by
              rw [hfs]
              unfold nilT
              rw [if_neg hne]
            simp only [hcur]
            cases cur with
            | nil =>
              have e1 : nilT [] = .snil 1 := rfl
              (repeat' first | simp (disch := omega) only [go_sem, hs2, List.length_map, e1] | refine pure_of _ (hw) ?_ | (refine spl (fun h => ?_) (fun h => ?_) <;> try simp (disch := omega) only [go_sem, hs2, List.length_map, e1 , h]) | fail)
              all_goals first | omega | skip
              refine ⟨j + 1, ?_, hlt2, by omega⟩
              simp only [hnT]
              rfl
            | cons z zs =>
              have e1 : nilT (z :: zs) = .tsl 1 ((z :: zs).map .str) := rfl
              rw [← e1] at hw
              have e2 : nilT (z :: zs) = .tsl 1 (AV.str z :: zs.map .str) := rfl
              rw [e2] at hw
              (repeat' first | simp (disch := omega) only [go_sem, hs2, List.length_map, e2] | refine pure_of _ (hw) ?_ | (refine spl (fun h => ?_) (fun h => ?_) <;> try simp (disch := omega) only [go_sem, hs2, List.length_map, e2 , h]) | fail)
              all_goals first | omega | skip
              refine ⟨j + 1, ?_, hlt2, by omega⟩
              simp only [hnT]
              rfl
          · have hjl : m.take j = m := List.take_of_length_le (by omega)
            simp only [hjl]
            (repeat' first | simp (disch := omega) only [go_sem, List.length_map] | (refine spl (fun h => ?_) (fun h => ?_) <;> try simp (disch := omega) only [go_sem, List.length_map, h]) | fail)
            all_goals first | omega | skip
            refine ⟨k + 1, ?_, hlt, by omega⟩
            simp only [hFs]
            unfold nilT
            split <;> rfl
        · have hfe := hFe k (by omega)
          rw [hout] at hfe
          rw [← hfe]
          simp only [hout]
          cases out with
          | nil =>
            have e1 : nilT [] = .snil 1 := rfl
            (repeat' first | simp (disch := omega) only [go_sem, List.length_map, e1] | (refine spl (fun h => ?_) (fun h => ?_) <;> try simp (disch := omega) only [go_sem, List.length_map, e1, h]) | fail)
            all_goals first | omega | skip
          | cons z zs =>
            have e2 : nilT (z :: zs) = .tsl 1 (AV.str z :: zs.map .str) := rfl
            (repeat' first | simp (disch := omega) only [go_sem, List.length_map, e2] | (refine spl (fun h => ?_) (fun h => ?_) <;> try simp (disch := omega) only [go_sem, List.length_map, e2, h]) | fail)
            all_goals first | omega | skip
      | false =>
        (repeat' first | simp (disch := omega) only [go_sem, ac512, enter, List.length_map] | refine pure_of _ (hp) ?_ | refine pure_of _ (hw0) ?_ | (refine spl (fun h => ?_) (fun h => ?_) <;> try simp (disch := omega) only [go_sem, ac512, enter, List.length_map , h]) | fail)
        all_goals first | omega | skip
        refine loop_of (α := Nat) (fun k => { tmps := slots 63 [(1, .int .i64 D), (2, .bool false), (7, nilT (F k)), (8, .tsl 15 (x.kids.map encSch)), (9, .int .i64 k)], heap := [], base := 0 }) (fun k => k ≤ x.kids.length) (fun k => x.kids.length - k) 0 (by simp only [hn0]; rfl) (Nat.zero_le _) ?_
        rintro k hk
        obtain ⟨out, hout⟩ : ∃ out, F k = out := ⟨_, rfl⟩
        have hol := hFl k hk
        rw [hout] at hol
        by_cases hlt : k < x.kids.length
        · obtain ⟨y, hy⟩ := get_some hlt
          have hym := List.mem_of_getElem? hy
          have hy2 := map_get (g := encSch) hy
          have hyb : y.bulk ≤ 2 ^ 24 := by have := Sch.kids_bulk hym; omega
          have hr := ih (D - 1) (by omega) (by omega) y hyb
          have hFs := hFs k y hy
          have hml := names_len false d y
          have hcy := cnt_le d y
          obtain ⟨m, hm⟩ : ∃ m, namesM false d y = m := ⟨_, rfl⟩
          rw [hm] at hr hml
          rw [hm, hout] at hFs
          rw [encSch_eq] at hy2 hr
          simp only [hout]
          (repeat' first | simp (disch := omega) only [go_sem, hy2, List.length_map] | refine pure_of _ (hr) ?_ | (refine spl (fun h => ?_) (fun h => ?_) <;> try simp (disch := omega) only [go_sem, hy2, List.length_map , h]) | fail)
          all_goals first | omega | skip
          refine loop_of (α := Nat) (fun j => { tmps := slots 63 [(1, .int .i64 D), (2, .bool false), (7, nilT ((m.take j).foldl withM out)), (8, .tsl 15 (x.kids.map encSch)), (9, .int .i64 k), (10, .tsl 1 (m.map .str)), (11, .int .i64 j)], heap := [], base := 0 }) (fun j => j ≤ m.length) (fun j => m.length - j) 0 (by
            have e : (m.take 0).foldl withM out = out := by simp
            simp only [e, nilT]
            split <;> rfl) (Nat.zero_le _) ?_
          intro j hj
          have hfl := fold_len (m.take j) out
          have htl : (m.take j).length ≤ m.length := by simp only [List.length_take]; omega
          by_cases hlt2 : j < m.length
          · obtain ⟨s, hs⟩ := get_some hlt2
            have hs2 := map_get (g := AV.str) hs
            have hfs : (m.take (j + 1)).foldl withM out = withM ((m.take j).foldl withM out) s := by
              rw [List.take_add_one, hs]
              simp
            obtain ⟨cur, hcur⟩ : ∃ cur, (m.take j).foldl withM out = cur := ⟨_, rfl⟩
            rw [hcur] at hfs hfl
            have hw := with_run cur s (by omega)
            have hne := withM_ne cur s
            have hnT : nilT ((m.take (j + 1)).foldl withM out) = .tsl 1 ((withM cur s).map .str) := by
              rw [hfs]
              unfold nilT
              rw [if_neg hne]
            simp only [hcur]
            cases cur with
            | nil =>
              have e1 : nilT [] = .snil 1 := rfl
              (repeat' first | simp (disch := omega) only [go_sem, hs2, List.length_map, e1] | refine pure_of _ (hw) ?_ | (refine spl (fun h => ?_) (fun h => ?_) <;> try simp (disch := omega) only [go_sem, hs2, List.length_map, e1 , h]) | fail)
              all_goals first | omega | skip
              refine ⟨j + 1, ?_, hlt2, by omega⟩
              simp only [hnT]
              rfl
            | cons z zs =>
              have e1 : nilT (z :: zs) = .tsl 1 ((z :: zs).map .str) := rfl
              rw [← e1] at hw
              have e2 : nilT (z :: zs) = .tsl 1 (AV.str z :: zs.map .str) := rfl
              rw [e2] at hw
              (repeat' first | simp (disch := omega) only [go_sem, hs2, List.length_map, e2] | refine pure_of _ (hw) ?_ | (refine spl (fun h => ?_) (fun h => ?_) <;> try simp (disch := omega) only [go_sem, hs2, List.length_map, e2 , h]) | fail)
              all_goals first | omega | skip
              refine ⟨j + 1, ?_, hlt2, by omega⟩
              simp only [hnT]
              rfl
          · have hjl : m.take j = m := List.take_of_length_le (by omega)
            simp only [hjl]
            (repeat' first | simp (disch := omega) only [go_sem, List.length_map] | (refine spl (fun h => ?_) (fun h => ?_) <;> try simp (disch := omega) only [go_sem, List.length_map, h]) | fail)
            all_goals first | omega | skip
            refine ⟨k + 1, ?_, hlt, by omega⟩
            simp only [hFs]
            unfold nilT
            split <;> rfl
        · have hfe := hFe k (by omega)
          rw [hout] at hfe
          rw [← hfe]
          simp only [hout]
          cases out with
          | nil =>
            have e1 : nilT [] = .snil 1 := rfl
            (repeat' first | simp (disch := omega) only [go_sem, List.length_map, e1] | (refine spl (fun h => ?_) (fun h => ?_) <;> try simp (disch := omega) only [go_sem, List.length_map, e1, h]) | fail)
            all_goals first | omega | skip
          | cons z zs =>
            have e2 : nilT (z :: zs) = .tsl 1 (AV.str z :: zs.map .str) := rfl
            (repeat' first | simp (disch := omega) only [go_sem, List.length_map, e2] | (refine spl (fun h => ?_) (fun h => ?_) <;> try simp (disch := omega) only [go_sem, List.length_map, e2, h]) | fail)
            all_goals first | omega | skip
    · rw [if_neg h14] at hF0
      have hn0 : nilT (F 0) = .snil 1 := by
        rw [hF0]
        rfl
      by_cases ho : o = true ∧ (x.s.op = 9 ∨ x.s.op = 10)
      · rw [if_pos ho, if_neg h14]
        obtain ⟨rfl, ho⟩ := ho
        rw [encSch_eq]
        refine prun_of ac512 rfl ?_
        (repeat' first | simp (disch := omega) only [go_sem, ac512, enter, List.length_map] | (refine spl (fun h => ?_) (fun h => ?_) <;> try simp (disch := omega) only [go_sem, ac512, enter, List.length_map, h]) | fail)
        all_goals first | omega | skip
      rw [if_neg ho]
      have hno : o = true → ¬ x.s.op = 9 ∧ ¬ x.s.op = 10 := fun h => ⟨fun h2 => ho ⟨h, by omega⟩, fun h2 => ho ⟨h, by omega⟩⟩
      rw [encSch_eq] at hp ⊢
      refine prun_of ac512 rfl ?_
      cases o with
      | true =>
        obtain ⟨h9, h10⟩ := hno rfl
        (repeat' first | simp (disch := omega) only [go_sem, ac512, enter, List.length_map] | refine pure_of _ (hp) ?_ | (refine spl (fun h => ?_) (fun h => ?_) <;> try simp (disch := omega) only [go_sem, ac512, enter, List.length_map , h]) | fail)
        all_goals first | omega | skip
        refine loop_of (α := Nat) (fun k => { tmps := slots 63 [(1, .int .i64 D), (2, .bool true), (7, nilT (F k)), (8, .tsl 15 (x.kids.map encSch)), (9, .int .i64 k)], heap := [], base := 0 }) (fun k => k ≤ x.kids.length) (fun k => x.kids.length - k) 0 (by simp only [hn0]; rfl) (Nat.zero_le _) ?_
        rintro k hk
        obtain ⟨out, hout⟩ : ∃ out, F k = out := ⟨_, rfl⟩
        have hol := hFl k hk
        rw [hout] at hol
        by_cases hlt : k < x.kids.length
        · obtain ⟨y, hy⟩ := get_some hlt
          have hym := List.mem_of_getElem? hy
          have hy2 := map_get (g := encSch) hy
          have hyb : y.bulk ≤ 2 ^ 24 := by have := Sch.kids_bulk hym; omega
          have hr := ih (D - 1) (by omega) (by omega) y hyb
          have hFs := hFs k y hy
          have hml := names_len true d y
          have hcy := cnt_le d y
          obtain ⟨m, hm⟩ : ∃ m, namesM true d y = m := ⟨_, rfl⟩
          rw [hm] at hr hml
          rw [hm, hout] at hFs
          rw [encSch_eq] at hy2 hr
          simp only [hout]
          (repeat' first | simp (disch := omega) only [go_sem, hy2, List.length_map] | refine pure_of _ (hr) ?_ | (refine spl (fun h => ?_) (fun h => ?_) <;> try simp (disch := omega) only [go_sem, hy2, List.length_map , h]) | fail)
          all_goals first | omega | skip
          refine loop_of (α := Nat) (fun j => { tmps := slots 63 [(1, .int .i64 D), (2, .bool true), (7, nilT ((m.take j).foldl withM out)), (8, .tsl 15 (x.kids.map encSch)), (9, .int .i64 k), (10, .tsl 1 (m.map .str)), (11, .int .i64 j)], heap := [], base := 0 }) (fun j => j ≤ m.length) (fun j => m.length - j) 0 (by
            have e : (m.take 0).foldl withM out = out := by simp
            simp only [e, nilT]
            split <;> rfl) (Nat.zero_le _) ?_
          intro j hj
          have hfl := fold_len (m.take j) out
          have htl : (m.take j).length ≤ m.length := by simp only [List.length_take]; omega
          by_cases hlt2 : j < m.length
          · obtain ⟨s, hs⟩ := get_some hlt2
            have hs2 := map_get (g := AV.str) hs
            have hfs : (m.take (j + 1)).foldl withM out = withM ((m.take j).foldl withM out) s := by
              rw [List.take_add_one, hs]
              simp
            obtain ⟨cur, hcur⟩ : ∃ cur, (m.take j).foldl withM out = cur := ⟨_, rfl⟩
            rw [hcur] at hfs hfl
            have hw := with_run cur s (by omega)
            have hne := withM_ne cur s
            have hnT : nilT ((m.take (j + 1)).foldl withM out) = .tsl 1 ((withM cur s).map .str) := by
              rw [hfs]
              unfold nilT
              rw [if_neg hne]
            simp only [hcur]
            cases cur with
            | nil =>
              have e1 : nilT [] = .snil 1 := rfl
              (repeat' first | simp (disch := omega) only [go_sem, hs2, List.length_map, e1] | refine pure_of _ (hw) ?_ | (refine spl (fun h => ?_) (fun h => ?_) <;> try simp (disch := omega) only [go_sem, hs2, List.length_map, e1 , h]) | fail)
              all_goals first | omega | skip
              refine ⟨j + 1, ?_, hlt2, by omega⟩
              simp only [hnT]
              rfl
            | cons z zs =>
              have e1 : nilT (z :: zs) = .tsl 1 ((z :: zs).map .str) := rfl
              rw [← e1] at hw
              have e2 : nilT (z :: zs) = .tsl 1 (AV.str z :: zs.map .str) := rfl
              rw [e2] at hw
              (repeat' first | simp (disch := omega) only [go_sem, hs2, List.length_map, e2] | refine pure_of _ (hw) ?_ | (refine spl (fun h => ?_) (fun h => ?_) <;> try simp (disch := omega) only [go_sem, hs2, List.length_map, e2 , h]) | fail)
              all_goals first | omega | skip
              refine ⟨j + 1, ?_, hlt2, by omega⟩
              simp only [hnT]
              rfl
          · have hjl : m.take j = m := List.take_of_length_le (by omega)
            simp only [hjl]
            (repeat' first | simp (disch := omega) only [go_sem, List.length_map] | (refine spl (fun h => ?_) (fun h => ?_) <;> try simp (disch := omega) only [go_sem, List.length_map, h]) | fail)
            all_goals first | omega | skip
            refine ⟨k + 1, ?_, hlt, by omega⟩
            simp only [hFs]
            unfold nilT
            split <;> rfl
        · have hfe := hFe k (by omega)
          rw [hout] at hfe
          rw [← hfe]
          simp only [hout]
          cases out with
          | nil =>
            have e1 : nilT [] = .snil 1 := rfl
            (repeat' first | simp (disch := omega) only [go_sem, List.length_map, e1] | (refine spl (fun h => ?_) (fun h => ?_) <;> try simp (disch := omega) only [go_sem, List.length_map, e1, h]) | fail)
            all_goals first | omega | skip
          | cons z zs =>
            have e2 : nilT (z :: zs) = .tsl 1 (AV.str z :: zs.map .str) := rfl
            (repeat' first | simp (disch := omega) only [go_sem, List.length_map, e2] | (refine spl (fun h => ?_) (fun h => ?_) <;> try simp (disch := omega) only [go_sem, List.length_map, e2, h]) | fail)
            all_goals first | omega | skip
      | false =>
        (repeat' first | simp (disch := omega) only [go_sem, ac512, enter, List.length_map] | refine pure_of _ (hp) ?_ | (refine spl (fun h => ?_) (fun h => ?_) <;> try simp (disch := omega) only [go_sem, ac512, enter, List.length_map , h]) | fail)
        all_goals first | omega | skip
        refine loop_of (α := Nat) (fun k => { tmps := slots 63 [(1, .int .i64 D), (2, .bool false), (7, nilT (F k)), (8, .tsl 15 (x.kids.map encSch)), (9, .int .i64 k)], heap := [], base := 0 }) (fun k => k ≤ x.kids.length) (fun k => x.kids.length - k) 0 (by simp only [hn0]; rfl) (Nat.zero_le _) ?_
        rintro k hk
        obtain ⟨out, hout⟩ : ∃ out, F k = out := ⟨_, rfl⟩
        have hol := hFl k hk
        rw [hout] at hol
        by_cases hlt : k < x.kids.length
        · obtain ⟨y, hy⟩ := get_some hlt
          have hym := List.mem_of_getElem? hy
          have hy2 := map_get (g := encSch) hy
          have hyb : y.bulk ≤ 2 ^ 24 := by have := Sch.kids_bulk hym; omega
          have hr := ih (D - 1) (by omega) (by omega) y hyb
          have hFs := hFs k y hy
          have hml := names_len false d y
          have hcy := cnt_le d y
          obtain ⟨m, hm⟩ : ∃ m, namesM false d y = m := ⟨_, rfl⟩
          rw [hm] at hr hml
          rw [hm, hout] at hFs
          rw [encSch_eq] at hy2 hr
          simp only [hout]
          (repeat' first | simp (disch := omega) only [go_sem, hy2, List.length_map] | refine pure_of _ (hr) ?_ | (refine spl (fun h => ?_) (fun h => ?_) <;> try simp (disch := omega) only [go_sem, hy2, List.length_map , h]) | fail)
          all_goals first | omega | skip
          refine loop_of (α := Nat) (fun j => { tmps := slots 63 [(1, .int .i64 D), (2, .bool false), (7, nilT ((m.take j).foldl withM out)), (8, .tsl 15 (x.kids.map encSch)), (9, .int .i64 k), (10, .tsl 1 (m.map .str)), (11, .int .i64 j)], heap := [], base := 0 }) (fun j => j ≤ m.length) (fun j => m.length - j) 0 (by
            have e : (m.take 0).foldl withM out = out := by simp
            simp only [e, nilT]
            split <;> rfl) (Nat.zero_le _) ?_
          intro j hj
          have hfl := fold_len (m.take j) out
          have htl : (m.take j).length ≤ m.length := by simp only [List.length_take]; omega
          by_cases hlt2 : j < m.length
          · obtain ⟨s, hs⟩ := get_some hlt2
            have hs2 := map_get (g := AV.str) hs
            have hfs : (m.take (j + 1)).foldl withM out = withM ((m.take j).foldl withM out) s := by
              rw [List.take_add_one, hs]
              simp
            obtain ⟨cur, hcur⟩ : ∃ cur, (m.take j).foldl withM out = cur := ⟨_, rfl⟩
            rw [hcur] at hfs hfl
            have hw := with_run cur s (by omega)
            have hne := withM_ne cur s
            have hnT : nilT ((m.take (j + 1)).foldl withM out) = .tsl 1 ((withM cur s).map .str) := by
              rw [hfs]
              unfold nilT
              rw [if_neg hne]
            simp only [hcur]
            cases cur with
            | nil =>
              have e1 : nilT [] = .snil 1 := rfl
              (repeat' first | simp (disch := omega) only [go_sem, hs2, List.length_map, e1] | refine pure_of _ (hw) ?_ | (refine spl (fun h => ?_) (fun h => ?_) <;> try simp (disch := omega) only [go_sem, hs2, List.length_map, e1 , h]) | fail)
              all_goals first | omega | skip
              refine ⟨j + 1, ?_, hlt2, by omega⟩
              simp only [hnT]
              rfl
            | cons z zs =>
              have e1 : nilT (z :: zs) = .tsl 1 ((z :: zs).map .str) := rfl
              rw [← e1] at hw
              have e2 : nilT (z :: zs) = .tsl 1 (AV.str z :: zs.map .str) := rfl
              rw [e2] at hw
              (repeat' first | simp (disch := omega) only [go_sem, hs2, List.length_map, e2] | refine pure_of _ (hw) ?_ | (refine spl (fun h => ?_) (fun h => ?_) <;> try simp (disch := omega) only [go_sem, hs2, List.length_map, e2 , h]) | fail)
              all_goals first | omega | skip
              refine ⟨j + 1, ?_, hlt2, by omega⟩
              simp only [hnT]
              rfl
          · have hjl : m.take j = m := List.take_of_length_le (by omega)
            simp only [hjl]
            (repeat' first | simp (disch := omega) only [go_sem, List.length_map] | (refine spl (fun h => ?_) (fun h => ?_) <;> try simp (disch := omega) only [go_sem, List.length_map, h]) | fail)
            all_goals first | omega | skip
            refine ⟨k + 1, ?_, hlt, by omega⟩
            simp only [hFs]
            unfold nilT
            split <;> rfl
        · have hfe := hFe k (by omega)
          rw [hout] at hfe
          rw [← hfe]
          simp only [hout]
          cases out with
          | nil =>
            have e1 : nilT [] = .snil 1 := rfl
            (repeat' first | simp (disch := omega) only [go_sem, List.length_map, e1] | (refine spl (fun h => ?_) (fun h => ?_) <;> try simp (disch := omega) only [go_sem, List.length_map, e1, h]) | fail)
            all_goals first | omega | skip
          | cons z zs =>
            have e2 : nilT (z :: zs) = .tsl 1 (AV.str z :: zs.map .str) := rfl
            (repeat' first | simp (disch := omega) only [go_sem, List.length_map, e2] | (refine spl (fun h => ?_) (fun h => ?_) <;> try simp (disch := omega) only [go_sem, List.length_map, e2, h]) | fail)
            all_goals first | omega | skip
theorem refRefs_run (x : Sch) (hx : x.bulk ≤ 2 ^ 24) : PRun CS 484 [encSch x] (.tsl 1 ((namesM false 48 x).map .str)) := by
  have hr := names_run false 48 48 rfl (by decide) x hx
  refine prun_of ac484 rfl ?_
  rw [encSch_eq] at hr ⊢
  (repeat' first | simp (disch := omega) only [go_sem, ac484, enter] | refine pure_of _ (hr) ?_ | (refine spl (fun h => ?_) (fun h => ?_) <;> try simp (disch := omega) only [go_sem, ac484, enter , h]) | fail)
theorem strings_self (l : List (List UInt8)) (hl : l.length < 2 ^ 30) : PRun CS 482 [.tsl 1 (l.map .str), .tsl 1 (l.map .str)] (.bool true) := by
  refine prun_of ac482 rfl ?_
  (repeat' first | simp (disch := omega) only [go_sem, ac482, enter, List.length_map] | (refine spl (fun h => ?_) (fun h => ?_) <;> try simp (disch := omega) only [go_sem, ac482, enter, List.length_map, h]) | fail)
  all_goals first | omega | skip
  refine loop_of (α := Nat) (fun k => { tmps := slots 26 [(0, .tsl 1 (l.map .str)), (1, .tsl 1 (l.map .str)), (5, .int .i64 k)], heap := [], base := 0 }) (fun k => k ≤ l.length) (fun k => l.length - k) 0 rfl (Nat.zero_le _) ?_
  intro k hk
  by_cases hlt : k < l.length
  · obtain ⟨y, hy⟩ := get_some hlt
    have hy2 := map_get (g := AV.str) hy
    (repeat' first | simp (disch := omega) only [go_sem, hy2, List.length_map] | (refine spl (fun h => ?_) (fun h => ?_) <;> try simp (disch := omega) only [go_sem, hy2, List.length_map, h]) | fail)
    all_goals first | omega | skip
    exact ⟨k + 1, rfl, hlt, by omega⟩
  · (repeat' first | simp (disch := omega) only [go_sem, List.length_map] | (refine spl (fun h => ?_) (fun h => ?_) <;> try simp (disch := omega) only [go_sem, List.length_map, h]) | fail)
    all_goals first | omega | skip
end Ago
/- slices.Compact of strings; schema.Refs. -/
set_option maxRecDepth 100000
set_option maxHeartbeats 4000000
namespace Ago
open Go (IntKind)
/-- Without what stands twice, one behind the other. -/
def ddGo (p : List UInt8) : List (List UInt8) → List (List UInt8)
  | [] => []
  | y :: l => if y = p then ddGo p l else y :: ddGo y l
def dd : List (List UInt8) → List (List UInt8)
  | [] => []
  | p :: l => p :: ddGo p l
theorem ddGo_snoc : ∀ (l : List (List UInt8)) (p y : List UInt8), ddGo p (l ++ [y]) = ddGo p l ++ (if y = l.getLastD p then [] else [y])
  | [], p, y => by
    by_cases h : y = p <;> simp [h, ddGo]
  | x :: l, p, y => by
    simp only [List.cons_append, ddGo]
    have h1 := ddGo_snoc l p y
    have h2 := ddGo_snoc l x y
    by_cases h : x = p
    · subst h
      rw [if_pos rfl, if_pos rfl, h1]
      cases l <;> rfl
    · rw [if_neg h, if_neg h, h2]
      cases l <;> rfl
theorem last_take : ∀ (l : List (List UInt8)) (a : List UInt8) (j : Nat) (p : List UInt8), (a :: l)[j]? = some p → (l.take j).getLastD a = p
  | l, a, 0, p, h => by
    simp at h
    simpa using h
  | [], a, j + 1, p, h => by simp at h
  | b :: l, a, j + 1, p, h => by
    have := last_take l b j p (by simpa using h)
    rw [List.take_succ_cons, List.getLastD_cons]
    exact this
theorem dd_take {ss : List (List UInt8)} {j : Nat} {y p : List UInt8} (hy : ss[j + 1]? = some y) (hp : ss[j]? = some p) : dd (ss.take (j + 2)) = dd (ss.take (j + 1)) ++ (if y = p then [] else [y]) := by
  cases ss with
  | nil => simp at hp
  | cons a l =>
    have h1 : l[j]? = some y := by simpa using hy
    have h2 := last_take l a j p hp
    rw [List.take_succ_cons, List.take_succ_cons]
    simp only [dd, List.cons_append]
    rw [List.take_add_one, h1]
    simp only [Option.toList_some]
    rw [ddGo_snoc, h2]
theorem dd_len : ∀ l : List (List UInt8), (dd l).length ≤ l.length
  | [] => by simp [dd]
  | p :: l => by
    have h : ∀ (l : List (List UInt8)) (p : List UInt8), (ddGo p l).length ≤ l.length := by
      intro l
      induction l with
      | nil => intro p; simp [ddGo]
      | cons y l ih =>
        intro p
        simp only [ddGo]
        have h1 := ih p
        have h2 := ih y
        split
        · simp only [List.length_cons]; omega
        · simp only [List.length_cons]; omega
    have := h l p
    simp only [dd, List.length_cons]
    omega
def R1 (ss : List (List UInt8)) : Blk := .row 1 (ss.map .str) false true 1
/-- What a function owes at its end, where the end is not told. -/
def PostCE (base : Nat) (res : List ResV) (p : AV × Heap → Prop) (e : Ex) (s : St) : Prop := (e = .normal ∨ e = .ret) ∧ ∃ u, results res s = some u ∧ p ((tidy base u s.heap).tmps.getD 0 .dead, (tidy base u s.heap).heap)
theorem runCE_of {C : Ctx} {f : Nat} (fn : AFn) {args : List AV} {H : Heap} {p : AV × Heap → Prop} (hf : C.code f = some fn) (h : @withStI (enter fn args H) ⟨aw (RunOf C) (PRun C) fn.body (PostCE H.length fn.res p)⟩) : ∃ w, p w ∧ RunOf C f args H w.1 w.2 := by
  unfold withStI at h
  obtain ⟨e, s, h1, he, u, h2, h3⟩ := aw_sound _ _ _ h
  exact ⟨_, h3, .run hf h1 he h2⟩
theorem compact_run (b0 : AV) (ss : List (List UInt8)) (hl : ss.length < 2 ^ 30) (hne : ss ≠ []) : ∃ c, RunOf CS 511 [.sref 1 1 0 ss.length] [.row 15 [b0] false true 0, R1 ss] (.sref 1 1 0 (dd ss).length) [.row 15 [b0] false true 0, R1 c] ∧ c.take (dd ss).length = dd ss ∧ c.length = ss.length := by
  by_cases h2 : ss.length < 2
  · refine ⟨ss, ?_, ?_, rfl⟩
    · have e : (dd ss).length = ss.length := by
        cases ss with
        | nil => rfl
        | cons a l =>
          cases l with
          | nil => rfl
          | cons b l => simp only [List.length_cons] at h2; omega
      rw [e]
      unfold R1
      refine runC_of ac511 rfl ?_
      (repeat' first | simp (disch := omega) only [go_sem, ac511, enter, List.length_map] | (refine spl (fun h => ?_) (fun h => ?_) <;> try simp (disch := omega) only [go_sem, ac511, enter, List.length_map, h]) | fail)
      all_goals first | omega | skip
      exact ⟨.inr rfl, _, rfl, rfl, rfl⟩
    · cases ss with
      | nil => rfl
      | cons a l =>
        cases l with
        | nil => rfl
        | cons b l => simp only [List.length_cons] at h2; omega
  suffices h : ∃ w, (∃ c, w = (AV.sref 1 1 0 (dd ss).length, [.row 15 [b0] false true 0, R1 c]) ∧ c.take (dd ss).length = dd ss ∧ c.length = ss.length) ∧ RunOf CS 511 [.sref 1 1 0 ss.length] [.row 15 [b0] false true 0, R1 ss] w.1 w.2 by
    obtain ⟨w, ⟨c, rfl, h1, h2⟩, h3⟩ := h
    exact ⟨c, h3, h1, h2⟩
  refine runCE_of ac511 rfl ?_
  unfold R1
  (repeat' first | simp (disch := omega) only [go_sem, ac511, enter, List.length_map] | (refine spl (fun h => ?_) (fun h => ?_) <;> try simp (disch := omega) only [go_sem, ac511, enter, List.length_map, h]) | fail)
  all_goals first | omega | skip
  refine loop_of (α := Nat) (fun k => { tmps := slots 61 [(0, .sref 1 1 0 ss.length), (3, .int .i64 k)], heap := [.row 15 [b0] false true 0, .row 1 (ss.map .str) false true 1], base := 2 }) (fun k => 1 ≤ k ∧ k ≤ ss.length ∧ dd (ss.take k) = ss.take k) (fun k => ss.length - k) 1 rfl ⟨Nat.le_refl _, by omega, by cases ss <;> rfl⟩ ?_
  rintro k ⟨hk1, hk, hd⟩
  by_cases hlt : k < ss.length
  case neg =>
    have hk2 : k = ss.length := by omega
    rw [hk2, List.take_length] at hd
    (repeat' first | simp (disch := omega) only [go_sem, List.length_map] | (refine spl (fun h => ?_) (fun h => ?_) <;> try simp (disch := omega) only [go_sem, List.length_map, h]) | fail)
    all_goals first | omega | skip
    refine ⟨.inr rfl, _, rfl, ⟨ss, ?_, ?_, rfl⟩⟩
    · rw [hd]
      rfl
    · rw [hd, List.take_length]
  obtain ⟨k, rfl⟩ : ∃ j, k = j + 1 := ⟨k - 1, by omega⟩
  obtain ⟨y, hy⟩ := get_some hlt
  obtain ⟨p, hp⟩ := get_some (show k < ss.length by omega)
  have hy2 := map_get (g := AV.str) hy
  have hp2 := map_get (g := AV.str) hp
  have hdt := dd_take hy hp
  have hc1 : ((k + 1 : Nat) : Int) - 1 = (k : Nat) := by omega
  by_cases hyp : y = p
  case neg =>
    have hb : (y == p) = false := by simp [hyp]
    rw [if_neg hyp, hd] at hdt
    (repeat' first | simp (disch := omega) only [go_sem, hy2, hp2, hb, hc1, List.length_map] | (refine spl (fun h => ?_) (fun h => ?_) <;> try simp (disch := omega) only [go_sem, hy2, hp2, hb, hc1, List.length_map, h]) | fail)
    all_goals first | omega | skip
    refine ⟨k + 1 + 1, rfl, ⟨by omega, hlt, ?_⟩, by omega⟩
    have h3 := List.take_add_one (l := ss) (i := k + 1)
    rw [hdt, h3, hy]
    rfl
  have hb : (y == p) = true := by simp [hyp]
  rw [if_pos hyp, List.append_nil, hd] at hdt
  (repeat' first | simp (disch := omega) only [go_sem, hy2, hp2, hb, hc1, List.length_map] | (refine spl (fun h => ?_) (fun h => ?_) <;> try simp (disch := omega) only [go_sem, hy2, hp2, hb, hc1, List.length_map, h]) | fail)
  all_goals first | omega | skip
  have hsub : (ss.length : Int) - ((k + 1 : Nat) : Int) = ((ss.length - (k + 1) : Nat) : Int) := by omega
  refine loop_of (α := Nat × Nat × List (List UInt8)) (fun a => { tmps := slots 61 [(0, .sref 1 1 0 ss.length), (3, .int .i64 a.2.1), (4, .sref 1 1 (k + 1) (ss.length - (k + 1))), (5, .int .i64 a.1)], heap := [.row 15 [b0] false true 0, .row 1 (a.2.2.map .str) false true 1], base := 2 })
    (fun a => 1 ≤ a.1 ∧ k + 1 + a.1 ≤ ss.length ∧ a.2.1 ≤ k + a.1 ∧ k + 1 ≤ a.2.1 ∧ a.2.2.length = ss.length ∧ a.2.2.take a.2.1 = dd (ss.take (k + 1 + a.1)) ∧ a.2.1 = (dd (ss.take (k + 1 + a.1))).length ∧ ∀ j, k + a.1 ≤ j → a.2.2[j]? = ss[j]?) (fun a => ss.length - a.1) (1, k + 1, ss)
    (by rfl) ⟨Nat.le_refl _, hlt, Nat.le_refl _, Nat.le_refl _, rfl, by show ss.take (k + 1) = dd (ss.take (k + 2)); rw [hdt], by show k + 1 = (dd (ss.take (k + 2))).length; rw [hdt]; simp; omega, fun _ _ => rfl⟩ ?_
  rintro ⟨i, w, c⟩ ⟨g1, g2, g3, g4, g5, g6, g7, g8⟩
  simp only at g1 g2 g3 g4 g5 g6 g7 g8
  by_cases hlt2 : k + 1 + i < ss.length
  · obtain ⟨u, hu⟩ := get_some hlt2
    obtain ⟨v, hv⟩ := get_some (show k + i < ss.length by omega)
    have hcu : c[k + 1 + i]? = some u := by rw [g8 _ (by omega)]; exact hu
    have hcv : c[k + i]? = some v := by rw [g8 _ (by omega)]; exact hv
    have hcu2 := map_get (g := AV.str) hcu
    have hcv2 := map_get (g := AV.str) hcv
    have hds := dd_take (ss := ss) (j := k + i) (by rw [show k + i + 1 = k + 1 + i by omega]; exact hu) hv
    rw [show k + i + 2 = k + 1 + (i + 1) by omega, show k + i + 1 = k + 1 + i by omega] at hds
    obtain ⟨z, hz⟩ := get_some (show w < c.length by omega)
    have hz2 := map_get (g := AV.str) hz
    have hi1 : ((i : Int) - 1) = ((i - 1 : Nat) : Int) := by omega
    have e1 : k + 1 + (i - 1) = k + i := by omega
    by_cases huv : u = v
    · have hb2 : (u == v) = true := by simp [huv]
      rw [if_pos huv, List.append_nil] at hds
      (repeat' first | simp (disch := omega) only [go_sem, hcu2, hcv2, hb2, hi1, e1, List.length_map] | (refine spl (fun h => ?_) (fun h => ?_) <;> try simp (disch := omega) only [go_sem, hcu2, hcv2, hb2, hi1, e1, List.length_map, h]) | fail)
      all_goals first | omega | skip
      refine ⟨(i + 1, w, c), rfl, ⟨by dsimp only; omega, by dsimp only; omega, by dsimp only; omega, g4, g5, by rw [hds]; exact g6, by rw [hds]; exact g7, fun j hj => g8 j (by dsimp only at hj; omega)⟩, by simp only; omega⟩
    · have hb2 : (u == v) = false := by simp [huv]
      rw [if_neg huv] at hds
      (repeat' first | simp (disch := omega) only [go_sem, hcu2, hcv2, hb2, hi1, e1, hz2, List.length_map] | (refine spl (fun h => ?_) (fun h => ?_) <;> try simp (disch := omega) only [go_sem, hcu2, hcv2, hb2, hi1, e1, hz2, List.length_map, h]) | fail)
      all_goals first | omega | skip
      refine ⟨(i + 1, w + 1, c.set w u), ?_, ⟨by dsimp only; omega, by dsimp only; omega, by dsimp only; omega, by dsimp only; omega, by simp only [List.length_set]; exact g5, ?_, ?_, fun j hj => ?_⟩, by simp only; omega⟩
      · simp only [List.map_set]
        rfl
      · rw [hds, ← g6]
        simp only
        rw [List.take_add_one, List.getElem?_set_self (by omega), List.take_set_of_le (Nat.le_refl _)]
        rfl
      · rw [hds]
        simp only [List.length_append, List.length_cons, List.length_nil, ← g7]
      · simp only
        dsimp only at hj
        rw [List.getElem?_set_ne (by omega)]
        exact g8 j (by omega)
  · have hi2 : k + 1 + i = ss.length := by omega
    rw [hi2, List.take_length] at g6 g7
    (repeat' first | simp (disch := omega) only [go_sem, List.length_map] | (refine spl (fun h => ?_) (fun h => ?_) <;> try simp (disch := omega) only [go_sem, List.length_map, h]) | fail)
    all_goals first | omega | skip
    have hcont : List.take w (List.map AV.str c) ++ List.replicate (ss.length - w) (AV.str []) ++ List.drop (w + (ss.length - w)) (List.map AV.str c) = (dd ss ++ List.replicate (ss.length - w) []).map AV.str := by
      rw [← List.map_take, g6, List.drop_of_length_le (by simp; omega), List.append_nil, List.map_append, List.map_replicate]
    rw [hcont]
    refine ⟨.inr rfl, _, rfl, ⟨dd ss ++ List.replicate (ss.length - w) [], ?_, ?_, ?_⟩⟩
    · rw [← g7]
      rfl
    · simp
    · simp only [List.length_append, List.length_replicate, ← g7]
      omega
theorem Refs_run (x : Sch) (hx : x.bulk ≤ 2 ^ 24) : PRun CS 483 [encSch x] (.tsl 1 ((dd (sortS (refsM false 48 x))).map .str)) := by
  have hcn := cnt_le 48 x
  have hlen := refs_len false 48 x
  have hC : Cl [Blk.row 15 [encSch x] false true 0] := Cl.nil.push _ _ _ _ (Nat.le_refl _)
  have hF : Fb [Blk.row 15 [encSch x] false true 0] := Fb.push (H := []) (fun j n e ro fl f h => by simp at h) (Nat.le_refl _)
  have hr := refs_run false 48 48 rfl (by decide) x hx _ _ _ _ hC hF .nil (by simp; omega)
  obtain ⟨ns, hns⟩ : ∃ ns, refsM false 48 x = ns := ⟨_, rfl⟩
  rw [hns] at hr hlen ⊢
  refine prun_of ac483 rfl ?_
  by_cases hnil : ns = []
  · subst hnil
    have e1 : sortS [] = [] := by simp [sortS]
    rw [e1]
    simp only [nextV, nextH, List.map_nil, if_true] at hr
    have h1 := ssort_nil (C := mkCtx codeS clRS clPS) (cs := csQ) (ln := lnQ) (ss := ssQ) (f := 510) (n := 1) (H := [Blk.row 15 [encSch x] false true 0]) rfl
    have h2 : RunOf CS 511 [.snil 1] [Blk.row 15 [encSch x] false true 0] (.snil 1) [Blk.row 15 [encSch x] false true 0] := by
      refine runC_of ac511 rfl ?_
      (repeat' first | simp (disch := omega) only [go_sem, ac511, enter, List.length_map] | (refine spl (fun h => ?_) (fun h => ?_) <;> try simp (disch := omega) only [go_sem, ac511, enter, List.length_map, h]) | fail)
      exact ⟨.inr rfl, _, rfl, rfl, rfl⟩
    rw [encSch_eq] at hr h1 h2 ⊢
    (repeat' first | simp (disch := omega) only [go_sem, ac483, enter] | (refine call_of _ _ hr ?_) | (refine call_of _ _ h1 ?_) | (refine call_of _ _ h2 ?_) | (refine spl (fun h => ?_) (fun h => ?_) <;> try simp (disch := omega) only [go_sem, ac483, enter , h]) | fail)
    rfl
  · have hmn : ¬ ns.map AV.str = [] := by simp [hnil]
    have hsl : (sortS ns).length = ns.length := List.length_mergeSort ..
    have hsn : sortS ns ≠ [] := fun e => by
      rw [e] at hsl
      exact hnil (List.length_eq_zero_iff.1 hsl.symm)
    simp only [nextV, nextH, if_neg hmn, List.nil_append, List.length_map, List.length_cons, List.length_nil, List.cons_append, Nat.zero_add] at hr
    have h1 := ssort_row (C := mkCtx codeS clRS clPS) (cs := csQ) (ln := lnQ) (so := ssQ) (f := 510) (r := 1) (fam := 1) (H := [Blk.row 15 [encSch x] false true 0, Blk.row 1 (ns.map .str) false true 1]) (H1 := [Blk.row 15 [encSch x] false true 0, Blk.row 1 (ns.map .str) false true 1]) ns rfl hnil (by show _ ≤ 2147483648; omega) rfl rfl rfl
    obtain ⟨c, h2, h3, h4⟩ := compact_run (encSch x) (sortS ns) (by omega) hsn
    rw [hsl] at h2
    have h5 := dd_len (sortS ns)
    have h6 : List.take (dd (sortS ns)).length (c.map AV.str) = (dd (sortS ns)).map AV.str := by rw [← List.map_take, h3]
    rw [encSch_eq] at hr h1 h2 ⊢
    simp only [R1] at h2
    (repeat' first | simp (disch := omega) only [go_sem, ac483, enter, h6, List.length_map] | (refine call_of _ _ hr ?_) | (refine call_of _ _ h1 ?_) | (refine call_of _ _ h2 ?_) | (refine spl (fun h => ?_) (fun h => ?_) <;> try simp (disch := omega) only [go_sem, ac483, enter, h6, List.length_map , h]) | fail)
    all_goals first | omega | skip
end Ago
/- The law SchemaSizes: both sides gather the same names. -/
set_option maxRecDepth 100000
set_option maxHeartbeats 4000000
namespace Ago
open Go (IntKind)
open Go.Op (bytesLess)
theorem bl_iff : ∀ a b : List UInt8, bytesLess a b = true ↔ a < b
  | [], [] => by simp [bytesLess]
  | [], _ :: _ => by simp [bytesLess]
  | _ :: _, [] => by simp [bytesLess]
  | a :: x, b :: y => by
    have := bl_iff x y
    simp only [bytesLess, Bool.or_eq_true, decide_eq_true_eq, Bool.and_eq_true, beq_iff_eq, List.cons_lt_cons_iff, this]
theorem lt_trans' {a b c : List UInt8} (h1 : a < b) (h2 : b < c) : a < c := List.lt_trans h1 h2
theorem lt_irr (a : List UInt8) : ¬ a < a := List.lt_irrefl a
theorem tri {a b : List UInt8} (h1 : ¬ a < b) (h2 : ¬ b < a) : a = b := List.le_antisymm (List.not_lt.1 h2) (List.not_lt.1 h1)
def Asc (l : List (List UInt8)) : Prop := l.Pairwise (· < ·)
theorem asc_eq : ∀ (a b : List (List UInt8)), Asc a → Asc b → (∀ x, x ∈ a ↔ x ∈ b) → a = b
  | [], [], _, _, _ => rfl
  | [], y :: b, _, _, h => by have := (h y).2 (by simp); simp at this
  | x :: a, [], _, _, h => by have := (h x).1 (by simp); simp at this
  | x :: a, y :: b, ha, hb, h => by
    have ha' := List.pairwise_cons.1 ha
    have hb' := List.pairwise_cons.1 hb
    have hxy : x = y := by
      rcases List.mem_cons.1 ((h x).1 (by simp)) with e | h1
      · exact e
      · rcases List.mem_cons.1 ((h y).2 (by simp)) with e | h2
        · exact e.symm
        · exact (lt_irr _ (lt_trans' (hb'.1 x h1) (ha'.1 y h2))).elim
    subst hxy
    congr 1
    refine asc_eq a b ha'.2 hb'.2 fun z => ⟨fun hz => ?_, fun hz => ?_⟩
    · rcases List.mem_cons.1 ((h z).1 (by simp [hz])) with rfl | h1
      · exact (lt_irr _ (ha'.1 _ hz)).elim
      · exact h1
    · rcases List.mem_cons.1 ((h z).2 (by simp [hz])) with rfl | h1
      · exact (lt_irr _ (hb'.1 _ hz)).elim
      · exact h1
theorem withM_mem (l : List (List UInt8)) (s x : List UInt8) : x ∈ withM l s ↔ x = s ∨ x ∈ l := by
  have hl : x ∈ l ↔ x ∈ l.takeWhile (fun y => bytesLess y s) ∨ x ∈ l.dropWhile (fun y => bytesLess y s) := by
    rw [← List.mem_append, List.takeWhile_append_dropWhile]
  unfold withM
  rw [hl]
  simp only [List.mem_append, List.mem_cons, List.mem_filter, Bool.not_eq_true', beq_eq_false_iff_ne]
  constructor
  · rintro (h | h | ⟨h, _⟩)
    · exact .inr (.inl h)
    · exact .inl h
    · exact .inr (.inr h)
  · rintro (h | h | h)
    · exact .inr (.inl h)
    · exact .inl h
    · by_cases e : x = s
      · exact .inr (.inl e)
      · exact .inr (.inr ⟨h, e⟩)
theorem mem_takeWhile {α : Type} {p : α → Bool} : ∀ {l : List α} {x : α}, x ∈ l.takeWhile p → p x = true
  | y :: l, x, h => by
    by_cases hy : p y = true
    · rw [List.takeWhile_cons_of_pos hy] at h
      rcases List.mem_cons.1 h with rfl | h
      · exact hy
      · exact mem_takeWhile h
    · rw [List.takeWhile_cons_of_neg hy] at h
      cases h
theorem asc_drop {s : List UInt8} : ∀ {l : List (List UInt8)}, Asc l → ∀ x, x ∈ l.dropWhile (fun y => bytesLess y s) → ¬ x < s
  | y :: l, ha, x, h => by
    have ha' := List.pairwise_cons.1 ha
    by_cases hy : bytesLess y s = true
    · rw [List.dropWhile_cons_of_pos (p := fun y => bytesLess y s) hy] at h
      exact asc_drop ha'.2 x h
    · rw [List.dropWhile_cons_of_neg (p := fun y => bytesLess y s) hy] at h
      have hy2 : ¬ y < s := fun e => hy ((bl_iff _ _).2 e)
      rcases List.mem_cons.1 h with rfl | h
      · exact hy2
      · exact fun e => hy2 (lt_trans' (ha'.1 x h) e)
theorem withM_asc {l : List (List UInt8)} {s : List UInt8} (h : Asc l) : Asc (withM l s) := by
  unfold withM Asc
  rw [List.pairwise_append]
  refine ⟨List.Pairwise.sublist (List.takeWhile_sublist _) h, ?_, fun a ha b hb => ?_⟩
  · rw [List.pairwise_cons]
    refine ⟨fun b hb => ?_, ?_⟩
    · obtain ⟨h1, h2⟩ := List.mem_filter.1 hb
      have h3 : ¬ b = s := by simpa using h2
      have h4 := asc_drop h b h1
      rcases Classical.em (s < b) with h5 | h5
      · exact h5
      · exact (h3 (tri h4 h5)).elim
    · exact List.Pairwise.sublist (List.Sublist.trans List.filter_sublist (List.dropWhile_sublist _)) h
  · have h1 : a < s := (bl_iff _ _).1 (mem_takeWhile (p := fun x => bytesLess x s) ha)
    rcases List.mem_cons.1 hb with rfl | hb
    · exact h1
    · obtain ⟨h2, h3⟩ := List.mem_filter.1 hb
      have h3 : ¬ b = s := by simpa using h3
      have h4 := asc_drop h b h2
      rcases Classical.em (s < b) with h5 | h5
      · exact lt_trans' h1 h5
      · exact (h3 (tri h4 h5)).elim
theorem fold_with : ∀ (m out : List (List UInt8)), Asc out → Asc (m.foldl withM out) ∧ ∀ x, x ∈ m.foldl withM out ↔ x ∈ out ∨ x ∈ m
  | [], out, h => ⟨h, fun x => by simp⟩
  | s :: m, out, h => by
    obtain ⟨h1, h2⟩ := fold_with m (withM out s) (withM_asc h)
    refine ⟨h1, fun x => ?_⟩
    rw [List.foldl_cons, h2, withM_mem, List.mem_cons]
    constructor
    · rintro ((h | h) | h)
      · exact .inr (.inl h)
      · exact .inl h
      · exact .inr (.inr h)
    · rintro (h | h | h)
      · exact .inl (.inr h)
      · exact .inl (.inl h)
      · exact .inr h
theorem fold_kids {f g : Sch → List (List UInt8)} (h : ∀ y, Asc (f y) ∧ ∀ x, x ∈ f y ↔ x ∈ g y) : ∀ (l : List Sch) (out : List (List UInt8)), Asc out → Asc (l.foldl (fun out y => (f y).foldl withM out) out) ∧ ∀ x, x ∈ l.foldl (fun out y => (f y).foldl withM out) out ↔ x ∈ out ∨ x ∈ l.flatMap g
  | [], out, ho => ⟨ho, fun x => by simp⟩
  | y :: l, out, ho => by
    obtain ⟨k1, k2⟩ := fold_with (f y) out ho
    obtain ⟨h1, h2⟩ := fold_kids h l ((f y).foldl withM out) k1
    refine ⟨h1, fun x => ?_⟩
    rw [List.foldl_cons, h2, k2, List.flatMap_cons, List.mem_append, (h y).2]
    constructor
    · rintro ((h | h) | h)
      · exact .inl h
      · exact .inr (.inl h)
      · exact .inr (.inr h)
    · rintro (h | h | h)
      · exact .inl (.inl h)
      · exact .inl (.inr h)
      · exact .inr h
theorem names_refs (o : Bool) : ∀ (d : Nat) (x : Sch), Asc (namesM o d x) ∧ ∀ s, s ∈ namesM o d x ↔ s ∈ refsM o d x
  | 0, x => by
    rw [namesM_zero, refsM_zero]
    exact ⟨List.Pairwise.nil, fun s => Iff.rfl⟩
  | d + 1, x => by
    have hb : Asc (if x.s.op = 14 then withM [] x.s.name else []) ∧ ∀ s, s ∈ (if x.s.op = 14 then withM [] x.s.name else []) ↔ s ∈ (if x.s.op = 14 then [x.s.name] else []) := by
      split
      · exact ⟨withM_asc .nil, fun s => by rw [withM_mem]; simp⟩
      · exact ⟨.nil, fun s => Iff.rfl⟩
    rw [namesM_succ, refsM_succ]
    split
    · refine ⟨hb.1, fun s => ?_⟩
      rw [hb.2, List.append_nil]
    · obtain ⟨h1, h2⟩ := fold_kids (f := namesM o d) (g := refsM o d) (names_refs o d) x.kids _ hb.1
      refine ⟨h1, fun s => ?_⟩
      rw [h2, hb.2, List.mem_append]
theorem ddGo_asc : ∀ (l : List (List UInt8)) (p : List UInt8), (p :: l).Pairwise (fun a b => ¬ b < a) → (∀ x, x ∈ ddGo p l → p < x) ∧ Asc (ddGo p l) ∧ ∀ x, x = p ∨ x ∈ ddGo p l ↔ x = p ∨ x ∈ l
  | [], p, _ => ⟨fun x h => by simp [ddGo] at h, .nil, fun x => by simp [ddGo]⟩
  | y :: l, p, h => by
    have h' := List.pairwise_cons.1 h
    have h'' := List.pairwise_cons.1 h'.2
    unfold ddGo
    by_cases e : y = p
    · subst e
      rw [if_pos rfl]
      obtain ⟨h1, h2, h3⟩ := ddGo_asc l y h'.2
      refine ⟨h1, h2, fun x => ?_⟩
      rw [h3, List.mem_cons]
      constructor
      · rintro (h | h)
        · exact .inl h
        · exact .inr (.inr h)
      · rintro (h | h | h)
        · exact .inl h
        · exact .inl h
        · exact .inr h
    · rw [if_neg e]
      obtain ⟨h1, h2, h3⟩ := ddGo_asc l y h'.2
      have hpy : p < y := by
        rcases Classical.em (p < y) with h5 | h5
        · exact h5
        · exact (e (tri (h'.1 y (by simp)) h5)).elim
      refine ⟨fun x hx => ?_, List.pairwise_cons.2 ⟨h1, h2⟩, fun x => ?_⟩
      · rcases List.mem_cons.1 hx with rfl | hx
        · exact hpy
        · exact lt_trans' hpy (h1 x hx)
      · rw [List.mem_cons, List.mem_cons, h3]
theorem dd_asc {l : List (List UInt8)} (h : l.Pairwise (fun a b => ¬ b < a)) : Asc (dd l) ∧ ∀ x, x ∈ dd l ↔ x ∈ l := by
  cases l with
  | nil => exact ⟨.nil, fun x => Iff.rfl⟩
  | cons p l =>
    obtain ⟨h1, h2, h3⟩ := ddGo_asc l p h
    refine ⟨List.pairwise_cons.2 ⟨h1, h2⟩, fun x => ?_⟩
    unfold dd
    rw [List.mem_cons, h3, List.mem_cons]
theorem sortS_pair (l : List (List UInt8)) : (sortS l).Pairwise (fun a b => ¬ b < a) := by
  have h := List.pairwise_mergeSort (le := fun x y : List UInt8 => decide (x ≤ y)) (fun a b c h1 h2 => by simp at h1 h2 ⊢; exact List.le_trans h1 h2) (fun a b => by simp; exact List.le_total a b) l
  exact h.imp fun {a b} h => by
    have := of_decide_eq_true h
    exact List.not_lt.2 this
theorem names_eq (x : Sch) : dd (sortS (refsM false 48 x)) = namesM false 48 x := by
  obtain ⟨h1, h2⟩ := dd_asc (sortS_pair (refsM false 48 x))
  obtain ⟨h3, h4⟩ := names_refs false 48 x
  refine asc_eq _ _ h1 h3 fun s => ?_
  rw [h2, h4]
  exact (List.mergeSort_perm _ _).mem_iff
theorem schemaSizes_run (haw : PRun CS 456 [] (.bool true)) (x : Sch) (hx : x.bulk ≤ 2 ^ 24) : PRun CS 452 [encSch x] (.bool true) := by
  obtain ⟨b, hb⟩ := Small_ex x hx
  have h1 := Size_run x hx
  have h2 := refSize_run x hx
  have h3 := Refs_run x hx
  have h4 := refRefs_run x hx
  rw [names_eq] at h3
  have hn := names_len false 48 x
  have hc := cnt_le 48 x
  have h5 := strings_self (namesM false 48 x) (by omega)
  refine prun_of ac452 rfl ?_
  rw [encSch_eq] at *
  cases b with
  | true => (repeat' first | simp (disch := omega) only [go_sem, ac452, enter] | refine pure_of _ (hb) ?_ | refine pure_of _ (h1) ?_ | refine pure_of _ (h2) ?_ | refine pure_of _ (h3) ?_ | refine pure_of _ (h4) ?_ | refine pure_of _ (h5) ?_ | refine pure_of _ (haw) ?_ | (refine spl (fun h => ?_) (fun h => ?_) <;> try simp (disch := omega) only [go_sem, ac452, enter , h]) | fail)
  | false => (repeat' first | simp (disch := omega) only [go_sem, ac452, enter] | refine pure_of _ (hb) ?_ | refine pure_of _ (haw) ?_ | (refine spl (fun h => ?_) (fun h => ?_) <;> try simp (disch := omega) only [go_sem, ac452, enter , h]) | fail)
end Ago
