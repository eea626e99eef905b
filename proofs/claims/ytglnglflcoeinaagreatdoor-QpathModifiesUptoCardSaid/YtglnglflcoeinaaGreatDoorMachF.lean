/- slices.SortFunc on a row of trees of one cell each, under a comparison that the machine computes and that tells every two elements apart: the kit's contract, as a function that is taken as it is. -/
import Derived.Test.YtglnglflcoeinaaGreatDoorMachD
import Derived.Test.YtglnglflcoeinaaGreatDoorMachE
import Derived.Shelf.SlSortCmp.NoneTotal
set_option linter.unusedSimpArgs false
set_option linter.unusedVariables false
namespace Ago
open Go Go.Proofs Go.Sort Go.Shelf

theorem oneCells {x : AV} (h : x.one = true) : x.cells = [x] := by cases x <;> first | rfl | cases h

theorem setCells_eq (b : Nat) : ∀ (vs : List Value) (o : Nat) (w : World), w.setCells b o vs = mapBlock w b fun c => c.mapIdx fun k x => if o ≤ k ∧ k < o + vs.length then (vs[k - o]?).getD x else x
  | [], o, w => by
    symm
    refine mapBlock_id w b _ fun c e fr _ => ?_
    apply Array.ext_getElem?
    intro k
    rw [Array.getElem?_mapIdx]
    cases c[k]? with
    | none => rfl
    | some y =>
      rw [Option.map_some, if_neg (by simp only [List.length_nil]; omega)]
  | v :: vs, o, w => by
    rw [World.setCells, setCells_eq b vs (o + 1), setCell_eq, mapBlock_mapBlock]
    refine mapBlock_congr _ _ _ _ fun c _ _ _ => ?_
    apply Array.ext_getElem?
    intro k
    rw [Array.getElem?_mapIdx, Array.getElem?_mapIdx, Array.getElem?_setIfInBounds]
    by_cases hk : o = k
    · subst hk
      rw [if_pos rfl]
      by_cases hc : o < c.size
      · rw [if_pos hc, Array.getElem?_eq_getElem hc, Option.map_some, Option.map_some, if_neg (by omega), if_pos (by simp)]
        simp
      · rw [if_neg hc, Array.getElem?_eq_none (by omega)]
        rfl
    · rw [if_neg hk]
      cases c[k]? with
      | none => rfl
      | some y =>
        rw [Option.map_some, Option.map_some]
        by_cases h1 : o + 1 ≤ k ∧ k < o + 1 + vs.length
        · rw [if_pos h1, if_pos (by simp only [List.length_cons]; omega), show k - o = (k - (o + 1)) + 1 by omega, List.getElem?_cons_succ]
        · rw [if_neg h1, if_neg (by simp only [List.length_cons]; omega)]

theorem putRow_cells {α : Type} [Inhabited α] (enc : α → Value) (w : World) (blk off : Nat) (d : Array α) : putRow enc w blk off d = w.setCells blk off (d.toList.map enc) := by
  rw [setCells_eq]
  unfold putRow
  refine mapBlock_congr _ _ _ _ fun c _ _ _ => ?_
  apply Array.ext_getElem?
  intro k
  unfold putCells
  rw [Array.getElem?_mapIdx, Array.getElem?_mapIdx]
  cases c[k]? with
  | none => rfl
  | some y =>
    rw [Option.map_some, Option.map_some]
    by_cases h : off ≤ k ∧ k < off + d.size
    · rw [if_pos h, if_pos (by simpa using h)]
      have hk : k - off < d.size := by omega
      rw [List.getElem?_map, Array.getElem?_toList, Array.getElem?_eq_getElem hk, Option.map_some, Option.getD_some, getElem!_pos d _ hk]
    · rw [if_neg h, if_neg (by simpa using h)]

theorem sortWorld_heap {α : Type} [Inhabited α] (enc : α → Value) (w : World) (blk off m : Nat) (dk : Array α) (os : Array Obj) {b : Nat} (hb : b < w.heap.size) : (sortWorld enc w blk off m dk os).heap[b]? = (w.setCells blk off (dk.toList.map enc)).heap[b]? := by
  rw [← putRow_cells]
  show ((putRow enc (Sort.ahead w m) blk off dk).heap ++ os)[b]? = _
  have : b < (putRow enc (Sort.ahead w m) blk off dk).heap.size := by rw [Go.Sort.size_putRow]; exact hb
  rw [Array.getElem?_append_left this]
  rfl

theorem bel_grow {W w' : World} (h : Bel W.heap.size W w') : ∃ q os', w' = grow (W.drewN q) os' := by
  refine ⟨w'.drawn - W.drawn, w'.heap.extract W.heap.size w'.heap.size, ?_⟩
  have h1 : w'.heap = W.heap ++ w'.heap.extract W.heap.size w'.heap.size := by
    apply Array.ext_getElem?
    intro k
    by_cases hk : k < W.heap.size
    · rw [Array.getElem?_append_left hk, h.block k hk]
    · rw [Array.getElem?_append_right (by omega), Array.getElem?_extract]
      by_cases hk2 : k < w'.heap.size
      · rw [if_pos (by omega)]
        congr 1
        omega
      · rw [if_neg (by omega), Array.getElem?_eq_none (by omega)]
  have h2 : w'.drawn = W.drawn + (w'.drawn - W.drawn) := by have := h.drawn; omega
  have k1 := h.os
  have k2 := h.tape
  have k3 := h.output
  show w' = { heap := W.heap ++ w'.heap.extract W.heap.size w'.heap.size, tape := W.tape, drawn := W.drawn + (w'.drawn - W.drawn), os := W.os, output := W.output }
  obtain ⟨a, b, c, d, e⟩ := w'
  simp only at h1 h2 k1 k2 k3 ⊢
  rw [← h1, ← h2, k1, k2, k3]

theorem pick_all {Q : AV → Value → Prop} {c : Array Value} : ∀ (xs : List AV) (k : Nat), (∀ i x, xs[i]? = some x → ∃ v, c[k + i]? = some v ∧ Q x v) → ∃ l : List {p : AV × Value // Q p.1 p.2}, l.map (fun p => p.1.1) = xs ∧ ∀ i p, l[i]? = some p → c[k + i]? = some p.1.2
  | [], k, _ => ⟨[], rfl, fun i p h => by simp at h⟩
  | x :: xs, k, h => by
    obtain ⟨v, h1, h2⟩ := h 0 x rfl
    obtain ⟨l, h3, h4⟩ := pick_all xs (k + 1) fun i y hy => by
      obtain ⟨u, h5, h6⟩ := h (i + 1) y (by simpa using hy)
      exact ⟨u, by rw [show k + 1 + i = k + (i + 1) by omega]; exact h5, h6⟩
    refine ⟨⟨(x, v), h2⟩ :: l, by rw [List.map_cons, h3], fun i p hp => ?_⟩
    cases i with
    | zero =>
      simp only [List.getElem?_cons_zero, Option.some.injEq] at hp
      rw [← hp]
      exact h1
    | succ i =>
      rw [show k + (i + 1) = k + 1 + i by omega]
      exact h4 i p (by simpa using hp)

section
variable {P : Program} {fid : FuncId → Option Nat} {pf : Nat → Bool}

/-- The function is slices.SortFunc at an element of one cell, as the kit lays it. -/
def SortAt (P : Program) (fid : FuncId → Option Nat) (f : Nat) : Prop := ∀ g, fid g = some f → ∃ ρ, SlLaysF.n6 P ρ ∧ ρ.f 6 = g

theorem sort_run {so : Nat → Bool} {PR : Nat → List AV → AV → Prop} (hF : Fids P fid) (hS : ∀ f, so f = true → SortAt P fid f) (hPR : ∀ f ts v, PR f ts v → SimPure P fid f ts v) {f : Nat} {args : List AV} {H H' : Heap} {v : AV}
    (h : sortOk so PR f args H v H') : SimRun P fid f args H v H' := by
  intro g hg M φ B us w hargs hH hB
  obtain ⟨hso, rfl, h⟩ := h
  obtain ⟨ρ, L, rfl⟩ := hS f hso g hg
  rcases h with ⟨n, g2, cap, rfl, rfl⟩ | ⟨r, g2, els, els', fam, c, H1, rfl, hne, hlim, hr, hst, rfl, hord, hone, hcmp, hperm, hsort⟩
  · obtain ⟨u0, u1, rfl⟩ : ∃ u0 u1, us = #[u0, u1] := by
      have h1 := hargs.1
      simp at h1
      obtain ⟨l⟩ := us
      match l, h1 with
      | [a, b], _ => exact ⟨a, b, rfl⟩
    have h0 : VRel fid M _ φ (.snil n) u0 := hargs.head
    cases h0 with
    | snil _ a =>
      refine (AnyF.slices_SortFunc_none (P := P) (ρ := ρ) { L with } a 0 u1 w).mono fun e w' he => ?_
      obtain ⟨rfl, rfl⟩ := he
      exact ⟨_, rfl, M, φ, unit_rel, hH, Ext.refl ..⟩
  · obtain ⟨u0, u1, rfl⟩ : ∃ u0 u1, us = #[u0, u1] := by
      have h1 := hargs.1
      simp at h1
      obtain ⟨l⟩ := us
      match l, h1 with
      | [a, b], _ => exact ⟨a, b, rfl⟩
    have h0 : VRel fid M H φ (.sref 1 r 0 els.length) u0 := hargs.head
    have h1 : VRel fid M H φ (.fn g2 []) u1 := hargs.tail.head
    have hpos : 0 < els.length := List.length_pos_iff.2 hne
    have R := hH.row _ _ _ _ _ _ hr
    obtain ⟨cs, t, fr, hc, hsz, hfz, hcell⟩ := R.cells
    cases h0 with
    | sref _ _ _ _ cap a hc0 ha0 hp0 hsl =>
    cases h1 with
    | fn _ g3 _ vs hg3 hl3 hv3 =>
    have hvs : vs = #[] := Array.size_eq_zero_iff.1 (by simpa using hl3.symm)
    subst hvs
    obtain ⟨_, hsl2⟩ := hsl _ _ _ _ hr
    obtain ⟨rfl, _⟩ := hsl2 (by omega)
    have hpick := pick_all (Q := fun x v => x ∈ els ∧ VRel fid M [] φ x v ∧ v.oneCell' = true) (c := cs) els (φ r).off fun i x hx => by
      have hxm := List.mem_of_getElem? hx
      have hx1 := hone x hxm
      obtain ⟨v, h2, h3⟩ := hcell i x 0 x hx (by rw [oneCells hx1]; rfl)
      refine ⟨v, by simpa using h2, hxm, h3.bare (fun _ _ _ h => h) (R.flat rfl x hxm), h3.oneCell hx1⟩
    obtain ⟨l, hl1, hl2⟩ := hpick
    have hll : l.length = els.length := by
      have := congrArg List.length hl1
      simpa using this
    have hinh : Inhabited {p : AV × Value // p.1 ∈ els ∧ VRel fid M [] φ p.1 p.2 ∧ p.2.oneCell' = true} := ⟨l[0]'(by omega)⟩
    have hO : SWO (ltOf fun (x y : {p : AV × Value // p.1 ∈ els ∧ VRel fid M [] φ p.1 p.2 ∧ p.2.oneCell' = true}) => c x.1.1 y.1.1) := by
      refine ⟨fun x => ?_, fun x y z h1 h2 => ?_, fun x y z h1 h2 => ?_⟩
      · simpa [ltOf] using hord.irrefl _ x.2.1
      · simp only [ltOf, decide_eq_true_eq] at h1 h2 ⊢
        exact hord.trans _ _ _ x.2.1 y.2.1 z.2.1 h1 h2
      · simp only [ltOf, decide_eq_false_iff_not] at h1 h2 ⊢
        intro h3
        by_cases h4 : c y.1.1 x.1.1 < 0
        · exact h2 (hord.trans _ _ _ y.2.1 x.2.1 z.2.1 h4 h3)
        · have := hord.total _ _ x.2.1 y.2.1 h1 h4
          rw [this] at h3
          exact h2 h3
    have hmem : ∀ (dk : List Value), dk.length = els.length → ∀ (m : World), (∀ b, b < w.heap.size → m.heap[b]? = (w.setCells (φ r).blk (φ r).off dk).heap[b]?) → ∀ b o u, M b o = some u → m.cell? ⟨b, o, none⟩ = some u := fun dk hdk m hm b o u hu => by
      have W := hH.write (p := 0) (vs := dk) hr hst (.inl rfl) (.inl rfl) (by simp) (by have := R.fits; omega)
      rw [Nat.add_zero] at W
      have h2 := W.mem b o u hu
      rw [← h2]
      exact World.cell?_of_block (hm b (mem_lt hH hu))
    have hblk : (φ r).blk < w.heap.size := by
      rcases Nat.lt_or_ge (φ r).blk w.heap.size with h | h
      · exact h
      · rw [Array.getElem?_eq_none h] at hc
        cases hc
    have hcl : CmpLays1 P g3 #[] (fun x : {p : AV × Value // p.1 ∈ els ∧ VRel fid M [] φ p.1 p.2 ∧ p.2.oneCell' = true} => x.1.2) (fun x y => c x.1.1 y.1.1) (φ r).blk (φ r).off l.toArray.size w := by
      intro m os dk hs x y
      have hp := hPR _ _ _ (hcmp x.1.1 y.1.1 x.2.1 y.2.1) g3 hg3 M φ #[x.1.2, y.1.2] (sortWorld (fun x : {p : AV × Value // p.1 ∈ els ∧ VRel fid M [] φ p.1 p.2 ∧ p.2.oneCell' = true} => x.1.2) w (φ r).blk (φ r).off m dk os) (VRels.cons x.2.2.1 (VRels.cons y.2.2.1 VRels.nil))
        (hmem (dk.toList.map fun x => x.1.2) (by simp at hs ⊢; omega) _ fun b hb => sortWorld_heap _ _ _ _ _ _ _ hb)
      refine (show Calls P g3 (#[x.1.2, y.1.2] ++ #[]) _ _ from by rw [Array.append_empty]; exact hp).mono fun e w' he => ?_
      obtain ⟨rr, rfl, M', h2, _, _, _, h3⟩ := he
      cases h2
      exact ⟨rfl, bel_grow h3⟩
    have eg : ∀ args w, (callFunc g3 args).run P w = .ok (.enter g3 args) w := by
      obtain ⟨fn, k1, k2, k3⟩ := hF _ _ hg3
      obtain ⟨cd, k4⟩ := Option.isSome_iff_exists.1 k2
      exact enters_of k1 k3 k4
    have hHolds : Holds (fun x : {p : AV × Value // p.1 ∈ els ∧ VRel fid M [] φ p.1 p.2 ∧ p.2.oneCell' = true} => x.1.2) w (φ r).blk (φ r).off l.toArray := by
      intro j hj
      have hj' : j < l.length := by simpa using hj
      have hfits := R.fits
      refine ⟨?_, frozen_of_heap hc (hfz _ (by omega))⟩
      rw [cell_of_heap hc, getElem!_pos l.toArray j hj]
      exact hl2 j _ (by rw [List.getElem?_eq_getElem hj']; simp)
    have hmain := Any.slices_SortFunc L _ (fun x => x.2.2.2) _ hO g3 #[] (φ r).blk (φ r).off cap l.toArray w eg hcl hHolds hblk (by rw [List.size_toArray, hll]; have : lim = 2147483648 := rfl; omega)
    rw [List.size_toArray, hll] at hmain
    rw [Nat.zero_mul, Nat.add_zero]
    refine hmain.mono fun e w' he => ?_
    obtain ⟨rfl, d', n, os, hp, hs, rfl⟩ := he
    obtain ⟨hd1, _, hd2⟩ := hp
    have e1 : d'.extract 0 els.length = d' := by
      rw [← hll, ← List.size_toArray, ← hd1]
      exact Array.extract_size
    have e2 : l.toArray.extract 0 els.length = l.toArray := by
      rw [← hll, ← List.size_toArray]
      exact Array.extract_size
    rw [e1, e2] at hd2
    have hdl : d'.size = els.length := by rw [hd1, List.size_toArray, hll]
    have hel : d'.toList.map (fun x => x.1.1) = els' := by
      refine List.Perm.eq_of_pairwise (le := fun x y => x ∈ els ∧ y ∈ els ∧ ¬ c y x < 0) (fun a b _ _ h1 h2 => hord.total _ _ h1.1 h1.2.1 h2.2.2 h1.2.2) ?_ ?_ ?_
      · rw [List.pairwise_iff_getElem]
        intro i j hi hj hij
        simp only [List.length_map, Array.length_toList] at hi hj
        simp only [List.getElem_map, Array.getElem_toList]
        refine ⟨d'[i].2.1, d'[j].2.1, ?_⟩
        have := hs i j (Nat.zero_le _) hij (by omega)
        rw [getElem!_pos d' i hi, getElem!_pos d' j hj] at this
        simpa [ltOf] using this
      · have hm : ∀ x, x ∈ els' → x ∈ els := fun x hx => hperm.mem_iff.2 hx
        exact hsort.imp_of_mem fun h1 h2 h3 => ⟨hm _ h1, hm _ h2, h3⟩
      · have := hd2.map (fun x : {p : AV × Value // p.1 ∈ els ∧ VRel fid M [] φ p.1 p.2 ∧ p.2.oneCell' = true} => x.1.1)
        rw [hl1] at this
        exact this.trans hperm
    have hW := hH.rewrite (els' := els') (fl' := true) (p := 0) (us := d'.toList.map fun x => x.1.2) (vs := els') hr hst (by rw [← hperm.length_eq]; omega) ?_ hperm.length_eq.symm ?_ ?_ ?_
    · rw [Nat.add_zero] at hW
      obtain ⟨hw1, hw2, hw3⟩ := hW
      have hsz2 : (w.setCells (φ r).blk (φ r).off (d'.toList.map fun x => x.1.2)).heap.size = w.heap.size := by rw [← putRow_cells, Go.Sort.size_putRow]
      have hw4 := hw1.world (w' := sortWorld (fun x : {p : AV × Value // p.1 ∈ els ∧ VRel fid M [] φ p.1 p.2 ∧ p.2.oneCell' = true} => x.1.2) w (φ r).blk (φ r).off n d' os) fun b hb => sortWorld_heap _ _ _ _ _ _ _ (by rw [← hsz2]; exact hb)
      refine ⟨_, rfl, M, φ, unit_rel, hw4, fun _ _ _ h => h, fun _ _ _ h _ => h, hw2.later, ⟨⟨rfl, rfl, rfl, ?_, fun k hk => ?_⟩, Nat.le_add_right _ _⟩⟩
      · show w.heap.size ≤ ((putRow _ (Sort.ahead w n) _ _ _).heap ++ os).size
        rw [Array.size_append, Go.Sort.size_putRow]
        exact Nat.le_add_right _ _
      · rw [sortWorld_heap _ _ _ _ _ _ _ (by omega)]
        exact hw3.block k hk
    · rw [← hel]
      refine ⟨by simp, fun i x v hx hv => ?_⟩
      rw [List.getElem?_map] at hx hv
      cases hdi : d'.toList[i]? with
      | none => rw [hdi] at hx; cases hx
      | some z =>
        rw [hdi] at hx hv
        cases hx
        cases hv
        exact z.2.2.1.clad
    · have hfl : ∀ ys : List AV, (∀ y, y ∈ ys → y.one = true) → Ago.flat ys = ys := by
        intro ys hys
        induction ys with
        | nil => rfl
        | cons y ys ih => rw [Ago.flat, oneCells (hys y (List.mem_cons_self ..)), ih fun z hz => hys z (List.mem_cons_of_mem _ hz)]; rfl
      rw [hfl els' fun y hy => hone y (hperm.mem_iff.2 hy), hfl els hone, Nat.zero_add, ← hperm.length_eq, List.drop_length, List.take_zero, List.nil_append, List.append_nil]
    · intro x hx
      have := hone x (hperm.mem_iff.2 hx)
      rw [oneCells this]
      exact ⟨rfl, by simp [this]⟩
    · exact fun _ x hx => R.flat rfl x (hperm.mem_iff.2 hx)
end

/-- A machine with sorts is one. -/
theorem sortCtx_ok {P : Program} {fid : FuncId → Option Nat} {pf : Nat → Bool} {C : Ctx} {so : Nat → Bool} (hC : CtxOk P fid pf C) (hS : ∀ f, so f = true → C.code f = none ∧ SortAt P fid f ∧ ∀ a H v H', ¬ C.prim f a H v H') : CtxOk P fid pf (sortCtx C so) := by
  have hPR : ∀ f ts v, PRun C f ts v → SimPure P fid f ts v := fun f ts v h => (sound hC h).1
  refine ⟨hC.fids, hC.coded, fun f args H v H' hp => ?_, hC.pprim⟩
  rcases hp with hp | hp
  · obtain ⟨h1, h2, h3⟩ := hC.prim _ _ _ _ _ hp
    refine ⟨h1, h2, fun v2 H2 hp2 => ?_⟩
    rcases hp2 with hp2 | hp2
    · exact h3 _ _ hp2
    · exact ((hS f hp2.1).2.2 _ _ _ _ hp).elim
  · refine ⟨(hS f hp.1).1, sort_run hC.fids (fun f hf => (hS f hf).2.1) hPR hp, fun v2 H2 hp2 => ?_⟩
    rcases hp2 with hp2 | hp2
    · exact ((hS f hp.1).2.2 _ _ _ _ hp2).elim
    · obtain ⟨_, rfl, hp⟩ := hp
      obtain ⟨_, rfl, hp2⟩ := hp2
      refine ⟨rfl, ?_⟩
      rcases hp with ⟨n, g, cap, h1, h2⟩ | ⟨r, g, els, els', fam, c, H1, h1, h2, h3, h4, h5, h6, h7, h8, h9, h10, h11⟩
      · rcases hp2 with ⟨n', g', cap', k1, k2⟩ | ⟨r', g', fs, fs', fam', c', H2, k1, k2, k3, k4, k5, k6, k7, k8, k9, k10, k11⟩
        · rw [h2, k2]
        · rw [h1] at k1
          simp at k1
      · rcases hp2 with ⟨n', g', cap', k1, k2⟩ | ⟨r', g', fs, fs', fam', c', H2, k1, k2, k3, k4, k5, k6, k7, k8, k9, k10, k11⟩
        · rw [h1] at k1
          simp at k1
        · rw [h1] at k1
          simp only [List.cons.injEq, AV.sref.injEq, AV.fn.injEq, and_true, true_and] at k1
          obtain ⟨⟨rfl, _⟩, rfl⟩ := k1
          rw [h4] at k4
          cases k4
          rw [h5] at k5
          cases k5
          have hc : ∀ x y, x ∈ els → y ∈ els → c x y = c' x y := fun x y hx hy => by
            have := (sound hC (h9 x y hx hy)).2.2 _ (k9 x y hx hy)
            simp only [AV.int.injEq, true_and] at this
            exact this.symm
          have he : els' = fs' := by
            have hm1 : ∀ x, x ∈ els' → x ∈ els := fun x hx => h10.mem_iff.2 hx
            have hm2 : ∀ x, x ∈ fs' → x ∈ els := fun x hx => k10.mem_iff.2 hx
            refine List.Perm.eq_of_pairwise (le := fun x y => x ∈ els ∧ y ∈ els ∧ ¬ c y x < 0) (fun a b _ _ h1 h2 => h7.total _ _ h1.1 h1.2.1 h2.2.2 h1.2.2) ?_ ?_ (h10.symm.trans k10)
            · exact h11.imp_of_mem fun h1 h2 h3 => ⟨hm1 _ h1, hm1 _ h2, h3⟩
            · exact k11.imp_of_mem fun h1 h2 h3 => ⟨hm2 _ h1, hm2 _ h2, by rw [hc _ _ (hm2 _ h2) (hm2 _ h1)]; exact h3⟩
          rw [h6, k6, he]
end Ago
