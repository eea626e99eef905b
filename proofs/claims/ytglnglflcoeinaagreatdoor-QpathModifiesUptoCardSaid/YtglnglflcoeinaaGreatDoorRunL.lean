/- The reference's Delete. -/
import Derived.Test.YtglnglflcoeinaaGreatDoorRunK
import Derived.Test.YtglnglflcoeinaaGreatDoorRunJ
import Derived.Test.YtglnglflcoeinaaGreatDoorMachE
set_option linter.unusedSimpArgs false
set_option linter.unusedVariables false
set_option maxRecDepth 100000
set_option maxHeartbeats 4000000
namespace Ago
open Go (IntKind)
theorem without_run (l : List (List Stp)) (hl : l.length < 2 ^ 30) (hq : ∀ q, q ∈ l → q.length < 2 ^ 30) : ∀ (n : Nat) (v : V) (at_ : List Stp), Gd n v → v.bulk ≤ 2 ^ 24 → at_.length + n < 2 ^ 23 →
    PRun C0 37 [encV v, .tsl 3 (at_.map encS), encPs l] (encV (woM n v at_ l))
  | 0, v, at_, hg, _, _ => by cases hg
  | n + 1, v, at_, hg, hv, ha => by
    have L := V.lens hv
    by_cases hb : v.l = [] ∧ v.f = []
    · rw [woM, if_pos hb]
      exact without0_run v at_ l hb.1 hb.2
    · obtain ⟨s1, s2⟩ := own_ok hg.own
      obtain ⟨_, k6, k7⟩ := own_shape hg.own
      rw [woM, if_neg hb]
      by_cases h6 : v.s.kind = 6
      · rw [if_pos h6]
        have hf : v.f = [] := by
          rcases s2 with h | h
          · omega
          · exact List.eq_nil_of_length_eq_zero h
        have e : encV v = encV (listV v.l) := congrArg encV (k6 h6)
        rw [e]
        refine withoutL_run (fun x q => woM n x q l) v.l at_ l (fun h => hb ⟨h, hf⟩) L.list (by omega) hl hq fun x hx q hql => ?_
        exact without_run l hl hq n x q (hg.kids x (by unfold V.kids; rw [if_neg (by omega)]; exact hx)) (by have := L.kids x hx; omega) (by omega)
      · rw [if_neg h6]
        have hll : v.l = [] := by
          rcases s1 with h | h
          · omega
          · exact List.eq_nil_of_length_eq_zero h
        have h7 : v.s.kind = 7 := by
          rcases s2 with h | h
          · exact h
          · exact (hb ⟨hll, List.eq_nil_of_length_eq_zero h⟩).elim
        have e : encV v = encV (mapV v.f) := congrArg encV (k7 h7)
        rw [e]
        refine withoutF_run (fun x q => woM n x q l) v.f at_ l (fun h => hb ⟨hll, h⟩) L.fields (by omega) hl hq fun x hx q hql => ?_
        exact without_run l hl hq n x.2 q (hg.kids x.2 (by unfold V.kids; rw [if_pos h7]; exact List.mem_map_of_mem hx)) (by have := (L.fkids x hx).1; omega) (by omega)
/-- The first error, path by path. -/
noncomputable def delErr (v : V) : List (List Stp) → Int
  | [] => 0
  | p :: r => if pathOk p = false then 1 else if (getM v p).2 ≠ 0 then (getM v p).2 else delErr v r
noncomputable def delM (v : V) (l : List (List Stp)) : V × Int := if delErr v l ≠ 0 then (nullV, delErr v l) else if l.any List.isEmpty then (nullV, 0) else (woM 100 v [] l, 0)
theorem delErr_drop {v : V} {l : List (List Stp)} {k : Nat} {p : List Stp} (hm : delErr v l = delErr v (l.drop k)) (hx : l[k]? = some p) (h1 : pathOk p = true) (h2 : (getM v p).2 = 0) : delErr v l = delErr v (l.drop (k + 1)) := by
  rw [hm, drop_cons hx, delErr, if_neg (by rw [h1]; simp), if_neg (by rw [h2]; simp)]
theorem any_take {α : Type} {f : α → Bool} {l : List α} {k : Nat} {p : α} (hx : l[k]? = some p) : (l.take (k + 1)).any f = ((l.take k).any f || f p) := by
  rw [List.take_add_one, hx, List.any_append]
  simp
theorem encP_eq (p : List Stp) : encP p = .tsl 3 (p.map encS) := rfl
theorem refDelete_run (v : V) (l : List (List Stp)) (hg : Gd 100 v) (hv : v.bulk ≤ 2 ^ 24) (hl : l.length < 2 ^ 30) (hq : ∀ q, q ∈ l → q.length < 2 ^ 30 ∧ ∀ s, s ∈ q → s.key.length < 2 ^ 30) :
    PRun C0 17 [encV v, encPs l] (.tup [encV (delM v l).1, .int .i64 (delM v l).2]) := by
  have h37 := without_run l hl (fun q hq' => (hq q hq').1) 100 v [] hg hv (by simp)
  have hfine : Fine v := ⟨⟨100, by omega, hg.good⟩, hv⟩
  refine prun_of ac17 rfl ?_
  unfold encPs at *
  have hve := encV_eq v
  rw [encV_eq v]
  (repeat' first | simp (disch := omega) only [go_sem, ac17, enter] | ((apply spl) <;> intro h <;> try simp (disch := omega) only [go_sem, ac17, enter, h]))
  refine loop_of (α := Nat) (fun k => { tmps := slots 50 [(1, .tsl 1 (l.map encP)), (2, .ptr 13 0 0 0), (4, .ptr 13 1 0 0), (6, .bool ((l.take k).any List.isEmpty)), (7, .int .i64 k)], heap := [.row 13 [encV v] false true 0, .row 13 [zeroS] false true 1], base := 0 }) (fun k => k ≤ l.length ∧ delErr v l = delErr v (l.drop k)) (fun k => l.length - k) 0 (by rw [hve]; rfl) ⟨Nat.zero_le _, rfl⟩ ?_
  rintro k ⟨hk, hm⟩
  rw [hve]
  by_cases hlt : k < l.length
  · obtain ⟨p, hx⟩ := get_some hlt
    have hpm := List.mem_of_getElem? hx
    obtain ⟨hp1, hp2⟩ := hq p hpm
    have hx2 := map_get (g := encP) hx
    rw [encP_eq] at hx2
    have h12 := validPath_run p hp1 hp2
    have h14 := refGet_run v p hfine hp1
    have hd := drop_cons hx
    cases hok : pathOk p with
    | false =>
      rw [hok] at h12
      have he : delErr v l = 1 := by rw [hm, hd, delErr, if_pos hok]
      rw [show delM v l = (nullV, 1) by unfold delM; rw [he, if_pos (by simp)], nullV_enc]
      (repeat' first | simp (disch := omega) only [go_sem, hx2, zeroS, List.length_map] | refine pure_of _ (h12) ?_ | ((apply spl) <;> intro h <;> try simp (disch := omega) only [go_sem, hx2, zeroS, List.length_map , h]))
    | true =>
      rw [hok] at h12
      by_cases hz : (getM v p).2 = 0
      · have hm2 := delErr_drop hm hx hok hz
        have ha := any_take (f := List.isEmpty) hx
        have hpe : p.isEmpty = decide ((p.length : Int) = 0) := by cases p <;> simp <;> omega
        generalize getM v p = R at h14 hz
        rw [hz, hve, encV_eq R.1] at h14
        have hbe : ((p.length : Int) == 0) = p.isEmpty := by rw [hpe]; rfl
        cases hb : (l.take k).any List.isEmpty with
        | true =>
          rw [hb] at ha
          (repeat' first | simp (disch := omega) only [go_sem, hx2, zeroS, List.length_map, keep_mk] | refine pure_of _ (h12) ?_ | refine pure_of _ (h14) ?_ | ((apply spl) <;> intro h <;> try simp (disch := omega) only [go_sem, hx2, zeroS, List.length_map, keep_mk , h]))
          exact ⟨k + 1, by rw [ha]; rfl, ⟨hlt, hm2⟩, by omega⟩
        | false =>
          rw [hb] at ha
          (repeat' first | simp (disch := omega) only [go_sem, hx2, zeroS, List.length_map, keep_mk, hbe] | refine pure_of _ (h12) ?_ | refine pure_of _ (h14) ?_ | ((apply spl) <;> intro h <;> try simp (disch := omega) only [go_sem, hx2, zeroS, List.length_map, keep_mk, hbe , h]))
          exact ⟨k + 1, by rw [ha]; rfl, ⟨hlt, hm2⟩, by omega⟩
      · have he : delErr v l = (getM v p).2 := by rw [hm, hd, delErr, if_neg (by rw [hok]; simp), if_pos hz]
        rw [show delM v l = (nullV, (getM v p).2) by unfold delM; rw [he, if_pos hz], nullV_enc]
        generalize getM v p = R at h14 hz
        rw [hve, encV_eq R.1] at h14
        (repeat' first | simp (disch := omega) only [go_sem, hx2, zeroS, List.length_map, keep_mk] | refine pure_of _ (h12) ?_ | refine pure_of _ (h14) ?_ | ((apply spl) <;> intro h <;> try simp (disch := omega) only [go_sem, hx2, zeroS, List.length_map, keep_mk , h]))
  · have hd : l.drop k = [] := List.drop_eq_nil_of_le (by omega)
    rw [hd] at hm
    rw [List.take_of_length_le (by omega)]
    have he : delErr v l = 0 := hm
    unfold delM
    rw [he, if_neg (by simp)]
    rw [List.map_nil] at h37
    generalize woM 100 v [] l = R at h37
    rw [hve, encV_eq R] at h37
    cases hb : l.any List.isEmpty with
    | true =>
      rw [if_pos rfl, nullV_enc]
      (repeat' first | simp (disch := omega) only [go_sem, zeroS, List.length_map] | ((apply spl) <;> intro h <;> try simp (disch := omega) only [go_sem, zeroS, List.length_map, h]))
    | false =>
      rw [if_neg (by simp), encV_eq R]
      (repeat' first | simp (disch := omega) only [go_sem, zeroS, List.length_map] | refine pure_of _ (h37) ?_ | ((apply spl) <;> intro h <;> try simp (disch := omega) only [go_sem, zeroS, List.length_map , h]))
end Ago
/- path.Cmp orders the valid paths. -/
namespace Ago
open Go (IntKind)
theorem bl_irrefl : ∀ a : List UInt8, Go.Op.bytesLess a a = false
  | [] => by simp [Go.Op.bytesLess]
  | x :: a => by
    have h : ¬ x < x := by rw [UInt8.lt_iff_toNat_lt]; omega
    simp [Go.Op.bytesLess, bl_irrefl a, h]
theorem bl_cons (x y : UInt8) (a b : List UInt8) : Go.Op.bytesLess (x :: a) (y :: b) = true ↔ x.toNat < y.toNat ∨ (x = y ∧ Go.Op.bytesLess a b = true) := by
  simp [Go.Op.bytesLess, UInt8.lt_iff_toNat_lt]
theorem bl_trans : ∀ a b c : List UInt8, Go.Op.bytesLess a b = true → Go.Op.bytesLess b c = true → Go.Op.bytesLess a c = true
  | _, [], _, h, _ => by simp [Go.Op.bytesLess] at h
  | _, _ :: _, [], _, h => by simp [Go.Op.bytesLess] at h
  | [], y :: b, z :: c, _, _ => by simp [Go.Op.bytesLess]
  | x :: a, y :: b, z :: c, h1, h2 => by
    rw [bl_cons] at *
    rcases h1 with h1 | ⟨rfl, h1⟩
    · rcases h2 with h2 | ⟨rfl, h2⟩
      · left; omega
      · left; exact h1
    · rcases h2 with h2 | ⟨rfl, h2⟩
      · left; exact h2
      · right; exact ⟨rfl, bl_trans a b c h1 h2⟩
theorem bl_total : ∀ a b : List UInt8, Go.Op.bytesLess a b = false → Go.Op.bytesLess b a = false → a = b
  | [], [], _, _ => rfl
  | [], y :: b, h, _ => by simp [Go.Op.bytesLess] at h
  | x :: a, [], _, h => by simp [Go.Op.bytesLess] at h
  | x :: a, y :: b, h1, h2 => by
    have h1' : ¬ Go.Op.bytesLess (x :: a) (y :: b) = true := by rw [h1]; simp
    have h2' : ¬ Go.Op.bytesLess (y :: b) (x :: a) = true := by rw [h2]; simp
    rw [bl_cons] at h1' h2'
    have e : x = y := by
      apply UInt8.toNat_inj.1
      omega
    subst e
    have := bl_total a b (by cases h : Go.Op.bytesLess a b with | true => exact (h1' (.inr ⟨rfl, h⟩)).elim | false => rfl) (by cases h : Go.Op.bytesLess b a with | true => exact (h2' (.inr ⟨rfl, h⟩)).elim | false => rfl)
    rw [this]
/-- A step as valid paths have them. -/
def stpN (s : Stp) : Prop := (s.byIndex = true → s.key = [] ∧ 0 ≤ s.index) ∧ (s.byIndex = false → s.index = 0)
theorem cmpI_neg (x y : Int) : cmpI x y < 0 ↔ x < y := by
  unfold cmpI
  split
  · simp; assumption
  · split <;> simp <;> omega
theorem cmpS_neg (a b : List UInt8) : cmpS a b < 0 ↔ Go.Op.bytesLess a b = true := by
  unfold cmpS
  split
  · simp; assumption
  · split <;> simp <;> simpa using ‹¬ Go.Op.bytesLess a b = true›
def ltStp (x y : Stp) : Prop := if x.byIndex then (if y.byIndex then x.index < y.index else True) else (if y.byIndex then False else Go.Op.bytesLess x.key y.key = true)
theorem cmpStp_neg (x y : Stp) : cmpStp x y < 0 ↔ ltStp x y := by
  unfold cmpStp ltStp
  by_cases h : x = y
  · subst h
    rw [if_pos rfl]
    cases x.byIndex with
    | true => simp
    | false => simp [bl_irrefl]
  · rw [if_neg h]
    cases x.byIndex <;> cases y.byIndex <;> simp [cmpI_neg, cmpS_neg]
theorem ltStp_trans {x y z : Stp} (h1 : ltStp x y) (h2 : ltStp y z) : ltStp x z := by
  unfold ltStp at *
  cases hx : x.byIndex <;> cases hy : y.byIndex <;> cases hz : z.byIndex <;> simp only [hx, hy, hz, if_true, if_false, Bool.false_eq_true] at h1 h2 ⊢
  · exact bl_trans _ _ _ h1 h2
  · omega
theorem ltStp_irrefl (x : Stp) : ¬ ltStp x x := by
  unfold ltStp
  cases x.byIndex <;> simp [bl_irrefl]
theorem ltStp_total {x y : Stp} (hx : stpN x) (hy : stpN y) (h1 : ¬ ltStp x y) (h2 : ¬ ltStp y x) : x = y := by
  unfold ltStp at *
  obtain ⟨b1, k1, i1⟩ := x
  obtain ⟨b2, k2, i2⟩ := y
  unfold stpN at hx hy
  simp only at *
  cases b1 <;> cases b2 <;> simp at h1 h2 hx hy
  · have := bl_total k1 k2 h1 h2
    rw [this, hx, hy]
  · rw [hx.1, hy.1]
    congr 1
    omega
theorem cmpP_nil (q : List Stp) : cmpP [] q < 0 ↔ q ≠ [] := by
  rw [cmpP, cmpI_neg]
  cases q <;> simp <;> omega
theorem cmpP_consnil (x : Stp) (p : List Stp) : ¬ cmpP (x :: p) [] < 0 := by
  rw [cmpP, cmpI_neg]
  omega
theorem cmpP_cons (x y : Stp) (p q : List Stp) : cmpP (x :: p) (y :: q) < 0 ↔ (x = y ∧ cmpP p q < 0) ∨ ltStp x y := by
  rw [cmpP]
  by_cases h : x = y
  · subst h
    rw [if_pos rfl]
    constructor
    · exact fun h => .inl ⟨rfl, h⟩
    · rintro (h | h)
      · exact h.2
      · exact (ltStp_irrefl x h).elim
  · rw [if_neg h, cmpStp_neg]
    constructor
    · exact .inr
    · rintro (h1 | h1)
      · exact (h h1.1).elim
      · exact h1
theorem cmpP_irrefl : ∀ p : List Stp, ¬ cmpP p p < 0
  | [] => by rw [cmpP_nil]; simp
  | x :: p => by
    rw [cmpP_cons]
    rintro (h | h)
    · exact cmpP_irrefl p h.2
    · exact ltStp_irrefl x h
theorem cmpP_trans : ∀ p q r : List Stp, cmpP p q < 0 → cmpP q r < 0 → cmpP p r < 0
  | _, [], r, h, h2 => by
    rename_i p
    cases p with
    | nil => exact h2
    | cons x p => exact (cmpP_consnil x p h).elim
  | _, y :: q, [], _, h => (cmpP_consnil y q h).elim
  | [], y :: q, z :: r, _, _ => (cmpP_nil _).2 (by simp)
  | x :: p, y :: q, z :: r, h1, h2 => by
    rw [cmpP_cons] at *
    rcases h1 with ⟨rfl, h1⟩ | h1
    · rcases h2 with ⟨rfl, h2⟩ | h2
      · exact .inl ⟨rfl, cmpP_trans p q r h1 h2⟩
      · exact .inr h2
    · rcases h2 with ⟨rfl, h2⟩ | h2
      · exact .inr h1
      · exact .inr (ltStp_trans h1 h2)
theorem cmpP_total : ∀ p q : List Stp, (∀ s, s ∈ p → stpN s) → (∀ s, s ∈ q → stpN s) → ¬ cmpP p q < 0 → ¬ cmpP q p < 0 → p = q
  | [], [], _, _, _, _ => rfl
  | [], y :: q, _, _, h, _ => (h ((cmpP_nil _).2 (by simp))).elim
  | x :: p, [], _, _, _, h => (h ((cmpP_nil _).2 (by simp))).elim
  | x :: p, y :: q, hp, hq, h1, h2 => by
    rw [cmpP_cons] at h1 h2
    have e : x = y := ltStp_total (hp x (by simp)) (hq y (by simp)) (fun h => h1 (.inr h)) (fun h => h2 (.inr h))
    subst e
    rw [cmpP_total p q (fun s hs => hp s (by simp [hs])) (fun s hs => hq s (by simp [hs])) (fun h => h1 (.inl ⟨rfl, h⟩)) (fun h => h2 (.inl ⟨rfl, h⟩))]
theorem stpOk_N {s : Stp} (h : stpOk s = true) : stpN s := by
  unfold stpOk at h
  unfold stpN
  cases hb : s.byIndex with
  | true =>
    rw [hb] at h
    simp only [if_true, Bool.and_eq_true, beq_iff_eq, decide_eq_true_eq] at h
    exact ⟨fun _ => ⟨h.1.1, h.1.2⟩, fun e => by simp at e⟩
  | false =>
    rw [hb] at h
    simp only [Bool.false_eq_true, if_false, Bool.and_eq_true, beq_iff_eq, decide_eq_true_eq] at h
    exact ⟨fun e => by simp at e, fun _ => h.1.1⟩
theorem pathOk_N {p : List Stp} (h : pathOk p = true) : ∀ s, s ∈ p → stpN s := fun s hs => by
  unfold pathOk at h
  simp only [Bool.and_eq_true, List.all_eq_true] at h
  exact stpOk_N (h.2 s hs)
end Ago
/- The plain law of Delete: to take away the greatest path first leaves the other paths where they are. -/
namespace Ago
open Go (IntKind)
def ix (i : Nat) : Stp := ⟨true, [], i⟩
def kx (k : List UInt8) : Stp := ⟨false, k, 0⟩
theorem ix_inj {i j : Nat} (h : ix i = ix j) : i = j := by
  unfold ix at h
  simp only [Stp.mk.injEq, true_and] at h
  omega
theorem kx_inj {i j : List UInt8} (h : kx i = kx j) : i = j := by
  unfold kx at h
  simp only [Stp.mk.injEq, true_and, and_true] at h
  exact h
/-- What is left behind, for a set of paths. -/
def wsL (F : V → (List Stp → Bool) → V) (S : List Stp → Bool) : List V → Nat → List V
  | [], _ => []
  | x :: r, i => if S [ix i] then wsL F S r (i + 1) else F x (fun q => S (ix i :: q)) :: wsL F S r (i + 1)
def wsF (F : V → (List Stp → Bool) → V) (S : List Stp → Bool) : List (List UInt8 × V) → List (List UInt8 × V)
  | [] => []
  | x :: r => if S [kx x.1] then wsF F S r else (x.1, F x.2 (fun q => S (kx x.1 :: q))) :: wsF F S r
def wsM : Nat → V → (List Stp → Bool) → V
  | 0, v, _ => v
  | n + 1, v, S => if v.l = [] ∧ v.f = [] then v else if v.s.kind = 6 then listV (wsL (wsM n) S v.l 0) else mapV (wsF (wsM n) S v.f)
theorem wo_wsL {n : Nat} (ih : ∀ (v : V) (at_ : List Stp) (l : List (List Stp)), woM n v at_ l = wsM n v fun q => goesM (at_ ++ q) l) (at_ : List Stp) (l : List (List Stp)) : ∀ (L : List V) (i : Nat), woL (fun x q => woM n x q l) at_ l L i = wsL (wsM n) (fun q => goesM (at_ ++ q) l) L i
  | [], i => rfl
  | x :: r, i => by
    rw [woL, wsL, wo_wsL ih at_ l r (i + 1)]
    have e : (fun q => goesM ((at_ ++ [(⟨true, [], i⟩ : Stp)]) ++ q) l) = fun q => goesM (at_ ++ (ix i :: q)) l := by
      funext q
      rw [List.append_assoc]
      rfl
    show (if goesM (at_ ++ [ix i]) l = true then _ else _) = _
    rw [ih, e]
theorem wo_wsF {n : Nat} (ih : ∀ (v : V) (at_ : List Stp) (l : List (List Stp)), woM n v at_ l = wsM n v fun q => goesM (at_ ++ q) l) (at_ : List Stp) (l : List (List Stp)) : ∀ (L : List (List UInt8 × V)), woF (fun x q => woM n x q l) at_ l L = wsF (wsM n) (fun q => goesM (at_ ++ q) l) L
  | [] => rfl
  | x :: r => by
    rw [woF, wsF, wo_wsF ih at_ l r]
    have e : (fun q => goesM ((at_ ++ [(⟨false, x.1, 0⟩ : Stp)]) ++ q) l) = fun q => goesM (at_ ++ (kx x.1 :: q)) l := by
      funext q
      rw [List.append_assoc]
      rfl
    show (if goesM (at_ ++ [kx x.1]) l = true then _ else _) = _
    rw [ih, e]
theorem wo_ws : ∀ (n : Nat) (v : V) (at_ : List Stp) (l : List (List Stp)), woM n v at_ l = wsM n v fun q => goesM (at_ ++ q) l
  | 0, _, _, _ => rfl
  | n + 1, v, at_, l => by
    rw [woM, wsM, wo_wsL (wo_ws n), wo_wsF (wo_ws n)]
theorem wsM_list (n : Nat) (L : List V) (S : List Stp → Bool) : wsM (n + 1) (listV L) S = listV (wsL (wsM n) S L 0) := by
  rw [wsM]
  cases L with
  | nil => rw [if_pos ⟨rfl, rfl⟩]; rfl
  | cons x L => rw [if_neg (by simp [listV, V.l]), if_pos (by simp [listV, V.s])]; rfl
theorem wsM_map (n : Nat) (f : List (List UInt8 × V)) (S : List Stp → Bool) : wsM (n + 1) (mapV f) S = mapV (wsF (wsM n) S f) := by
  rw [wsM]
  cases f with
  | nil => rw [if_pos ⟨rfl, rfl⟩]; rfl
  | cons x L => rw [if_neg (by simp [mapV, V.f]), if_neg (by simp [mapV, V.s])]; rfl
/-- The shapes of valid values. -/
theorem gd_cases {n : Nat} {v : V} (h : Gd (n + 1) v) : (v.l = [] ∧ v.f = []) ∨ (∃ L, v = listV L ∧ ∀ x, x ∈ L → Gd n x) ∨ (∃ f, v = mapV f ∧ (f.map (·.1)).Nodup ∧ ∀ x, x ∈ f → Gd n x.2) := by
  obtain ⟨s1, s2⟩ := own_ok h.own
  obtain ⟨_, k6, k7⟩ := own_shape h.own
  by_cases h6 : v.s.kind = 6
  · refine .inr (.inl ⟨v.l, k6 h6, fun x hx => h.kids x ?_⟩)
    unfold V.kids
    rw [if_neg (by omega)]
    exact hx
  · by_cases h7 : v.s.kind = 7
    · refine .inr (.inr ⟨v.f, k7 h7, ?_, fun x hx => h.kids x.2 ?_⟩)
      · have hk : keysM (v.f.map (·.1)) = 0 := by
          cases h with
          | mk h _ => exact (one_zero h).2.2.2.2.2.2
        unfold keysM at hk
        exact ((keysGo_zero _ _).1 hk).2.1
      · unfold V.kids
        rw [if_pos h7]
        exact List.mem_map_of_mem hx
    · refine .inl ⟨?_, ?_⟩
      · rcases s1 with h | h
        · omega
        · exact List.eq_nil_of_length_eq_zero h
      · rcases s2 with h | h
        · omega
        · exact List.eq_nil_of_length_eq_zero h
/-- There is something at a path. -/
def Exi (v : V) (q : List Stp) : Prop := (atM v q).2 = 0
theorem ex_cons {v : V} {t : Stp} {q : List Stp} : Exi v (t :: q) ↔ (findM v t).2 = 0 ∧ Exi (partM v t) q := by
  unfold Exi
  rw [atM]
  by_cases h : (findM v t).2 = 0
  · rw [if_neg (by rw [h]; simp)]
    exact ⟨fun h2 => ⟨h, h2⟩, fun h2 => h2.2⟩
  · rw [if_pos h]
    exact ⟨fun h2 => (h h2).elim, fun h2 => (h h2.1).elim⟩
theorem part_ix (L : List V) (i : Nat) : partM (listV L) (ix i) = (L[i]?).getD nullV := by
  unfold partM ix
  simp only [if_true]
  rw [if_pos (by omega), Int.toNat_natCast]
  rfl
theorem part_kx (f : List (List UInt8 × V)) (k : List UInt8) : partM (mapV f) (kx k) = (fieldM f k).getD nullV := by
  unfold partM kx
  simp only [Bool.false_eq_true, if_false]
  rfl
theorem find_ix (L : List V) (i : Nat) : (findM (listV L) (ix i)).2 = 0 ↔ i < L.length := by
  unfold findM ix
  simp only [if_true]
  rw [if_neg (by simp [listV, V.s])]
  show (if (i : Int) < 0 ∨ (L.length : Int) ≤ i then ((0 : Int), (7 : Int)) else _).2 = 0 ↔ _
  split
  · simp; omega
  · simp; omega
theorem find_kx (f : List (List UInt8 × V)) (k : List UInt8) : (findM (mapV f) (kx k)).2 = 0 ↔ (keyAt f k).isSome = true := by
  unfold findM kx
  simp only [Bool.false_eq_true, if_false]
  rw [if_neg (by simp [mapV, V.s])]
  show (match keyAt f k with | some i => ((i : Int), (0 : Int)) | none => (0, 7)).2 = 0 ↔ _
  cases keyAt f k <;> simp
theorem find_list {L : List V} {t : Stp} (h : (findM (listV L) t).2 = 0) (hN : stpN t) : ∃ i, t = ix i := by
  obtain ⟨b, k, j⟩ := t
  cases b with
  | true =>
    obtain ⟨h1, _⟩ := hN
    obtain ⟨h2, h3⟩ := h1 rfl
    simp only at h2 h3
    subst h2
    exact ⟨j.toNat, by unfold ix; congr 1; omega⟩
  | false =>
    unfold findM at h
    simp only [Bool.false_eq_true, if_false] at h
    rw [if_pos (by simp [listV, V.s])] at h
    cases h
theorem find_map {f : List (List UInt8 × V)} {t : Stp} (h : (findM (mapV f) t).2 = 0) (hN : stpN t) : ∃ k, t = kx k := by
  obtain ⟨b, k, j⟩ := t
  cases b with
  | false =>
    have := hN.2 rfl
    simp only at this
    subst this
    exact ⟨k, rfl⟩
  | true =>
    unfold findM at h
    simp only [if_true] at h
    rw [if_pos (by simp [mapV, V.s])] at h
    cases h
theorem key_get {f : List (List UInt8 × V)} {k : List UInt8} {i : Nat} (h : keyAt f k = some i) : ∃ x, f[i]? = some (k, x) ∧ fieldM f k = some x := by
  obtain ⟨x, h1, h2⟩ := keyAt_some h
  obtain ⟨z, h3, h4⟩ := keyAt_get h
  rw [h1] at h3
  cases h3
  exact ⟨x.2, by rw [h1, ← h4], h2⟩
theorem field_key {f : List (List UInt8 × V)} {k : List UInt8} : (keyAt f k).isSome = true ↔ (fieldM f k).isSome = true := by
  constructor
  · intro h
    obtain ⟨i, hi⟩ := Option.isSome_iff_exists.1 h
    obtain ⟨x, _, h2⟩ := key_get hi
    rw [h2]
    rfl
  · intro h
    cases hk : keyAt f k with
    | some i => rfl
    | none =>
      unfold keyAt at hk
      rw [List.findIdx?_eq_none_iff] at hk
      unfold fieldM at h
      rw [List.find?_eq_none.2 fun y hy => by simpa using hk y hy] at h
      cases h
theorem ex_list {L : List V} {i : Nat} {q : List Stp} : Exi (listV L) (ix i :: q) ↔ ∃ x, L[i]? = some x ∧ Exi x q := by
  rw [ex_cons, find_ix, part_ix]
  constructor
  · rintro ⟨h1, h2⟩
    obtain ⟨x, hx⟩ := get_some h1
    rw [hx] at h2
    exact ⟨x, hx, h2⟩
  · rintro ⟨x, h1, h2⟩
    rw [h1]
    exact ⟨(List.getElem?_eq_some_iff.1 h1).1, h2⟩
theorem ex_map {f : List (List UInt8 × V)} {k : List UInt8} {q : List Stp} : Exi (mapV f) (kx k :: q) ↔ ∃ x, fieldM f k = some x ∧ Exi x q := by
  rw [ex_cons, find_kx, part_kx, field_key]
  constructor
  · rintro ⟨h1, h2⟩
    obtain ⟨x, hx⟩ := Option.isSome_iff_exists.1 h1
    rw [hx] at h2
    exact ⟨x, hx, h2⟩
  · rintro ⟨x, h1, h2⟩
    rw [h1]
    exact ⟨rfl, h2⟩
/-- The shapes of valid values in which a step finds something. -/
theorem ex_shape {n : Nat} {v : V} {t : Stp} {q : List Stp} (h : Gd (n + 1) v) (hN : stpN t) (he : Exi v (t :: q)) : (∃ L i x, v = listV L ∧ t = ix i ∧ L[i]? = some x ∧ Exi x q ∧ ∀ y, y ∈ L → Gd n y) ∨
    (∃ f k i x, v = mapV f ∧ t = kx k ∧ keyAt f k = some i ∧ f[i]? = some (k, x) ∧ fieldM f k = some x ∧ Exi x q ∧ (f.map (·.1)).Nodup ∧ ∀ y, y ∈ f → Gd n y.2) := by
  have hf := (ex_cons.1 he).1
  have hfit := (find_ok hf).1
  obtain ⟨_, k6, k7⟩ := own_shape h.own
  rcases gd_cases h with ⟨h1, h2⟩ | ⟨L, rfl, hL⟩ | ⟨f, rfl, hn, hL⟩
  · obtain ⟨_, ho⟩ := find_ok hf
    split at ho
    · obtain ⟨k, x, _, h3, _⟩ := ho
      rw [h1] at h3
      simp at h3
    · obtain ⟨k, x, _, h3, _⟩ := ho
      rw [h2] at h3
      simp at h3
  · obtain ⟨i, rfl⟩ := find_list hf hN
    obtain ⟨x, h1, h2⟩ := ex_list.1 he
    exact .inl ⟨L, i, x, rfl, rfl, h1, h2, hL⟩
  · obtain ⟨k, rfl⟩ := find_map hf hN
    obtain ⟨x, h1, h2⟩ := ex_map.1 he
    obtain ⟨i, hi⟩ := Option.isSome_iff_exists.1 ((find_kx f k).1 hf)
    obtain ⟨y, h3, h4⟩ := key_get hi
    rw [h1] at h4
    cases h4
    exact .inr ⟨f, k, i, x, rfl, rfl, hi, h3, h1, h2, hn, hL⟩
theorem nodup_ne {α : Type} {l : List α} (h : l.Nodup) (i j : Nat) (hij : i < j) (hj : j < l.length) : l[i]? ≠ l[j]? := by
  rw [List.getElem?_eq_getElem (by omega), List.getElem?_eq_getElem hj]
  intro e
  exact (List.pairwise_iff_getElem.1 h) i j (by omega) hj hij (Option.some.inj e)
theorem wsL_eq {F : V → (List Stp → Bool) → V} {S T : List Stp → Bool} : ∀ (L L' : List V) (k : Nat), L.length = L'.length → (∀ (i : Nat) (x x' : V), L[i]? = some x → L'[i]? = some x' → S [ix (k + i)] = T [ix (k + i)] ∧ (T [ix (k + i)] = false → F x (fun q => S (ix (k + i) :: q)) = F x' fun q => T (ix (k + i) :: q))) → wsL F S L k = wsL F T L' k
  | [], [], k, _, _ => rfl
  | [], _ :: _, k, h, _ => by simp at h
  | _ :: _, [], k, h, _ => by simp at h
  | x :: L, x' :: L', k, h, hh => by
    obtain ⟨h1, h2⟩ := hh 0 x x' rfl rfl
    rw [Nat.add_zero] at h1 h2
    have ih := wsL_eq (F := F) (S := S) (T := T) L L' (k + 1) (by simpa using h) fun i y y' hy hy' => by
      have := hh (i + 1) y y' (by simpa using hy) (by simpa using hy')
      rw [show k + 1 + i = k + (i + 1) by omega]
      exact this
    rw [wsL, wsL, ih, h1]
    cases hT : T [ix k] with
    | true => rfl
    | false => rw [if_neg (by simp), if_neg (by simp), h2 hT]
theorem wsF_eq {F : V → (List Stp → Bool) → V} {S T : List Stp → Bool} : ∀ (L L' : List (List UInt8 × V)), L.map (·.1) = L'.map (·.1) → (∀ (i : Nat) (x x' : List UInt8 × V), L[i]? = some x → L'[i]? = some x' → S [kx x.1] = T [kx x.1] ∧ (T [kx x.1] = false → F x.2 (fun q => S (kx x.1 :: q)) = F x'.2 fun q => T (kx x.1 :: q))) → wsF F S L = wsF F T L'
  | [], [], _, _ => rfl
  | [], _ :: _, h, _ => by simp at h
  | _ :: _, [], h, _ => by simp at h
  | x :: L, x' :: L', h, hh => by
    obtain ⟨h1, h2⟩ := hh 0 x x' rfl rfl
    simp only [List.map_cons, List.cons.injEq] at h
    have ih := wsF_eq (F := F) (S := S) (T := T) L L' h.2 fun i y y' hy hy' => hh (i + 1) y y' (by simpa using hy) (by simpa using hy')
    rw [wsF, wsF, ih, ← h.1, h1]
    cases hT : T [kx x.1] with
    | true => rfl
    | false => rw [if_neg (by simp), if_neg (by simp), h2 hT]
/-- Only paths at which there is something count. -/
theorem ws_congr : ∀ (n : Nat) (v : V) (S T : List Stp → Bool), Gd n v → (∀ q, q ≠ [] → Exi v q → S q = T q) → wsM n v S = wsM n v T
  | 0, v, S, T, h, _ => by cases h
  | n + 1, v, S, T, h, hST => by
    rcases gd_cases h with ⟨h1, h2⟩ | ⟨L, rfl, hL⟩ | ⟨f, rfl, hn, hL⟩
    · rw [wsM, wsM, if_pos ⟨h1, h2⟩, if_pos ⟨h1, h2⟩]
    · rw [wsM_list, wsM_list, wsL_eq L L 0 rfl fun i x x' hx hx' => ?_]
      rw [Nat.zero_add]
      rw [hx] at hx'
      cases hx'
      refine ⟨hST _ (by simp) (ex_list.2 ⟨x, hx, rfl⟩), fun _ => ws_congr n x _ _ (hL x (List.mem_of_getElem? hx)) fun q _ he => hST _ (by simp) (ex_list.2 ⟨x, hx, he⟩)⟩
    · rw [wsM_map, wsM_map, wsF_eq f f rfl fun i x x' hx hx' => ?_]
      rw [hx] at hx'
      cases hx'
      have hfx : fieldM f x.1 = some x.2 := by
        refine (field_of (k := i) (fun y hy he => ?_) hx rfl).1
        obtain ⟨j, hj, hje⟩ := List.mem_iff_getElem.1 hy
        rw [List.length_take] at hj
        rw [List.getElem_take] at hje
        have hji : j < i := by omega
        obtain ⟨hi, hie⟩ := List.getElem?_eq_some_iff.1 hx
        have := (nodup_ne hn) j i hji (by simpa using hi)
        rw [List.getElem?_map, List.getElem?_map, List.getElem?_eq_getElem (by omega), hje, hx, Option.map_some, Option.map_some, he] at this
        exact this rfl
      refine ⟨hST _ (by simp) (ex_map.2 ⟨x.2, hfx, rfl⟩), fun _ => ws_congr n x.2 _ _ (hL x (List.mem_of_getElem? hx)) fun q _ he => hST _ (by simp) (ex_map.2 ⟨x.2, hfx, he⟩)⟩
theorem ws_none : ∀ (n : Nat) (v : V), Gd n v → wsM n v (fun _ => false) = v
  | 0, v, h => by cases h
  | n + 1, v, h => by
    have hl : ∀ (L : List V) (k : Nat), (∀ x, x ∈ L → Gd n x) → wsL (wsM n) (fun _ => false) L k = L := by
      intro L
      induction L with
      | nil => intro k _; rfl
      | cons x L ih =>
        intro k hL
        rw [wsL, if_neg (by simp), ws_none n x (hL x (by simp)), ih (k + 1) fun y hy => hL y (by simp [hy])]
    have hf : ∀ (L : List (List UInt8 × V)), (∀ x, x ∈ L → Gd n x.2) → wsF (wsM n) (fun _ => false) L = L := by
      intro L
      induction L with
      | nil => intro _; rfl
      | cons x L ih =>
        intro hL
        rw [wsF, if_neg (by simp), ws_none n x.2 (hL x (by simp)), ih fun y hy => hL y (by simp [hy])]
    rcases gd_cases h with ⟨h1, h2⟩ | ⟨L, rfl, hL⟩ | ⟨f, rfl, hn, hL⟩
    · rw [wsM, if_pos ⟨h1, h2⟩]
    · rw [wsM_list, hl L 0 hL]
    · rw [wsM_map, hf f hL]
theorem wsL_id {n : Nat} {S : List Stp → Bool} : ∀ (L : List V) (k : Nat), (∀ x, x ∈ L → Gd n x) → (∀ j, k ≤ j → ∀ q, S (ix j :: q) = false) → wsL (wsM n) S L k = L
  | [], _, _, _ => rfl
  | x :: L, k, hL, hS => by
    have e : (fun q => S (ix k :: q)) = fun _ => false := funext fun q => hS k (Nat.le_refl _) q
    rw [wsL, hS k (Nat.le_refl _) [], if_neg (by simp), e, ws_none n x (hL x (by simp)), wsL_id L (k + 1) (fun y hy => hL y (by simp [hy])) fun j hj q => hS j (by omega) q]
theorem wsL_erase {n : Nat} {S S' : List Stp → Bool} : ∀ (L : List V) (k i : Nat), i < L.length → (∀ x, x ∈ L → Gd n x) → S' [ix (k + i)] = true → (∀ j, j ≠ k + i → ∀ q, S' (ix j :: q) = S (ix j :: q)) → (∀ j, k + i ≤ j → ∀ q, S (ix j :: q) = false) →
    wsL (wsM n) S' L k = wsL (wsM n) S (L.eraseIdx i) k
  | [], _, _, h, _, _, _, _ => by simp at h
  | x :: L, k, 0, _, hL, h1, h2, h3 => by
    rw [Nat.add_zero] at h1 h2 h3
    rw [wsL, h1, if_pos rfl, List.eraseIdx_cons_zero, wsL_id L k (fun y hy => hL y (by simp [hy])) h3, wsL_id L (k + 1) (fun y hy => hL y (by simp [hy])) fun j hj q => ?_]
    rw [h2 j (by omega)]
    exact h3 j (by omega) q
  | x :: L, k, i + 1, h, hL, h1, h2, h3 => by
    have e : (fun q => S' (ix k :: q)) = fun q => S (ix k :: q) := funext fun q => h2 k (by omega) q
    rw [wsL, List.eraseIdx_cons_succ, wsL, e, h2 k (by omega) [], wsL_erase L (k + 1) i (by simpa using h) (fun y hy => hL y (by simp [hy])) (by rw [show k + 1 + i = k + (i + 1) by omega]; exact h1) (fun j hj q => h2 j (by omega) q) fun j hj q => h3 j (by omega) q]
theorem keyAt_cons (x : List UInt8 × V) (f : List (List UInt8 × V)) (k : List UInt8) : keyAt (x :: f) k = if x.1 = k then some 0 else (keyAt f k).map (· + 1) := by
  unfold keyAt
  rw [List.findIdx?_cons]
  by_cases h : x.1 = k
  · rw [if_pos (by simpa using h), if_pos h]
  · rw [if_neg (by simpa using h), if_neg h]
theorem fieldM_cons (x : List UInt8 × V) (f : List (List UInt8 × V)) (k : List UInt8) : fieldM (x :: f) k = if x.1 = k then some x.2 else fieldM f k := by
  unfold fieldM
  by_cases h : x.1 = k
  · rw [List.find?_cons_of_pos (by simpa using h), if_pos h]
    rfl
  · rw [List.find?_cons_of_neg (by simpa using h), if_neg h]
theorem wsF_erase {F : V → (List Stp → Bool) → V} {S S' : List Stp → Bool} {key : List UInt8} : ∀ (f : List (List UInt8 × V)) (i : Nat), (f.map (·.1)).Nodup → keyAt f key = some i → S' [kx key] = true → (∀ k, k ≠ key → ∀ q, S' (kx k :: q) = S (kx k :: q)) → wsF F S' f = wsF F S (f.eraseIdx i)
  | [], i, _, h, _, _ => by simp [keyAt] at h
  | x :: f, i, hn, h, h1, h2 => by
    rw [keyAt_cons] at h
    simp only [List.map_cons, List.nodup_cons] at hn
    by_cases hx : x.1 = key
    · rw [if_pos hx] at h
      cases h
      rw [wsF, hx, h1, if_pos rfl, List.eraseIdx_cons_zero]
      refine wsF_eq f f rfl fun j y y' hy hy' => ?_
      rw [hy] at hy'
      cases hy'
      have hne : y.1 ≠ key := fun e => hn.1 (by rw [hx, ← e]; exact List.mem_map_of_mem (List.mem_of_getElem? hy))
      refine ⟨h2 _ hne [], fun _ => ?_⟩
      rw [show (fun q => S' (kx y.1 :: q)) = fun q => S (kx y.1 :: q) from funext fun q => h2 _ hne q]
    · rw [if_neg hx] at h
      obtain ⟨j, hj, rfl⟩ := Option.map_eq_some_iff.1 h
      rw [wsF, List.eraseIdx_cons_succ, wsF, wsF_erase f j hn.2 hj h1 h2, h2 _ hx [], show (fun q => S' (kx x.1 :: q)) = fun q => S (kx x.1 :: q) from funext fun q => h2 _ hx q]
theorem rem_ix (p : List Stp) (s : Stp) (L : List V) (i : Nat) (x : V) (hx : L[i]? = some x) : remM (ix i :: p) s (listV L) = listV (L.set i (remM p s x)) := by
  rw [remM, part_ix, hx]
  rfl
theorem rem_kx (p : List Stp) (s : Stp) (f : List (List UInt8 × V)) (k : List UInt8) (i : Nat) (x : V) (hx : fieldM f k = some x) (hk : keyAt f k = some i) : remM (kx k :: p) s (mapV f) = mapV (f.set i (k, remM p s x)) := by
  rw [remM, part_kx, hx]
  show mapV (f.set ((keyAt f k).getD 0) _) = _
  rw [hk]
  rfl
theorem rem_ix0 (L : List V) (i : Nat) : remM [] (ix i) (listV L) = listV (L.eraseIdx i) := rfl
theorem rem_kx0 (f : List (List UInt8 × V)) (k : List UInt8) (i : Nat) (hk : keyAt f k = some i) : remM [] (kx k) (mapV f) = mapV (f.eraseIdx i) := by
  show mapV (f.eraseIdx ((keyAt f k).getD 0)) = _
  rw [hk]
  rfl
theorem lt_one {q : List Stp} {t s : Stp} (h : cmpP (t :: q) [s] < 0) : ltStp t s := by
  rw [cmpP_cons] at h
  rcases h with ⟨_, h⟩ | h
  · cases q with
    | nil => exact (cmpP_irrefl _ h).elim
    | cons y q => exact (cmpP_consnil y q h).elim
  · exact h
theorem lt_ix {i j : Nat} (h : ltStp (ix i) (ix j)) : i < j := by
  unfold ltStp ix at h
  simpa using h
/-- The greatest path goes first. -/
theorem ws_step (s : Stp) : ∀ (p : List Stp) (n : Nat) (v : V) (S S' : List Stp → Bool), Gd n v → Exi v (p ++ [s]) → (∀ t, t ∈ p ++ [s] → stpN t) → (∀ q, S' q = (S q || decide (q = p ++ [s]))) → (∀ q, S q = true → cmpP q (p ++ [s]) < 0) → wsM n v S' = wsM n (remM p s v) S
  | _, 0, v, S, S', h, _, _, _, _ => by cases h
  | [], n + 1, v, S, S', h, he, hN, hS, hlt => by
    rw [List.nil_append] at *
    rcases ex_shape h (hN s (by simp)) he with ⟨L, i, x, rfl, rfl, hx, _, hL⟩ | ⟨f, k, i, x, rfl, rfl, hk, hx, hfx, _, hn, hL⟩
    · rw [rem_ix0, wsM_list, wsM_list, wsL_erase L 0 i (List.getElem?_eq_some_iff.1 hx).1 hL (by rw [hS, Nat.zero_add]; simp) (fun j hj q => ?_) fun j hj q => ?_]
      · rw [hS]
        have : decide (ix j :: q = [ix i]) = false := by
          rw [decide_eq_false_iff_not]
          intro e
          have := ix_inj (List.cons.inj e).1
          omega
        rw [this, Bool.or_false]
      · cases hb : S (ix j :: q) with
        | false => rfl
        | true =>
          have := lt_ix (lt_one (hlt _ hb))
          omega
    · rw [rem_kx0 f k i hk, wsM_map, wsM_map, wsF_erase f i hn hk (by rw [hS]; simp) fun k' hk' q => ?_]
      rw [hS]
      have : decide (kx k' :: q = [kx k]) = false := by
        rw [decide_eq_false_iff_not]
        intro e
        exact hk' (kx_inj (List.cons.inj e).1)
      rw [this, Bool.or_false]
  | t :: p, n + 1, v, S, S', h, he, hN, hS, hlt => by
    rw [List.cons_append] at *
    have hsub : ∀ (r : Stp) (q : List Stp), r ≠ t → S' (r :: q) = S (r :: q) := fun r q hr => by
      rw [hS]
      have : decide (r :: q = t :: (p ++ [s])) = false := by
        rw [decide_eq_false_iff_not]
        intro e
        exact hr (List.cons.inj e).1
      rw [this, Bool.or_false]
    have hone : S' [t] = S [t] := by
      rw [hS]
      have : decide ([t] = t :: (p ++ [s])) = false := by simp
      rw [this, Bool.or_false]
    have hin : ∀ q, S' (t :: q) = (S (t :: q) || decide (q = p ++ [s])) := fun q => by
      rw [hS]
      congr 1
      simp
    have hltin : ∀ q, S (t :: q) = true → cmpP q (p ++ [s]) < 0 := fun q hq => by
      have := hlt _ hq
      rw [cmpP_cons] at this
      rcases this with h | h
      · exact h.2
      · exact (ltStp_irrefl _ h).elim
    rcases ex_shape h (hN t (by simp)) he with ⟨L, i, x, rfl, rfl, hx, hex, hL⟩ | ⟨f, k, i, x, rfl, rfl, hk, hx, hfx, hex, hn, hL⟩
    · rw [rem_ix p s L i x hx, wsM_list, wsM_list, wsL_eq L (L.set i (remM p s x)) 0 (by rw [List.length_set]) fun j y y' hy hy' => ?_]
      rw [Nat.zero_add]
      by_cases hj : j = i
      · subst hj
        have hjl := (List.getElem?_eq_some_iff.1 hx).1
        rw [List.getElem?_set_self hjl] at hy'
        rw [hx] at hy
        cases hy
        cases hy'
        exact ⟨hone, fun _ => ws_step s p n x _ _ (hL x (List.mem_of_getElem? hx)) hex (fun r hr => hN r (by simp at hr ⊢; exact .inr hr)) hin hltin⟩
      · rw [List.getElem?_set_ne (fun e => hj e.symm), hy] at hy'
        cases hy'
        have hne : ix j ≠ ix i := fun e => hj (ix_inj e)
        refine ⟨hsub _ _ hne, fun _ => ?_⟩
        rw [show (fun q => S' (ix j :: q)) = fun q => S (ix j :: q) from funext fun q => hsub _ _ hne]
    · have hil := (List.getElem?_eq_some_iff.1 hx).1
      rw [rem_kx p s f k i x hfx hk, wsM_map, wsM_map, wsF_eq f (f.set i (k, remM p s x)) ?_ fun j y y' hy hy' => ?_]
      · rw [List.map_set]
        refine (List.set_getElem_self (as := f.map (·.1)) (i := i) (by simpa using hil)).symm.trans ?_
        congr 1
        rw [List.getElem_map]
        rw [List.getElem?_eq_getElem hil] at hx
        rw [Option.some.inj hx]
      · by_cases hj : j = i
        · subst hj
          rw [List.getElem?_set_self hil] at hy'
          rw [hx] at hy
          cases hy
          cases hy'
          exact ⟨hone, fun _ => ws_step s p n x _ _ (hL (k, x) (List.mem_of_getElem? hx)) hex (fun r hr => hN r (by simp at hr ⊢; exact .inr hr)) hin hltin⟩
        · rw [List.getElem?_set_ne (fun e => hj e.symm), hy] at hy'
          cases hy'
          have hne : kx y.1 ≠ kx k := fun e => by
            have e := kx_inj e
            have h1 := List.getElem?_eq_some_iff.1 hy
            obtain ⟨hjl, hje⟩ := h1
            rcases Nat.lt_or_gt_of_ne hj with hlt' | hlt'
            · have := (nodup_ne hn) j i hlt' (by simpa using hil)
              rw [List.getElem?_map, List.getElem?_map, hy, hx] at this
              simp only [Option.map_some] at this
              exact this (congrArg some e)
            · have := (nodup_ne hn) i j hlt' (by simpa using hjl)
              rw [List.getElem?_map, List.getElem?_map, hy, hx] at this
              simp only [Option.map_some] at this
              exact this (congrArg some e.symm)
          refine ⟨hsub _ _ hne, fun _ => ?_⟩
          rw [show (fun q => S' (kx y.1 :: q)) = fun q => S (kx y.1 :: q) from funext fun q => hsub _ _ hne]
theorem field_erase {key : List UInt8} : ∀ (f : List (List UInt8 × V)) (i : Nat) (x : V) (k : List UInt8), f[i]? = some (key, x) → k ≠ key → fieldM (f.eraseIdx i) k = fieldM f k
  | [], i, x, k, h, _ => by simp at h
  | y :: f, 0, x, k, h, hk => by
    simp only [List.getElem?_cons_zero, Option.some.injEq] at h
    subst h
    rw [List.eraseIdx_cons_zero, fieldM_cons, if_neg (fun e => hk e.symm)]
  | y :: f, i + 1, x, k, h, hk => by
    rw [List.eraseIdx_cons_succ, fieldM_cons, fieldM_cons, field_erase f i x k (by simpa using h) hk]
theorem field_set {key : List UInt8} {z : V} : ∀ (f : List (List UInt8 × V)) (i : Nat) (x : V) (k : List UInt8), f[i]? = some (key, x) → k ≠ key → fieldM (f.set i (key, z)) k = fieldM f k
  | [], i, x, k, h, _ => by simp at h
  | y :: f, 0, x, k, h, hk => by
    simp only [List.getElem?_cons_zero, Option.some.injEq] at h
    subst h
    rw [List.set_cons_zero, fieldM_cons, fieldM_cons, if_neg (fun e => hk e.symm), if_neg (fun e => hk e.symm)]
  | y :: f, i + 1, x, k, h, hk => by
    rw [List.set_cons_succ, fieldM_cons, fieldM_cons, field_set f i x k (by simpa using h) hk]
theorem field_same {key : List UInt8} {z : V} : ∀ (f : List (List UInt8 × V)) (i : Nat), keyAt f key = some i → fieldM (f.set i (key, z)) key = some z
  | [], i, h => by simp [keyAt] at h
  | y :: f, i, h => by
    rw [keyAt_cons] at h
    by_cases hy : y.1 = key
    · rw [if_pos hy] at h
      cases h
      rw [List.set_cons_zero, fieldM_cons, if_pos rfl]
    · rw [if_neg hy] at h
      obtain ⟨j, hj, rfl⟩ := Option.map_eq_some_iff.1 h
      rw [List.set_cons_succ, fieldM_cons, if_neg hy, field_same f j hj]
/-- Lesser paths stay. -/
theorem ex_step (s : Stp) : ∀ (p : List Stp) (n : Nat) (v : V) (q : List Stp), Gd n v → Exi v (p ++ [s]) → (∀ t, t ∈ p ++ [s] → stpN t) → (∀ t, t ∈ q → stpN t) → Exi v q → cmpP q (p ++ [s]) < 0 → Exi (remM p s v) q
  | _, 0, v, _, h, _, _, _, _, _ => by cases h
  | _, _ + 1, _, [], _, _, _, _, _, _ => rfl
  | [], n + 1, v, t :: q, h, he, hN, hNq, heq, hlt => by
    rw [List.nil_append] at *
    have hl := lt_one hlt
    rcases ex_shape h (hN s (by simp)) he with ⟨L, i, x, rfl, rfl, hx, _, hL⟩ | ⟨f, k, i, x, rfl, rfl, hk, hx, hfx, _, hn, hL⟩
    · obtain ⟨j, rfl⟩ := find_list (ex_cons.1 heq).1 (hNq t (by simp))
      obtain ⟨y, hy1, hy2⟩ := ex_list.1 heq
      have := lt_ix hl
      rw [rem_ix0]
      exact ex_list.2 ⟨y, by rw [List.getElem?_eraseIdx_of_lt this]; exact hy1, hy2⟩
    · obtain ⟨k', rfl⟩ := find_map (ex_cons.1 heq).1 (hNq t (by simp))
      obtain ⟨y, hy1, hy2⟩ := ex_map.1 heq
      rw [rem_kx0 f k i hk]
      exact ex_map.2 ⟨y, by rw [field_erase f i x k' hx fun e => by subst e; exact ltStp_irrefl _ hl]; exact hy1, hy2⟩
  | u :: p, n + 1, v, t :: q, h, he, hN, hNq, heq, hlt => by
    rw [List.cons_append] at *
    rw [cmpP_cons] at hlt
    have hin : u = t → cmpP q (p ++ [s]) < 0 := fun e => by
      rcases hlt with h | h
      · exact h.2
      · rw [e] at h
        exact (ltStp_irrefl _ h).elim
    rcases ex_shape h (hN u (by simp)) he with ⟨L, i, x, rfl, rfl, hx, hex, hL⟩ | ⟨f, k, i, x, rfl, rfl, hk, hx, hfx, hex, hn, hL⟩
    · obtain ⟨j, rfl⟩ := find_list (ex_cons.1 heq).1 (hNq t (by simp))
      obtain ⟨y, hy1, hy2⟩ := ex_list.1 heq
      rw [rem_ix p s L i x hx]
      by_cases hj : j = i
      · subst hj
        rw [hx] at hy1
        cases hy1
        exact ex_list.2 ⟨_, List.getElem?_set_self (List.getElem?_eq_some_iff.1 hx).1, ex_step s p n x q (hL x (List.mem_of_getElem? hx)) hex (fun r hr => hN r (by simp at hr ⊢; exact .inr hr)) (fun r hr => hNq r (by simp [hr])) hy2 (hin rfl)⟩
      · exact ex_list.2 ⟨y, by rw [List.getElem?_set_ne (fun e => hj e.symm)]; exact hy1, hy2⟩
    · obtain ⟨k', rfl⟩ := find_map (ex_cons.1 heq).1 (hNq t (by simp))
      obtain ⟨y, hy1, hy2⟩ := ex_map.1 heq
      rw [rem_kx p s f k i x hfx hk]
      by_cases hj : k' = k
      · subst hj
        rw [hfx] at hy1
        cases hy1
        exact ex_map.2 ⟨_, field_same f i hk, ex_step s p n x q (hL (k', x) (List.mem_of_getElem? hx)) hex (fun r hr => hN r (by simp at hr ⊢; exact .inr hr)) (fun r hr => hNq r (by simp [hr])) hy2 (hin rfl)⟩
      · exact ex_map.2 ⟨y, by rw [field_set f i x k' hx hj]; exact hy1, hy2⟩
end Ago
/- The way of Delete: paths in order, the greatest first. -/
set_option maxRecDepth 100000
set_option maxHeartbeats 4000000
namespace Ago
open Go (IntKind)
def soQ (f : Nat) : Bool := f == 32
def C1 : Ctx := sortCtx C0 soQ
theorem up1 {f : Nat} {ts : List AV} {v : AV} (h : PRun C0 f ts v) : PRun C1 f ts v := sortCtx_up h
theorem cmpQ_run (p q : List Stp) (hp : p.length < 2 ^ 30) (hq : q.length < 2 ^ 30) : PRun C0 33 [.tsl 3 (p.map encS), .tsl 3 (q.map encS)] (.int .i64 (cmpP q p)) := by
  have h := cmpP_run q p hq hp
  refine prun_of ac33 rfl ?_
  (repeat' first | simp (disch := omega) only [go_sem, ac33, enter] | refine pure_of _ (h) ?_ | ((apply spl) <;> intro h <;> try simp (disch := omega) only [go_sem, ac33, enter , h]))
def decS : AV → Stp
  | .agg [.bool b, .str k, .int _ i] => ⟨b, k, i⟩
  | _ => ⟨false, [], 0⟩
def decP : AV → List Stp
  | .tsl _ l => l.map decS
  | _ => []
theorem decP_enc (p : List Stp) : decP (encP p) = p := by
  show (p.map encS).map decS = p
  rw [List.map_map]
  have : decS ∘ encS = id := by
    funext s
    rfl
  rw [this, List.map_id]
def cQ (x y : AV) : Int := cmpP (decP y) (decP x)
theorem ord_Q {ps : List (List Stp)} (h : ∀ p, p ∈ ps → pathOk p = true) : OrdOn cQ (ps.map encP) := by
  refine ⟨fun x hx => ?_, fun x y z hx hy hz h1 h2 => ?_, fun x y hx hy h1 h2 => ?_⟩
  · exact cmpP_irrefl _
  · exact cmpP_trans _ _ _ h2 h1
  · obtain ⟨p, hp, rfl⟩ := List.mem_map.1 hx
    obtain ⟨q, hq, rfl⟩ := List.mem_map.1 hy
    unfold cQ at h1 h2
    rw [decP_enc, decP_enc] at h1 h2
    rw [cmpP_total p q (pathOk_N (h p hp)) (pathOk_N (h q hq)) h2 h1]
theorem lift_ok {N : List Stp → Prop} : ∀ (l : List (List Stp)), (∀ p, p ∈ l → N p) → ∃ l' : List {p : List Stp // N p}, l'.map (·.1) = l
  | [], _ => ⟨[], rfl⟩
  | p :: l, h => by
    obtain ⟨l', hl⟩ := lift_ok l fun q hq => h q (by simp [hq])
    exact ⟨⟨p, h p (by simp)⟩ :: l', by rw [List.map_cons, hl]⟩
/-- There is an order of the paths in which none is less than one behind it. -/
theorem sorted_ex (ps : List (List Stp)) (h : ∀ p, p ∈ ps → pathOk p = true) : ∃ qs, ps.Perm qs ∧ qs.Pairwise fun x y => ¬ cmpP x y < 0 := by
  obtain ⟨l, rfl⟩ := lift_ok (N := fun p => ∀ s, s ∈ p → stpN s) ps fun p hp => pathOk_N (h p hp)
  let le : {p : List Stp // ∀ s, s ∈ p → stpN s} → {p : List Stp // ∀ s, s ∈ p → stpN s} → Bool := fun a b => !decide (cmpP a.1 b.1 < 0)
  refine ⟨(l.mergeSort le).map (·.1), ((List.mergeSort_perm l le).symm.map _), ?_⟩
  rw [List.pairwise_map]
  have := List.pairwise_mergeSort (le := le) (fun a b c h1 h2 => ?_) (fun a b => ?_) l
  · exact this.imp fun h => by simpa [le] using h
  · simp only [le, Bool.not_eq_true', decide_eq_false_iff_not] at h1 h2 ⊢
    intro h3
    by_cases h4 : cmpP b.1 a.1 < 0
    · exact h2 (cmpP_trans _ _ _ h4 h3)
    · have := cmpP_total a.1 b.1 a.2 b.2 h1 h4
      rw [this] at h3
      exact h2 h3
  · simp only [le, Bool.or_eq_true, Bool.not_eq_true', decide_eq_false_iff_not]
    by_cases h4 : cmpP a.1 b.1 < 0
    · exact .inr fun h5 => cmpP_irrefl _ (cmpP_trans _ _ _ h4 h5)
    · exact .inl h4
/-- access.Remove at a path. -/
def remP (p : List Stp) (v : V) : V := remM p.dropLast (p.getLast?.getD (ix 0)) v
theorem path_last {p : List Stp} (h : p ≠ []) : p = p.dropLast ++ [p.getLast?.getD (ix 0)] := by
  rw [List.getLast?_eq_some_getLast h, Option.getD_some, List.dropLast_concat_getLast]
def remGo : Option (List Stp) → V → List (List Stp) → V
  | _, v, [] => v
  | pr, v, p :: r => remGo (some p) (if pr = some p then v else remP p v) r
structure Rdy (pr : Option (List Stp)) (v : V) (r : List (List Stp)) : Prop where
  gd : Gd 100 v
  bulk : v.bulk ≤ 2 ^ 24
  pw : (pr.toList ++ r).Pairwise fun x y => ¬ cmpP x y < 0
  ok : ∀ q, q ∈ pr.toList ++ r → q ≠ [] ∧ pathOk q = true
  ex : ∀ q, q ∈ r → pr = some q ∨ Exi v q
theorem Rdy.skip {v : V} {p : List Stp} {r : List (List Stp)} (h : Rdy (some p) v (p :: r)) : Rdy (some p) v r := by
  refine ⟨h.gd, h.bulk, ?_, fun q hq => h.ok q ?_, fun q hq => h.ex q (by simp [hq])⟩
  · have := h.pw
    simp only [Option.toList_some, List.cons_append, List.nil_append] at this ⊢
    exact (List.pairwise_cons.1 this).2
  · simp only [Option.toList_some, List.cons_append, List.nil_append, List.mem_cons] at hq ⊢
    rcases hq with hq | hq
    · exact .inl hq
    · exact .inr (.inr hq)
theorem Rdy.here {pr : Option (List Stp)} {v : V} {p : List Stp} {r : List (List Stp)} (h : Rdy pr v (p :: r)) (hne : pr ≠ some p) : Exi v p ∧ p ≠ [] ∧ pathOk p = true := by
  obtain ⟨h1, h2⟩ := h.ok p (by simp)
  rcases h.ex p (by simp) with h3 | h3
  · exact (hne h3).elim
  · exact ⟨h3, h1, h2⟩
theorem Rdy.less {pr : Option (List Stp)} {v : V} {p q : List Stp} {r : List (List Stp)} (h : Rdy pr v (p :: r)) (hq : q ∈ r) (hqp : q ≠ p) : cmpP q p < 0 := by
  have h1 := (List.pairwise_cons.1 (List.pairwise_append.1 h.pw).2.1).1 q hq
  by_cases h2 : cmpP q p < 0
  · exact h2
  · exact (hqp (cmpP_total q p (pathOk_N (h.ok q (by simp [hq])).2) (pathOk_N (h.ok p (by simp)).2) h2 h1)).elim
theorem Rdy.past {pr : Option (List Stp)} {v : V} {p q : List Stp} {r : List (List Stp)} (h : Rdy pr v (p :: r)) (hne : pr ≠ some p) (hq : q ∈ r) : pr ≠ some q := by
  rintro rfl
  have h1 := (List.pairwise_append.1 h.pw).2.2 q (by simp) p (by simp)
  have h2 := (List.pairwise_cons.1 (List.pairwise_append.1 h.pw).2.1).1 q hq
  have := cmpP_total q p (pathOk_N (h.ok q (by simp)).2) (pathOk_N (h.ok p (by simp)).2) h1 h2
  rw [this] at hne
  exact hne rfl
theorem Rdy.rem {pr : Option (List Stp)} {v : V} {p : List Stp} {r : List (List Stp)} (h : Rdy pr v (p :: r)) (hne : pr ≠ some p) : Rdy (some p) (remP p v) r := by
  obtain ⟨h1, h2, h3⟩ := h.here hne
  have e := path_last h2
  have h1' : Exi v (p.dropLast ++ [p.getLast?.getD (ix 0)]) := by rw [← e]; exact h1
  refine ⟨remM_gd _ _ _ _ h.gd h1', Nat.le_trans (remM_bulk _ _ _ h1') h.bulk, ?_, fun q hq => h.ok q ?_, fun q hq => ?_⟩
  · exact (List.pairwise_append.1 h.pw).2.1
  · simp only [Option.toList_some, List.cons_append, List.nil_append] at hq
    exact List.mem_append_right _ hq
  · by_cases hqp : q = p
    · exact .inl (by rw [hqp])
    · rcases h.ex q (by simp [hq]) with h4 | h4
      · exact (h.past hne hq h4).elim
      · refine .inr (ex_step _ _ 100 v q h.gd h1' (by rw [← e]; exact pathOk_N h3) (pathOk_N (h.ok q (by simp [hq])).2) h4 ?_)
        rw [← e]
        exact h.less hq hqp
/-- One by one, the greatest first: the same as all at once. -/
theorem remGo_ws : ∀ (r : List (List Stp)) (pr : Option (List Stp)) (v : V), Rdy pr v r → wsM 100 v (fun q => decide (q ∈ r) && !decide (pr = some q)) = remGo pr v r
  | [], pr, v, h => by
    rw [remGo]
    rw [show (fun q : List Stp => decide (q ∈ ([] : List (List Stp))) && !decide (pr = some q)) = fun _ => false from funext fun q => by simp]
    exact ws_none 100 v h.gd
  | p :: r, pr, v, h => by
    rw [remGo]
    by_cases hp : pr = some p
    · subst hp
      rw [if_pos rfl, ← remGo_ws r (some p) v h.skip]
      congr 1
      funext q
      by_cases hq : p = q
      · subst hq
        simp
      · have : q ≠ p := fun e => hq e.symm
        simp [hq, this]
    · rw [if_neg hp, ← remGo_ws r (some p) (remP p v) (h.rem hp)]
      obtain ⟨h1, h2, h3⟩ := h.here hp
      have e := path_last h2
      refine ws_step _ _ 100 v _ _ h.gd (by rw [← e]; exact h1) (by rw [← e]; exact pathOk_N h3) (fun q => ?_) fun q hq => ?_
      · rw [← e]
        by_cases hqp : q = p
        · subst hqp
          simp [hp]
        · have hpq : p ≠ q := fun e => hqp e.symm
          by_cases hqr : q ∈ r
          · simp [hqp, hpq, hqr, h.past hp hqr]
          · simp [hqp, hpq, hqr]
      · simp only [Bool.and_eq_true, decide_eq_true_eq, Bool.not_eq_true', decide_eq_false_iff_not, Option.some.injEq] at hq
        rw [← e]
        exact h.less hq.1 fun e => hq.2 e.symm
theorem remP_run {v : V} {p : List Stp} (hg : Gd 100 v) (hv : v.bulk ≤ 2 ^ 24) (he : Exi v p) (hne : p ≠ []) (hok : pathOk p = true) : PRun C0 36 [encV v, .tsl 3 (p.map encS)] (.tup [encV (remP p v), .int .i64 0]) := by
  have e := path_last hne
  have he' : Exi v (p.dropLast ++ [p.getLast?.getD (ix 0)]) := by rw [← e]; exact he
  have := remove_run p.dropLast (p.getLast?.getD (ix 0)) v hg hv (by rw [← e]; exact hok) he' (Nat.le_trans (remM_bulk _ _ _ he') hv)
  rw [← e] at this
  exact this
/-- Is there something at a valid path? -/
noncomputable def hasP (v : V) (p : List Stp) : Bool := pathOk p && ((atM v p).2 == 0)
theorem delErr_zero {v : V} : ∀ {l : List (List Stp)}, delErr v l = 0 → ∀ p, p ∈ l → pathOk p = true
  | [], _, p, h => by cases h
  | q :: l, h, p, hp => by
    rw [delErr] at h
    split at h
    · cases h
    · rename_i h1
      split at h
      · rename_i h2
        exact (h2 h).elim
      · rcases List.mem_cons.1 hp with rfl | hp
        · simpa using h1
        · exact delErr_zero h p hp
/-- What the reference leaves is what is left in the end. -/
theorem del_law {v : V} {l qs : List (List Stp)} (hg : Gd 100 v) (hv : v.bulk ≤ 2 ^ 24) (he : delErr v l = 0) (ha : l.any List.isEmpty = false) (hp : (l.filter (hasP v)).Perm qs) (hpw : qs.Pairwise fun x y => ¬ cmpP x y < 0) :
    Rdy none v qs ∧ delM v l = (remGo none v qs, 0) := by
  have hm : ∀ q, q ∈ qs ↔ q ∈ l ∧ pathOk q = true ∧ Exi v q := fun q => by
    rw [← hp.mem_iff, List.mem_filter]
    unfold hasP Exi
    simp
  have hne : ∀ q, q ∈ l → q ≠ [] := fun q hq e => by
    rw [List.any_eq_false] at ha
    have := ha q hq
    rw [e] at this
    simp at this
  have hr : Rdy none v qs := ⟨hg, hv, hpw, fun q hq => by
    have := (hm q).1 (by simpa using hq)
    exact ⟨hne q this.1, this.2.1⟩, fun q hq => .inr ((hm q).1 hq).2.2⟩
  refine ⟨hr, ?_⟩
  unfold delM
  rw [he, if_neg (by simp), ha, if_neg (by simp), ← remGo_ws qs none v hr, wo_ws]
  congr 1
  refine ws_congr 100 v _ _ hg fun q hq hex => ?_
  unfold goesM
  rw [List.nil_append]
  have h1 : (l.any fun q' => decide (q = q')) = decide (q ∈ l) := by
    rw [Bool.eq_iff_iff, List.any_eq_true, decide_eq_true_eq]
    constructor
    · rintro ⟨x, hx, hxe⟩
      rw [of_decide_eq_true hxe]
      exact hx
    · exact fun h => ⟨q, h, by simp⟩
  rw [h1]
  have h2 : (decide (none = some q)) = false := by simp
  rw [h2, Bool.not_false, Bool.and_true, Bool.eq_iff_iff, decide_eq_true_eq, decide_eq_true_eq, hm]
  exact ⟨fun h => ⟨h, delErr_zero he q h, hex⟩, fun h => h.1⟩
end Ago
/- qpath.Delete. -/
set_option maxRecDepth 100000
set_option maxHeartbeats 4000000
namespace Ago
open Go (IntKind)
/-- A row of paths that grows. -/
def rowT : List AV → Heap
  | [] => []
  | x :: l => [.row 1 (x :: l) false true 2]
def thS : List AV → AV
  | [] => .snil 1
  | x :: l => .sref 1 2 0 (l.length + 1)
theorem filter_take {α : Type} {f : α → Bool} {l : List α} {k : Nat} {p : α} (hx : l[k]? = some p) : (l.take (k + 1)).filter f = (l.take k).filter f ++ (if f p then [p] else []) := by
  rw [List.take_add_one, hx, List.filter_append]
  cases h : f p <;> simp [h]
theorem hasP_run (v : V) (p : List Stp) (hv : v.bulk ≤ 2 ^ 24) (hp : p.length < 2 ^ 30) (hk : ∀ s, s ∈ p → s.key.length < 2 ^ 30) : PRun C0 31 [encV v, .tsl 3 (p.map encS)] (.bool (hasP v p)) := has_run v p hv hp hk
theorem delete_run (v : V) (l : List (List Stp)) (hg : Gd 100 v) (hv : v.bulk ≤ 2 ^ 24) (hl : l.length < 2 ^ 20) (hq : ∀ q, q ∈ l → q.length < 2 ^ 30 ∧ ∀ s, s ∈ q → s.key.length < 2 ^ 30) :
    PRun C1 16 [encV v, encPs l] (.tup [encV (delM v l).1, .int .i64 (delM v l).2]) := by
  have hfine : Fine v := ⟨⟨100, by omega, hg.good⟩, hv⟩
  refine prun_of ac16 rfl ?_
  unfold encPs at *
  have hve := encV_eq v
  rw [encV_eq v]
  (repeat' first | simp (disch := omega) only [go_sem, ac16, enter, List.length_map] | ((apply spl) <;> intro h <;> try simp (disch := omega) only [go_sem, ac16, enter, List.length_map, h]))
  refine loop_of (α := Nat × List AV) (fun a => { tmps := slots 82 [(2, .ptr 13 0 0 0), (4, .ptr 13 1 0 0), (6, thS a.2), (7, .bool ((l.take a.1).any List.isEmpty)), (15, .tsl 1 (l.map encP)), (16, .int .i64 l.length), (17, .int .i64 a.1)], heap := [.row 13 [encV v] false true 0, .row 13 [zeroS] false true 1] ++ rowT a.2, base := 0 })
    (fun a => a.1 ≤ l.length ∧ delErr v l = delErr v (l.drop a.1) ∧ a.2 = ((l.take a.1).filter (hasP v)).map encP) (fun a => l.length - a.1) (0, []) (by rw [hve]; rfl) ⟨Nat.zero_le _, rfl, rfl⟩ ?_
  rintro ⟨k, els⟩ ⟨hk, hm, hels⟩
  simp only at hk hm hels
  rw [hve]
  have hle : els.length ≤ k := by
    rw [hels, List.length_map]
    exact Nat.le_trans (List.length_filter_le _ _) (by rw [List.length_take]; omega)
  by_cases hlt : k < l.length
  · obtain ⟨p, hx⟩ := get_some hlt
    have hpm := List.mem_of_getElem? hx
    obtain ⟨hp1, hp2⟩ := hq p hpm
    have hx2 := map_get (g := encP) hx
    rw [encP_eq] at hx2
    have h30 := up1 (pathValidI_run p hp1 hp2)
    have h25 := up1 (get_run v p hfine hp1)
    have h31 := up1 (hasP_run v p hv hp1 hp2)
    rw [hve] at h31
    have hd := drop_cons hx
    have ha := any_take (f := List.isEmpty) hx
    have hft : ((l.take (k + 1)).filter (hasP v)).map encP = _ := congrArg (List.map encP) (filter_take (f := hasP v) hx)
    have hbe : ((p.length : Int) == 0) = p.isEmpty := by
      cases p with
      | nil => rfl
      | cons s p =>
        rw [beqF (by simp; omega)]
        rfl
    cases els with
    | nil =>
      cases hok : pathOk p with
      | false =>
        rw [hok] at h30
        have he : delErr v l = 1 := by rw [hm, hd, delErr, if_pos hok]
        rw [show delM v l = (nullV, 1) by unfold delM; rw [he, if_pos (by simp)], nullV_enc]
        (repeat' first | simp (disch := omega) only [go_sem, hx2, rowT, thS, zeroS, List.length_map] | refine pure_of _ (h30) ?_ | ((apply spl) <;> intro h <;> try simp (disch := omega) only [go_sem, hx2, rowT, thS, zeroS, List.length_map , h]))
      | true =>
        rw [hok] at h30
        by_cases hz : (getM v p).2 = 0
        · have hm2 := delErr_drop hm hx hok hz
          generalize getM v p = R at h25 hz
          rw [hz, hve, encV_eq R.1] at h25
          cases hhas : hasP v p with
          | true =>
            rw [hhas] at h31 hft
            rw [if_pos rfl, List.map_append, List.map_cons, List.map_nil, ← hels, encP_eq] at hft
            cases hb : (l.take k).any List.isEmpty with
            | true =>
              rw [hb] at ha
              (repeat' first | simp (disch := omega) only [go_sem, hx2, rowT, thS, zeroS, List.length_map] | refine pure_of _ (h30) ?_ | refine pure_of _ (h25) ?_ | refine pure_of _ (h31) ?_ | ((apply spl) <;> intro h <;> try simp (disch := omega) only [go_sem, hx2, rowT, thS, zeroS, List.length_map , h]))
              exact ⟨(k + 1, _), by first | (rw [ha]; rfl) | (rw [ha]; simp only [List.cons_append, rowT, thS, List.length_append, List.length_cons, List.length_nil]; rfl), ⟨hlt, hm2, hft.symm⟩, by simp only; omega⟩
            | false =>
              rw [hb] at ha
              (repeat' first | simp (disch := omega) only [go_sem, hx2, rowT, thS, zeroS, List.length_map, hbe] | refine pure_of _ (h30) ?_ | refine pure_of _ (h25) ?_ | refine pure_of _ (h31) ?_ | ((apply spl) <;> intro h <;> try simp (disch := omega) only [go_sem, hx2, rowT, thS, zeroS, List.length_map, hbe , h]))
              exact ⟨(k + 1, _), by first | (rw [ha]; rfl) | (rw [ha]; simp only [List.cons_append, rowT, thS, List.length_append, List.length_cons, List.length_nil]; rfl), ⟨hlt, hm2, hft.symm⟩, by simp only; omega⟩
          | false =>
            rw [hhas] at h31 hft
            rw [if_neg (by simp), List.append_nil, ← hels] at hft
            cases hb : (l.take k).any List.isEmpty with
            | true =>
              rw [hb] at ha
              (repeat' first | simp (disch := omega) only [go_sem, hx2, rowT, thS, zeroS, List.length_map] | refine pure_of _ (h30) ?_ | refine pure_of _ (h25) ?_ | refine pure_of _ (h31) ?_ | ((apply spl) <;> intro h <;> try simp (disch := omega) only [go_sem, hx2, rowT, thS, zeroS, List.length_map , h]))
              exact ⟨(k + 1, _), by first | (rw [ha]; rfl) | (rw [ha]; simp only [List.cons_append, rowT, thS, List.length_append, List.length_cons, List.length_nil]; rfl), ⟨hlt, hm2, hft.symm⟩, by simp only; omega⟩
            | false =>
              rw [hb] at ha
              (repeat' first | simp (disch := omega) only [go_sem, hx2, rowT, thS, zeroS, List.length_map, hbe] | refine pure_of _ (h30) ?_ | refine pure_of _ (h25) ?_ | refine pure_of _ (h31) ?_ | ((apply spl) <;> intro h <;> try simp (disch := omega) only [go_sem, hx2, rowT, thS, zeroS, List.length_map, hbe , h]))
              exact ⟨(k + 1, _), by first | (rw [ha]; rfl) | (rw [ha]; simp only [List.cons_append, rowT, thS, List.length_append, List.length_cons, List.length_nil]; rfl), ⟨hlt, hm2, hft.symm⟩, by simp only; omega⟩
        · have he : delErr v l = (getM v p).2 := by rw [hm, hd, delErr, if_neg (by rw [hok]; simp), if_pos hz]
          rw [show delM v l = (nullV, (getM v p).2) by unfold delM; rw [he, if_pos hz], nullV_enc]
          generalize getM v p = R at h25 hz
          rw [hve, encV_eq R.1] at h25
          (repeat' first | simp (disch := omega) only [go_sem, hx2, rowT, thS, zeroS, List.length_map] | refine pure_of _ (h30) ?_ | refine pure_of _ (h25) ?_ | ((apply spl) <;> intro h <;> try simp (disch := omega) only [go_sem, hx2, rowT, thS, zeroS, List.length_map , h]))
    | cons z els =>
      simp only [List.length_cons] at hle
      cases hok : pathOk p with
      | false =>
        rw [hok] at h30
        have he : delErr v l = 1 := by rw [hm, hd, delErr, if_pos hok]
        rw [show delM v l = (nullV, 1) by unfold delM; rw [he, if_pos (by simp)], nullV_enc]
        (repeat' first | simp (disch := omega) only [go_sem, hx2, rowT, thS, zeroS, List.length_map] | refine pure_of _ (h30) ?_ | ((apply spl) <;> intro h <;> try simp (disch := omega) only [go_sem, hx2, rowT, thS, zeroS, List.length_map , h]))
      | true =>
        rw [hok] at h30
        by_cases hz : (getM v p).2 = 0
        · have hm2 := delErr_drop hm hx hok hz
          generalize getM v p = R at h25 hz
          rw [hz, hve, encV_eq R.1] at h25
          cases hhas : hasP v p with
          | true =>
            rw [hhas] at h31 hft
            rw [if_pos rfl, List.map_append, List.map_cons, List.map_nil, ← hels, encP_eq] at hft
            cases hb : (l.take k).any List.isEmpty with
            | true =>
              rw [hb] at ha
              (repeat' first | simp (disch := omega) only [go_sem, hx2, rowT, thS, zeroS, List.length_map] | refine pure_of _ (h30) ?_ | refine pure_of _ (h25) ?_ | refine pure_of _ (h31) ?_ | ((apply spl) <;> intro h <;> try simp (disch := omega) only [go_sem, hx2, rowT, thS, zeroS, List.length_map , h]))
              exact ⟨(k + 1, _), by first | (rw [ha]; rfl) | (rw [ha]; simp only [List.cons_append, rowT, thS, List.length_append, List.length_cons, List.length_nil]; rfl), ⟨hlt, hm2, hft.symm⟩, by simp only; omega⟩
            | false =>
              rw [hb] at ha
              (repeat' first | simp (disch := omega) only [go_sem, hx2, rowT, thS, zeroS, List.length_map, hbe] | refine pure_of _ (h30) ?_ | refine pure_of _ (h25) ?_ | refine pure_of _ (h31) ?_ | ((apply spl) <;> intro h <;> try simp (disch := omega) only [go_sem, hx2, rowT, thS, zeroS, List.length_map, hbe , h]))
              exact ⟨(k + 1, _), by first | (rw [ha]; rfl) | (rw [ha]; simp only [List.cons_append, rowT, thS, List.length_append, List.length_cons, List.length_nil]; rfl), ⟨hlt, hm2, hft.symm⟩, by simp only; omega⟩
          | false =>
            rw [hhas] at h31 hft
            rw [if_neg (by simp), List.append_nil, ← hels] at hft
            cases hb : (l.take k).any List.isEmpty with
            | true =>
              rw [hb] at ha
              (repeat' first | simp (disch := omega) only [go_sem, hx2, rowT, thS, zeroS, List.length_map] | refine pure_of _ (h30) ?_ | refine pure_of _ (h25) ?_ | refine pure_of _ (h31) ?_ | ((apply spl) <;> intro h <;> try simp (disch := omega) only [go_sem, hx2, rowT, thS, zeroS, List.length_map , h]))
              exact ⟨(k + 1, _), by first | (rw [ha]; rfl) | (rw [ha]; simp only [List.cons_append, rowT, thS, List.length_append, List.length_cons, List.length_nil]; rfl), ⟨hlt, hm2, hft.symm⟩, by simp only; omega⟩
            | false =>
              rw [hb] at ha
              (repeat' first | simp (disch := omega) only [go_sem, hx2, rowT, thS, zeroS, List.length_map, hbe] | refine pure_of _ (h30) ?_ | refine pure_of _ (h25) ?_ | refine pure_of _ (h31) ?_ | ((apply spl) <;> intro h <;> try simp (disch := omega) only [go_sem, hx2, rowT, thS, zeroS, List.length_map, hbe , h]))
              exact ⟨(k + 1, _), by first | (rw [ha]; rfl) | (rw [ha]; simp only [List.cons_append, rowT, thS, List.length_append, List.length_cons, List.length_nil]; rfl), ⟨hlt, hm2, hft.symm⟩, by simp only; omega⟩
        · have he : delErr v l = (getM v p).2 := by rw [hm, hd, delErr, if_neg (by rw [hok]; simp), if_pos hz]
          rw [show delM v l = (nullV, (getM v p).2) by unfold delM; rw [he, if_pos hz], nullV_enc]
          generalize getM v p = R at h25 hz
          rw [hve, encV_eq R.1] at h25
          (repeat' first | simp (disch := omega) only [go_sem, hx2, rowT, thS, zeroS, List.length_map] | refine pure_of _ (h30) ?_ | refine pure_of _ (h25) ?_ | ((apply spl) <;> intro h <;> try simp (disch := omega) only [go_sem, hx2, rowT, thS, zeroS, List.length_map , h]))
  · have hd : l.drop k = [] := List.drop_eq_nil_of_le (by omega)
    rw [hd] at hm
    rw [List.take_of_length_le (by omega)] at hels ⊢
    have he : delErr v l = 0 := hm
    cases hb : l.any List.isEmpty with
    | true =>
      rw [show delM v l = (nullV, 0) by unfold delM; rw [he, if_neg (by simp), hb, if_pos rfl], nullV_enc]
      cases els with
      | nil => (repeat' first | simp (disch := omega) only [go_sem, rowT, thS, zeroS, List.length_map] | ((apply spl) <;> intro h <;> try simp (disch := omega) only [go_sem, rowT, thS, zeroS, List.length_map, h]))
      | cons z els => (repeat' first | simp (disch := omega) only [go_sem, rowT, thS, zeroS, List.length_map] | ((apply spl) <;> intro h <;> try simp (disch := omega) only [go_sem, rowT, thS, zeroS, List.length_map, h]))
    | false =>
      have h26 := up1 (copy_run hg.good (by omega) hv)
      rw [hve] at h26
      obtain ⟨qs, hqs1, hqs2⟩ := sorted_ex (l.filter (hasP v)) fun p hp => delErr_zero he p ((List.mem_filter.1 hp).1)
      obtain ⟨hr, hlaw⟩ := del_law hg hv he hb hqs1 hqs2
      rw [hlaw]
      have hql : qs.length = els.length := by rw [← hqs1.length_eq, hels, List.length_map]
      have hqk : ∀ q, q ∈ qs → q.length < 2 ^ 30 := fun q hq' => (hq q ((List.mem_filter.1 (hqs1.mem_iff.2 hq')).1)).1
      cases els with
      | nil =>
        have hq0 : qs = [] := List.eq_nil_of_length_eq_zero hql
        subst hq0
        have h32 : ∀ H, RunOf C1 32 [.snil 1, .fn 33 []] H (.tup []) H := fun H => sort_nil rfl
        (repeat' first | simp (disch := omega) only [go_sem, rowT, thS, zeroS, List.length_map] | refine pure_of _ (h26) ?_ | (refine call_of _ _ (h32 _) ?_) | ((apply spl) <;> intro h <;> try simp (disch := omega) only [go_sem, rowT, thS, zeroS, List.length_map , h]))
        refine loop_of (α := Unit) (fun _ => { tmps := slots 82 [(4, .ptr 13 0 0 0), (6, .snil 1), (12, .ptr 13 1 0 0), (55, .snil 1), (56, .int .i64 0), (57, .int .i64 0)], heap := [.row 13 [zeroS] false true 0, .row 13 [encV v] false true 1], base := 0 }) (fun _ => True) (fun _ => 0) () (by rw [hve]; rfl) trivial ?_
        rintro _ _
        rw [remGo, hve]
        (repeat' first | simp (disch := omega) only [go_sem, zeroS] | ((apply spl) <;> intro h <;> try simp (disch := omega) only [go_sem, zeroS, h]))
      | cons z els =>
        have h32 : RunOf C1 32 [.sref 1 2 0 (els.length + 1), .fn 33 []] [.row 13 [encV v] false true 0, .row 13 [zeroS] false true 1, .row 1 (z :: els) false true 2] (.tup []) [.row 13 [encV v] false true 0, .row 13 [zeroS] false true 1, .row 1 (qs.map encP) false true 2] := by
          refine sort_row (H1 := [.row 13 [encV v] false true 0, .row 13 [zeroS] false true 1, .row 1 (z :: els) false true 2]) (r := 2) (fam := 2) cQ rfl (by simp) ?_ rfl rfl ?_ ?_ ?_ (?_ : List.Perm _ (qs.map encP)) ?_ (by simp)
          · simp only [List.length_cons, lim_eq] at hle ⊢
            omega
          · rw [hels]
            exact ord_Q fun p hp => delErr_zero he p ((List.mem_filter.1 hp).1)
          · rw [hels]
            intro x hx
            obtain ⟨p, _, rfl⟩ := List.mem_map.1 hx
            rfl
          · rw [hels]
            intro x y hx hy
            obtain ⟨p, hp, rfl⟩ := List.mem_map.1 hx
            obtain ⟨q, hq', rfl⟩ := List.mem_map.1 hy
            unfold cQ
            rw [decP_enc, decP_enc]
            exact cmpQ_run p q (hq p ((List.mem_filter.1 hp).1)).1 (hq q ((List.mem_filter.1 hq').1)).1
          · rw [hels]
            exact hqs1.map _
          · rw [List.pairwise_map]
            refine hqs2.imp fun {a b} h => ?_
            unfold cQ
            rw [decP_enc, decP_enc]
            exact h
        rw [hve] at h32
        have hqlen : ((qs.map encP).length : Int) = (els.length : Int) + 1 := by
          rw [List.length_map, hql]
          simp
        simp only [List.length_cons] at hle hql
        generalize hES : qs.map encP = ES at h32 hqlen
        have hget : ∀ (j : Nat) (q : List Stp), qs[j]? = some q → ES[j]? = some (.tsl 3 (q.map encS)) := fun j q hj => by
          rw [← hES, List.getElem?_map, hj]
          rfl
        (repeat' first | simp (disch := omega) only [go_sem, rowT, thS, zeroS, List.length_map] | refine pure_of _ (h26) ?_ | (refine call_of _ _ h32 ?_) | ((apply spl) <;> intro h <;> try simp (disch := omega) only [go_sem, rowT, thS, zeroS, List.length_map , h]))
        refine loop_of (α := Nat × V) (fun a => { tmps := slots 82 [(4, .ptr 13 0 0 0), (6, .sref 1 1 0 (els.length + 1)), (12, .ptr 13 2 0 0), (55, .sref 1 1 0 (els.length + 1)), (56, .int .i64 ((els.length + 1 : Nat) : Int)), (57, .int .i64 a.1)], heap := [.row 13 [zeroS] false true 0, .row 1 ES false true 1, .row 13 [encV a.2] false true 2], base := 0 })
          (fun a => a.1 ≤ qs.length ∧ remGo none v qs = remGo (if a.1 = 0 then none else qs[a.1 - 1]?) a.2 (qs.drop a.1) ∧ Rdy (if a.1 = 0 then none else qs[a.1 - 1]?) a.2 (qs.drop a.1)) (fun a => qs.length - a.1) (0, v) (by rw [hve]; rfl) ⟨Nat.zero_le _, rfl, hr⟩ ?_
        rintro ⟨k2, out⟩ ⟨hk2, hgo, hrd⟩
        simp only at hk2 hgo hrd
        have hout := encV_eq out
        by_cases hlt2 : k2 < qs.length
        · obtain ⟨p, hx⟩ := get_some hlt2
          have hx2 := hget _ _ hx
          have hd2 := drop_cons hx
          rw [hd2] at hgo hrd
          rw [remGo] at hgo
          have hpk := hqk p (List.mem_of_getElem? hx)
          have h1 : (if k2 + 1 = 0 then none else qs[k2 + 1 - 1]?) = some p := by rw [if_neg (by omega), Nat.add_sub_cancel, hx]
          by_cases hk0 : k2 = 0
          · subst hk0
            rw [if_pos rfl] at hgo hrd
            rw [if_neg (by simp)] at hgo
            obtain ⟨g1, g2, g3⟩ := hrd.here (by simp)
            have h36 := up1 (remP_run hrd.gd hrd.bulk g1 g2 g3)
            have hrd2 := hrd.rem (by simp)
            generalize remP p out = R at h36 hgo hrd2
            rw [encV_eq R, hout] at h36
            rw [hout]
            (repeat' first | simp (disch := omega) only [go_sem, hx2, zeroS] | refine pure_of _ (h36) ?_ | ((apply spl) <;> intro h <;> try simp (disch := omega) only [go_sem, hx2, zeroS , h]))
            exact ⟨(0 + 1, R), by rw [encV_eq R]; rfl, ⟨hlt2, by simp only [h1]; exact hgo, by simp only [h1]; exact hrd2⟩, by simp only; omega⟩
          · rw [if_neg hk0] at hgo hrd
            obtain ⟨q, hxq⟩ := get_some (s := qs) (k := k2 - 1) (by omega)
            have hxq2 := hget _ _ hxq
            rw [hxq] at hgo hrd
            have h35 := up1 (pathEqI_run q p (hqk q (List.mem_of_getElem? hxq)) hpk)
            have hti : ((k2 : Int) - 1).toNat = k2 - 1 := by omega
            by_cases hpq : q = p
            · rw [if_pos (by rw [hpq])] at hgo
              rw [hpq] at hrd
              rw [decide_eq_true hpq] at h35
              have hrd2 := hrd.skip
              rw [hout]
              (repeat' first | simp (disch := omega) only [go_sem, hx2, hxq2, hti, zeroS] | refine pure_of _ (h35) ?_ | ((apply spl) <;> intro h <;> try simp (disch := omega) only [go_sem, hx2, hxq2, hti, zeroS , h]))
              exact ⟨(k2 + 1, out), by rw [hout]; rfl, ⟨hlt2, by simp only [h1]; exact hgo, by simp only [h1]; exact hrd2⟩, by simp only; omega⟩
            · have hne : (some q : Option (List Stp)) ≠ some p := fun e => hpq (Option.some.inj e)
              rw [if_neg hne] at hgo
              rw [decide_eq_false hpq] at h35
              obtain ⟨g1, g2, g3⟩ := hrd.here hne
              have h36 := up1 (remP_run hrd.gd hrd.bulk g1 g2 g3)
              have hrd2 := hrd.rem hne
              generalize remP p out = R at h36 hgo hrd2
              rw [encV_eq R, hout] at h36
              rw [hout]
              (repeat' first | simp (disch := omega) only [go_sem, hx2, hxq2, hti, zeroS] | refine pure_of _ (h35) ?_ | refine pure_of _ (h36) ?_ | ((apply spl) <;> intro h <;> try simp (disch := omega) only [go_sem, hx2, hxq2, hti, zeroS , h]))
              exact ⟨(k2 + 1, R), by rw [encV_eq R]; rfl, ⟨hlt2, by simp only [h1]; exact hgo, by simp only [h1]; exact hrd2⟩, by simp only; omega⟩
        · rw [List.drop_of_length_le (by omega), remGo] at hgo
          rw [hgo, hout]
          (repeat' first | simp (disch := omega) only [go_sem, zeroS] | ((apply spl) <;> intro h <;> try simp (disch := omega) only [go_sem, zeroS, h]))
end Ago
/- The law QpathDeletes. -/
set_option maxRecDepth 100000
set_option maxHeartbeats 4000000
namespace Ago
open Go (IntKind)
theorem delM_bulk (v : V) (l : List (List Stp)) (hg : Gd 100 v) (hv : v.bulk ≤ 2 ^ 24) : (delM v l).1.bulk ≤ 2 ^ 24 := by
  by_cases he : delErr v l = 0
  · cases hb : l.any List.isEmpty with
    | true => rw [show delM v l = (nullV, 0) by unfold delM; rw [he, if_neg (by simp), hb, if_pos rfl]]; exact nullV_bulk
    | false =>
      obtain ⟨qs, hqs1, hqs2⟩ := sorted_ex (l.filter (hasP v)) fun p hp => delErr_zero he p ((List.mem_filter.1 hp).1)
      obtain ⟨hr, hlaw⟩ := del_law hg hv he hb hqs1 hqs2
      rw [hlaw]
      have : ∀ (r : List (List Stp)) (pr : Option (List Stp)) (v : V), Rdy pr v r → (remGo pr v r).bulk ≤ 2 ^ 24 := by
        intro r
        induction r with
        | nil => exact fun pr v h => h.bulk
        | cons p r ih =>
          intro pr v h
          rw [remGo]
          by_cases hp : pr = some p
          · subst hp
            rw [if_pos rfl]
            exact ih _ _ h.skip
          · rw [if_neg hp]
            exact ih _ _ (h.rem hp)
      exact this qs none v hr
  · rw [show delM v l = (nullV, delErr v l) by unfold delM; rw [if_pos he]]
    exact nullV_bulk
end Ago
