/- Automata: what is given, few, the reference's state, Next. -/
import Derived.Test.YtgjabmfdlbmioaaGreatDoorCodeB
import Derived.Test.YtgjabmfdlbmioaaGreatDoorMachE
import Derived.Test.YtgjabmfdlbmioaaGreatDoorMachD
set_option linter.unusedSimpArgs false
set_option linter.unusedVariables false
set_option maxRecDepth 100000
set_option maxHeartbeats 4000000
namespace Ago
open Go (IntKind)
/-- What a machine does, one that has more code does too. -/
theorem bs_more {C C' : Ctx} (h1 : ∀ f fn, C.code f = some fn → C'.code f = some fn) (h2 : ∀ f a H v H', C.prim f a H v H' → C'.prim f a H v H') (h3 : ∀ f t v, C.pprim f t v → C'.pprim f t v) {j : J} (h : BS C j) : BS C' j := by
  induction h with
  | prim h => exact .prim (h2 _ _ _ _ _ h)
  | pprim h => exact .pprim (h3 _ _ _ h)
  | nil s => exact .nil s
  | pass hw _ ih => exact .pass hw ih
  | pure hw ho hv _ ih => exact .pure hw ho hv ih
  | read hw ho hv _ ih => exact .read hw ho hv ih
  | new hw ho hv _ ih => exact .new hw ho hv ih
  | newAt hw ho hv hf _ ih => exact .newAt hw ho hv hf ih
  | eff hw ho hv _ ih => exact .eff hw ho hv ih
  | call hw ho _ _ ihv ih => exact .call hw ho ihv ih
  | pcall hw ho ha _ _ ihr ih => exact .pcall hw ho ha ihr ih
  | callv hw ho ha _ _ ihv ih => exact .callv hw ho ha ihv ih
  | skip s => exact .skip s
  | ops _ ih => exact .ops ih
  | draw hne _ ih => exact .draw hne ih
  | seq _ _ ih1 ih2 => exact .seq ih1 ih2
  | seqE _ he ih => exact .seqE ih he
  | condT hx _ ih => exact .condT hx ih
  | condF hx _ ih => exact .condF hx ih
  | block _ ih => exact .block ih
  | scope _ ih => exact .scope ih
  | loop _ _ ih1 ih2 => exact .loop ih1 ih2
  | loopE _ he ih => exact .loopE ih he
  | exit id s => exact .exit id s
  | ret s => exact .ret s
  | run hf _ he hr ih => exact .run (by rw [h1]; exact hf) ih he hr
  | prun hf _ he hr hv ih => exact .prun (by rw [h1]; exact hf) ih he hr hv
theorem upB {f : Nat} {ts : List AV} {v : AV} (h : PRun CA f ts v) : PRun CB f ts v :=
  bs_more (C := CA) (C' := CB) (fun f fn h => by
    have h : codeA f = some fn := h
    show codeB f = some fn
    unfold codeB
    rw [h]) (fun _ _ _ _ _ h => h) (fun _ _ _ h => h) h
structure Arc where
  lo : Int
  hi : Int
  next : Int
structure Sta where
  acc : Bool
  arcs : List Arc
def encArc (a : Arc) : AV := .agg [.int .i64 a.lo, .int .i64 a.hi, .int .i64 a.next]
def encSta (s : Sta) : AV := .agg [.bool s.acc, .tsl 3 (s.arcs.map encArc)]
def encMa (m : List Sta) : AV := .agg [.tsl 2 (m.map encSta)]
theorem mget {α : Type} {g : α → AV} {l : List α} {k : Nat} {x : α} (hx : l[k]? = some x) : (l.map g)[k]? = some (g x) := by rw [List.getElem?_map, hx]; rfl
theorem dropC {α : Type} {l : List α} {k : Nat} {x : α} (hx : l[k]? = some x) : l.drop k = x :: l.drop (k + 1) := by
  obtain ⟨h3, h4⟩ := List.getElem?_eq_some_iff.1 hx
  rw [List.drop_eq_getElem_cons h3, h4]
theorem exAt {α : Type} {l : List α} {k : Nat} (h : k < l.length) : ∃ x, l[k]? = some x := ⟨_, List.getElem?_eq_getElem h⟩
/-! ### few -/
theorem few_run (m : List Sta) (n : Int) (hm : m.length < 2 ^ 30) : ∃ b, PRun CB 317 [encMa m, .int .i64 n] (.bool b) ∧ (b = true → (m.length : Int) ≤ n ∧ ∀ s, s ∈ m → s.arcs.length ≤ 20) := by
  have h := prunE_of (C := CB) (f := 317) (ts := [encMa m, .int .i64 n]) (k := fun w => ∃ b, w = .bool b ∧ (b = true → (m.length : Int) ≤ n ∧ ∀ s, s ∈ m → s.arcs.length ≤ 20)) ac317 rfl (by
    unfold encMa
    by_cases hn : (m.length : Int) > n
    · (repeat' first | simp (disch := omega) only [go_sem, ac317, enter, List.length_map] | ((first | refine wantDf ?_ ?_ | refine wantDt ?_ ?_ | refine wantEf ?_ ?_ | refine wantEt ?_ ?_ | refine wantNf ?_ ?_ | refine wantNt ?_ ?_ | refine wantNBf ?_ ?_ | refine wantNBt ?_ ?_ | refine wantBf ?_ ?_ | refine wantBt ?_ ?_ | refine boolD ?_ ?_ | refine boolE ?_ ?_ | refine boolN ?_ ?_ | refine boolNB ?_ ?_ | refine boolB ?_ ?_) <;> intro h <;> try simp (disch := omega) only [go_sem, ac317, enter, List.length_map, h]))
      all_goals first | omega | exact ⟨false, rfl, fun h => by cases h⟩
    · (repeat' first | simp (disch := omega) only [go_sem, ac317, enter, List.length_map] | ((first | refine wantDf ?_ ?_ | refine wantDt ?_ ?_ | refine wantEf ?_ ?_ | refine wantEt ?_ ?_ | refine wantNf ?_ ?_ | refine wantNt ?_ ?_ | refine wantNBf ?_ ?_ | refine wantNBt ?_ ?_ | refine wantBf ?_ ?_ | refine wantBt ?_ ?_ | refine boolD ?_ ?_ | refine boolE ?_ ?_ | refine boolN ?_ ?_ | refine boolNB ?_ ?_ | refine boolB ?_ ?_) <;> intro h <;> try simp (disch := omega) only [go_sem, ac317, enter, List.length_map, h]))
      all_goals try omega
      refine loop_of (α := Nat) (fun a => { tmps := slots 26 [(2, .ptr 1 0 0 0), (5, .int .i64 a)], heap := [.row 1 [.agg [.tsl 2 (m.map encSta)]] false true 0], base := 0 }) (fun a => a ≤ m.length ∧ ∀ s, s ∈ m.take a → s.arcs.length ≤ 20) (fun a => m.length - a) 0 rfl ⟨Nat.zero_le _, by simp⟩ ?_
      rintro k ⟨hk, hs⟩
      skip
      by_cases hlt : k < m.length
      · obtain ⟨x, hx⟩ := exAt hlt
        have hx2 : (m.map encSta)[k]? = some (.agg [.bool x.acc, .tsl 3 (x.arcs.map encArc)]) := mget hx
        by_cases h20 : x.arcs.length ≤ 20
        · (repeat' first | simp (disch := omega) only [go_sem, hx2, List.length_map] | ((first | refine wantDf ?_ ?_ | refine wantDt ?_ ?_ | refine wantEf ?_ ?_ | refine wantEt ?_ ?_ | refine wantNf ?_ ?_ | refine wantNt ?_ ?_ | refine wantNBf ?_ ?_ | refine wantNBt ?_ ?_ | refine wantBf ?_ ?_ | refine wantBt ?_ ?_ | refine boolD ?_ ?_ | refine boolE ?_ ?_ | refine boolN ?_ ?_ | refine boolNB ?_ ?_ | refine boolB ?_ ?_) <;> intro h <;> try simp (disch := omega) only [go_sem, hx2, List.length_map, h]))
          all_goals try omega
          refine ⟨k + 1, rfl, ⟨hlt, fun y hy => ?_⟩, by omega⟩
          rw [List.take_add_one, hx] at hy
          rcases List.mem_append.1 hy with hy | hy
          · exact hs y hy
          · have e : y = x := by simpa using hy
            rw [e]
            exact h20
        · (repeat' first | simp (disch := omega) only [go_sem, hx2, List.length_map] | ((first | refine wantDf ?_ ?_ | refine wantDt ?_ ?_ | refine wantEf ?_ ?_ | refine wantEt ?_ ?_ | refine wantNf ?_ ?_ | refine wantNt ?_ ?_ | refine wantNBf ?_ ?_ | refine wantNBt ?_ ?_ | refine wantBf ?_ ?_ | refine wantBt ?_ ?_ | refine boolD ?_ ?_ | refine boolE ?_ ?_ | refine boolN ?_ ?_ | refine boolNB ?_ ?_ | refine boolB ?_ ?_) <;> intro h <;> try simp (disch := omega) only [go_sem, hx2, List.length_map, h]))
          all_goals first | omega | exact ⟨false, rfl, fun h => by cases h⟩
      · have hk2 : k = m.length := by omega
        rw [hk2, List.take_length] at hs
        (repeat' first | simp (disch := omega) only [go_sem, List.length_map] | ((first | refine wantDf ?_ ?_ | refine wantDt ?_ ?_ | refine wantEf ?_ ?_ | refine wantEt ?_ ?_ | refine wantNf ?_ ?_ | refine wantNt ?_ ?_ | refine wantNBf ?_ ?_ | refine wantNBt ?_ ?_ | refine wantBf ?_ ?_ | refine wantBt ?_ ?_ | refine boolD ?_ ?_ | refine boolE ?_ ?_ | refine boolN ?_ ?_ | refine boolNB ?_ ?_ | refine boolB ?_ ?_) <;> intro h <;> try simp (disch := omega) only [go_sem, List.length_map, h]))
        all_goals first | omega | exact ⟨true, rfl, fun _ => ⟨by omega, hs⟩⟩ | exact ⟨true, rfl, fun _ => hs⟩)
  obtain ⟨w, k1, b, rfl, k2⟩ := h
  exact ⟨b, k1, k2⟩
/-! ### the reference's state and Valid -/
def arcsOk (n : Int) : Int → List Arc → Bool
  | lo, [] => lo == 256
  | lo, a :: l => decide (a.lo = lo) && decide (lo ≤ a.hi) && decide (a.hi ≤ 255) && decide (0 ≤ a.next) && decide (a.next < n) && arcsOk n (a.hi + 1) l
theorem arcsOk_nil (n lo : Int) : arcsOk n lo [] = (lo == 256) := (rfl)
theorem arcsOk_cons (n lo : Int) (a : Arc) (l : List Arc) : arcsOk n lo (a :: l) = (decide (a.lo = lo) && decide (lo ≤ a.hi) && decide (a.hi ≤ 255) && decide (0 ≤ a.next) && decide (a.next < n) && arcsOk n (a.hi + 1) l) := (rfl)
def validM (m : List Sta) : Bool := decide (1 ≤ m.length) && decide (m.length ≤ 1024) && m.all fun s => arcsOk m.length 0 s.arcs
theorem state_run (s : Sta) (n : Int) (hs : s.arcs.length < 2 ^ 30) : PRun CB 350 [encSta s, .int .i64 n] (.bool (arcsOk n 0 s.arcs)) := by
  refine prun_of ac350 rfl ?_
  unfold encSta
  (repeat' first | simp (disch := omega) only [go_sem, ac350, enter, List.length_map] | ((first | refine wantDf ?_ ?_ | refine wantDt ?_ ?_ | refine wantEf ?_ ?_ | refine wantEt ?_ ?_ | refine wantNf ?_ ?_ | refine wantNt ?_ ?_ | refine wantNBf ?_ ?_ | refine wantNBt ?_ ?_ | refine wantBf ?_ ?_ | refine wantBt ?_ ?_ | refine boolD ?_ ?_ | refine boolE ?_ ?_ | refine boolN ?_ ?_ | refine boolNB ?_ ?_ | refine boolB ?_ ?_) <;> intro h <;> try simp (disch := omega) only [go_sem, ac350, enter, List.length_map, h]))
  all_goals try omega
  refine loop_of (α := Nat × Int) (fun a => { tmps := slots 52 [(1, .int .i64 n), (2, .ptr 2 0 0 0), (5, .int .i64 a.2), (6, .int .i64 a.1)], heap := [.row 2 [.agg [.bool s.acc, .tsl 3 (s.arcs.map encArc)]] false true 0], base := 0 }) (fun a => a.1 ≤ s.arcs.length ∧ 0 ≤ a.2 ∧ a.2 ≤ 256 ∧ arcsOk n a.2 (s.arcs.drop a.1) = arcsOk n 0 s.arcs) (fun a => s.arcs.length - a.1) (0, 0) rfl ⟨Nat.zero_le _, by decide, by decide, rfl⟩ ?_
  rintro ⟨k, lo⟩ ⟨hk, h1, h2, h3⟩
  simp only at hk h1 h2 h3
  by_cases hlt : k < s.arcs.length
  · obtain ⟨x, hx⟩ := exAt hlt
    have hx2 : (s.arcs.map encArc)[k]? = some (.agg [.int .i64 x.lo, .int .i64 x.hi, .int .i64 x.next]) := mget hx
    rw [dropC hx, arcsOk_cons] at h3
    by_cases c : x.lo = lo ∧ lo ≤ x.hi ∧ x.hi ≤ 255 ∧ 0 ≤ x.next ∧ x.next < n
    · obtain ⟨c1, c2, c3, c4, c5⟩ := c
      simp only [c1, c2, c3, c4, c5, decide_true, Bool.true_and] at h3
      (repeat' first | simp (disch := omega) only [go_sem, hx2, List.length_map] | ((first | refine wantDf ?_ ?_ | refine wantDt ?_ ?_ | refine wantEf ?_ ?_ | refine wantEt ?_ ?_ | refine wantNf ?_ ?_ | refine wantNt ?_ ?_ | refine wantNBf ?_ ?_ | refine wantNBt ?_ ?_ | refine wantBf ?_ ?_ | refine wantBt ?_ ?_ | refine boolD ?_ ?_ | refine boolE ?_ ?_ | refine boolN ?_ ?_ | refine boolNB ?_ ?_ | refine boolB ?_ ?_) <;> intro h <;> try simp (disch := omega) only [go_sem, hx2, List.length_map, h]))
      all_goals try omega
      exact ⟨(k + 1, x.hi + 1), rfl, ⟨hlt, by simp only; omega, by simp only; omega, h3⟩, by simp only; omega⟩
    · have h4 : arcsOk n 0 s.arcs = false := by
        rw [← h3]
        by_cases c1 : x.lo = lo <;> by_cases c2 : lo ≤ x.hi <;> by_cases c3 : x.hi ≤ 255 <;> by_cases c4 : 0 ≤ x.next <;> by_cases c5 : x.next < n <;> simp [c1, c2, c3, c4, c5]
        exact (c ⟨c1, c2, c3, c4, c5⟩).elim
      rw [h4]
      (repeat' first | simp (disch := omega) only [go_sem, hx2, List.length_map] | ((first | refine wantDf ?_ ?_ | refine wantDt ?_ ?_ | refine wantEf ?_ ?_ | refine wantEt ?_ ?_ | refine wantNf ?_ ?_ | refine wantNt ?_ ?_ | refine wantNBf ?_ ?_ | refine wantNBt ?_ ?_ | refine wantBf ?_ ?_ | refine wantBt ?_ ?_ | refine boolD ?_ ?_ | refine boolE ?_ ?_ | refine boolN ?_ ?_ | refine boolNB ?_ ?_ | refine boolB ?_ ?_) <;> intro h <;> try simp (disch := omega) only [go_sem, hx2, List.length_map, h]))
      all_goals omega
  · have hk2 : k = s.arcs.length := by omega
    rw [hk2, List.drop_length, arcsOk_nil] at h3
    rw [← h3]
    (repeat' first | simp (disch := omega) only [go_sem, List.length_map] | ((first | refine wantDf ?_ ?_ | refine wantDt ?_ ?_ | refine wantEf ?_ ?_ | refine wantEt ?_ ?_ | refine wantNf ?_ ?_ | refine wantNt ?_ ?_ | refine wantNBf ?_ ?_ | refine wantNBt ?_ ?_ | refine wantBf ?_ ?_ | refine wantBt ?_ ?_ | refine boolD ?_ ?_ | refine boolE ?_ ?_ | refine boolN ?_ ?_ | refine boolNB ?_ ?_ | refine boolB ?_ ?_) <;> intro h <;> try simp (disch := omega) only [go_sem, List.length_map, h]))
    all_goals first | omega | skip
end Ago
/- Automata: Valid on both sides, a step, Accepts. -/
set_option maxRecDepth 100000
set_option maxHeartbeats 4000000
namespace Ago
open Go (IntKind)
/-- Few states, few arcs. -/
def SmallM (m : List Sta) : Prop := m.length < 2 ^ 30 ∧ ∀ s, s ∈ m → s.arcs.length < 2 ^ 30
theorem refValid_run (m : List Sta) (h : SmallM m) : PRun CB 326 [encMa m] (.bool (validM m)) := by
  obtain ⟨hm, ha⟩ := h
  refine prun_of ac326 rfl ?_
  unfold encMa
  (repeat' first | simp (disch := omega) only [go_sem, ac326, enter, List.length_map] | ((first | refine wantDf ?_ ?_ | refine wantDt ?_ ?_ | refine wantEf ?_ ?_ | refine wantEt ?_ ?_ | refine wantNf ?_ ?_ | refine wantNt ?_ ?_ | refine wantNBf ?_ ?_ | refine wantNBt ?_ ?_ | refine wantBf ?_ ?_ | refine wantBt ?_ ?_ | refine boolD ?_ ?_ | refine boolE ?_ ?_ | refine boolN ?_ ?_ | refine boolNB ?_ ?_ | refine boolB ?_ ?_) <;> intro h <;> try simp (disch := omega) only [go_sem, ac326, enter, List.length_map, h]))
  all_goals try omega
  refine loop_of (α := Nat) (fun a => { tmps := slots 31 [(1, .ptr 1 0 0 0), (3, .int .i64 a)], heap := [.row 1 [.agg [.tsl 2 (m.map encSta)]] false true 0], base := 0 }) (fun a => a ≤ m.length ∧ ∀ s, s ∈ m.take a → arcsOk m.length 0 s.arcs = true) (fun a => m.length - a) 0 rfl ⟨Nat.zero_le _, by simp⟩ ?_
  rintro k ⟨hk, hs⟩
  by_cases hlt : k < m.length
  · obtain ⟨x, hx⟩ := exAt hlt
    have hxm := List.mem_of_getElem? hx
    have hx2 : (m.map encSta)[k]? = some (.agg [.bool x.acc, .tsl 3 (x.arcs.map encArc)]) := mget hx
    have h3 := state_run x m.length (ha x hxm)
    unfold encSta at h3
    cases hv : arcsOk m.length 0 x.arcs with
    | true =>
      rw [hv] at h3
      (repeat' first | simp (disch := omega) only [go_sem, hx2, List.length_map] | refine pure_of _ (h3) ?_ | ((first | refine wantDf ?_ ?_ | refine wantDt ?_ ?_ | refine wantEf ?_ ?_ | refine wantEt ?_ ?_ | refine wantNf ?_ ?_ | refine wantNt ?_ ?_ | refine wantNBf ?_ ?_ | refine wantNBt ?_ ?_ | refine wantBf ?_ ?_ | refine wantBt ?_ ?_ | refine boolD ?_ ?_ | refine boolE ?_ ?_ | refine boolN ?_ ?_ | refine boolNB ?_ ?_ | refine boolB ?_ ?_) <;> intro h <;> try simp (disch := omega) only [go_sem, hx2, List.length_map , h]))
      all_goals try omega
      refine ⟨k + 1, rfl, ⟨hlt, fun y hy => ?_⟩, by omega⟩
      rw [List.take_add_one, hx] at hy
      rcases List.mem_append.1 hy with hy | hy
      · exact hs y hy
      · have e : y = x := by simpa using hy
        rw [e]
        exact hv
    | false =>
      have h4 : validM m = false := by
        unfold validM
        have : (m.all fun s => arcsOk m.length 0 s.arcs) = false := by
          rw [List.all_eq_false]
          exact ⟨x, hxm, by rw [hv]; simp⟩
        rw [this, Bool.and_false]
      rw [hv] at h3
      rw [h4]
      (repeat' first | simp (disch := omega) only [go_sem, hx2, List.length_map] | refine pure_of _ (h3) ?_ | ((first | refine wantDf ?_ ?_ | refine wantDt ?_ ?_ | refine wantEf ?_ ?_ | refine wantEt ?_ ?_ | refine wantNf ?_ ?_ | refine wantNt ?_ ?_ | refine wantNBf ?_ ?_ | refine wantNBt ?_ ?_ | refine wantBf ?_ ?_ | refine wantBt ?_ ?_ | refine boolD ?_ ?_ | refine boolE ?_ ?_ | refine boolN ?_ ?_ | refine boolNB ?_ ?_ | refine boolB ?_ ?_) <;> intro h <;> try simp (disch := omega) only [go_sem, hx2, List.length_map , h]))
      all_goals omega
  · have hk2 : k = m.length := by omega
    rw [hk2, List.take_length] at hs
    have h4 : validM m = (decide (1 ≤ m.length) && decide (m.length ≤ 1024)) := by
      unfold validM
      have : (m.all fun s => arcsOk m.length 0 s.arcs) = true := List.all_eq_true.2 hs
      rw [this, Bool.and_true]
    rw [h4]
    by_cases c1 : 1 ≤ m.length <;> by_cases c2 : m.length ≤ 1024 <;> simp only [c1, c2, decide_true, decide_false, Bool.and_true, Bool.and_false, Bool.true_and, Bool.false_and] <;> (repeat' first | simp (disch := omega) only [go_sem, List.length_map] | ((first | refine wantDf ?_ ?_ | refine wantDt ?_ ?_ | refine wantEf ?_ ?_ | refine wantEt ?_ ?_ | refine wantNf ?_ ?_ | refine wantNt ?_ ?_ | refine wantNBf ?_ ?_ | refine wantNBt ?_ ?_ | refine wantBf ?_ ?_ | refine wantBt ?_ ?_ | refine boolD ?_ ?_ | refine boolE ?_ ?_ | refine boolN ?_ ?_ | refine boolNB ?_ ?_ | refine boolB ?_ ?_) <;> intro h <;> try simp (disch := omega) only [go_sem, List.length_map, h])) <;> omega
theorem validM_false {m : List Sta} {x : Sta} (hx : x ∈ m) (h : arcsOk m.length 0 x.arcs = false) : validM m = false := by
  unfold validM
  have : (m.all fun s => arcsOk m.length 0 s.arcs) = false := by
    rw [List.all_eq_false]
    exact ⟨x, hx, by rw [h]; simp⟩
  rw [this, Bool.and_false]
theorem valid_run (m : List Sta) (h : SmallM m) : PRun CB 231 [encMa m] (.bool (validM m)) := by
  obtain ⟨hm, ha⟩ := h
  refine prun_of ac231 rfl ?_
  unfold encMa
  by_cases hlen : m.length < 1 ∨ 1024 < m.length
  · have h4 : validM m = false := by
      unfold validM
      by_cases c1 : 1 ≤ m.length <;> by_cases c2 : m.length ≤ 1024 <;> simp only [c1, c2, decide_true, decide_false, Bool.and_true, Bool.and_false, Bool.true_and, Bool.false_and]
      omega
    rw [h4]
    (repeat' first | simp (disch := omega) only [go_sem, ac231, enter, List.length_map] | ((first | refine wantDf ?_ ?_ | refine wantDt ?_ ?_ | refine wantEf ?_ ?_ | refine wantEt ?_ ?_ | refine wantNf ?_ ?_ | refine wantNt ?_ ?_ | refine wantNBf ?_ ?_ | refine wantNBt ?_ ?_ | refine wantBf ?_ ?_ | refine wantBt ?_ ?_ | refine boolD ?_ ?_ | refine boolE ?_ ?_ | refine boolN ?_ ?_ | refine boolNB ?_ ?_ | refine boolB ?_ ?_) <;> intro h <;> try simp (disch := omega) only [go_sem, ac231, enter, List.length_map, h]))
    all_goals omega
  (repeat' first | simp (disch := omega) only [go_sem, ac231, enter, List.length_map] | ((first | refine wantDf ?_ ?_ | refine wantDt ?_ ?_ | refine wantEf ?_ ?_ | refine wantEt ?_ ?_ | refine wantNf ?_ ?_ | refine wantNt ?_ ?_ | refine wantNBf ?_ ?_ | refine wantNBt ?_ ?_ | refine wantBf ?_ ?_ | refine wantBt ?_ ?_ | refine boolD ?_ ?_ | refine boolE ?_ ?_ | refine boolN ?_ ?_ | refine boolNB ?_ ?_ | refine boolB ?_ ?_) <;> intro h <;> try simp (disch := omega) only [go_sem, ac231, enter, List.length_map, h]))
  all_goals try omega
  refine loop_of (α := Nat) (fun a => { tmps := slots 68 [(1, .ptr 1 0 0 0), (19, .tsl 2 (m.map encSta)), (20, .int .i64 m.length), (21, .int .i64 a)], heap := [.row 1 [.agg [.tsl 2 (m.map encSta)]] false true 0], base := 0 }) (fun a => a ≤ m.length ∧ ∀ s, s ∈ m.take a → arcsOk m.length 0 s.arcs = true) (fun a => m.length - a) 0 rfl ⟨Nat.zero_le _, by simp⟩ ?_
  rintro k ⟨hk, hs⟩
  by_cases hlt : k < m.length
  · obtain ⟨x, hx⟩ := exAt hlt
    have hxm := List.mem_of_getElem? hx
    have hxa := ha x hxm
    have hx2 : (m.map encSta)[k]? = some (.agg [.bool x.acc, .tsl 3 (x.arcs.map encArc)]) := mget hx
    (repeat' first | simp (disch := omega) only [go_sem, hx2, List.length_map] | ((first | refine wantDf ?_ ?_ | refine wantDt ?_ ?_ | refine wantEf ?_ ?_ | refine wantEt ?_ ?_ | refine wantNf ?_ ?_ | refine wantNt ?_ ?_ | refine wantNBf ?_ ?_ | refine wantNBt ?_ ?_ | refine wantBf ?_ ?_ | refine wantBt ?_ ?_ | refine boolD ?_ ?_ | refine boolE ?_ ?_ | refine boolN ?_ ?_ | refine boolNB ?_ ?_ | refine boolB ?_ ?_) <;> intro h <;> try simp (disch := omega) only [go_sem, hx2, List.length_map, h]))
    all_goals try omega
    refine loop_of (α := Nat × Int) (fun a => { tmps := slots 68 [(1, .ptr 1 0 0 0), (5, .int .i64 a.2), (19, .tsl 2 (m.map encSta)), (20, .int .i64 m.length), (21, .int .i64 k), (26, .tsl 3 (x.arcs.map encArc)), (27, .int .i64 x.arcs.length), (28, .int .i64 a.1)], heap := [.row 1 [.agg [.tsl 2 (m.map encSta)]] false true 0], base := 0 }) (fun a => a.1 ≤ x.arcs.length ∧ 0 ≤ a.2 ∧ a.2 ≤ 256 ∧ arcsOk m.length a.2 (x.arcs.drop a.1) = arcsOk m.length 0 x.arcs) (fun a => x.arcs.length - a.1) (0, 0) rfl ⟨Nat.zero_le _, by decide, by decide, rfl⟩ ?_
    rintro ⟨j, lo⟩ ⟨hj, h1, h2, h3⟩
    simp only at hj h1 h2 h3
    by_cases hjt : j < x.arcs.length
    · obtain ⟨y, hy⟩ := exAt hjt
      have hy2 : (x.arcs.map encArc)[j]? = some (.agg [.int .i64 y.lo, .int .i64 y.hi, .int .i64 y.next]) := mget hy
      rw [dropC hy, arcsOk_cons] at h3
      by_cases c : y.lo = lo ∧ lo ≤ y.hi ∧ y.hi ≤ 255 ∧ 0 ≤ y.next ∧ y.next < m.length
      · obtain ⟨c1, c2, c3, c4, c5⟩ := c
        simp only [c1, c2, c3, c4, c5, decide_true, Bool.true_and] at h3
        (repeat' first | simp (disch := omega) only [go_sem, hy2, List.length_map] | ((first | refine wantDf ?_ ?_ | refine wantDt ?_ ?_ | refine wantEf ?_ ?_ | refine wantEt ?_ ?_ | refine wantNf ?_ ?_ | refine wantNt ?_ ?_ | refine wantNBf ?_ ?_ | refine wantNBt ?_ ?_ | refine wantBf ?_ ?_ | refine wantBt ?_ ?_ | refine boolD ?_ ?_ | refine boolE ?_ ?_ | refine boolN ?_ ?_ | refine boolNB ?_ ?_ | refine boolB ?_ ?_) <;> intro h <;> try simp (disch := omega) only [go_sem, hy2, List.length_map, h]))
        all_goals try omega
        exact ⟨(j + 1, y.hi + 1), rfl, ⟨hjt, by simp only; omega, by simp only; omega, h3⟩, by simp only; omega⟩
      · have h4 : arcsOk m.length 0 x.arcs = false := by
          rw [← h3]
          by_cases c1 : y.lo = lo <;> by_cases c2 : lo ≤ y.hi <;> by_cases c3 : y.hi ≤ 255 <;> by_cases c4 : 0 ≤ y.next <;> by_cases c5 : y.next < m.length <;> simp [c1, c2, c3, c4, c5]
          exact (c ⟨c1, c2, c3, c4, c5⟩).elim
        rw [validM_false hxm h4]
        (repeat' first | simp (disch := omega) only [go_sem, hy2, List.length_map] | ((first | refine wantDf ?_ ?_ | refine wantDt ?_ ?_ | refine wantEf ?_ ?_ | refine wantEt ?_ ?_ | refine wantNf ?_ ?_ | refine wantNt ?_ ?_ | refine wantNBf ?_ ?_ | refine wantNBt ?_ ?_ | refine wantBf ?_ ?_ | refine wantBt ?_ ?_ | refine boolD ?_ ?_ | refine boolE ?_ ?_ | refine boolN ?_ ?_ | refine boolNB ?_ ?_ | refine boolB ?_ ?_) <;> intro h <;> try simp (disch := omega) only [go_sem, hy2, List.length_map, h]))
        all_goals omega
    · have hj2 : j = x.arcs.length := by omega
      rw [hj2, List.drop_length, arcsOk_nil] at h3
      by_cases c : lo = 256
      · have hv : arcsOk m.length 0 x.arcs = true := by
          rw [← h3, c]
          rfl
        (repeat' first | simp (disch := omega) only [go_sem, List.length_map] | ((first | refine wantDf ?_ ?_ | refine wantDt ?_ ?_ | refine wantEf ?_ ?_ | refine wantEt ?_ ?_ | refine wantNf ?_ ?_ | refine wantNt ?_ ?_ | refine wantNBf ?_ ?_ | refine wantNBt ?_ ?_ | refine wantBf ?_ ?_ | refine wantBt ?_ ?_ | refine boolD ?_ ?_ | refine boolE ?_ ?_ | refine boolN ?_ ?_ | refine boolNB ?_ ?_ | refine boolB ?_ ?_) <;> intro h <;> try simp (disch := omega) only [go_sem, List.length_map, h]))
        all_goals try omega
        refine ⟨k + 1, rfl, ⟨hlt, fun y hy => ?_⟩, by omega⟩
        rw [List.take_add_one, hx] at hy
        rcases List.mem_append.1 hy with hy | hy
        · exact hs y hy
        · have e : y = x := by simpa using hy
          rw [e]
          exact hv
      · have h4 : arcsOk m.length 0 x.arcs = false := by
          rw [← h3]
          simpa using c
        rw [validM_false hxm h4]
        (repeat' first | simp (disch := omega) only [go_sem, List.length_map] | ((first | refine wantDf ?_ ?_ | refine wantDt ?_ ?_ | refine wantEf ?_ ?_ | refine wantEt ?_ ?_ | refine wantNf ?_ ?_ | refine wantNt ?_ ?_ | refine wantNBf ?_ ?_ | refine wantNBt ?_ ?_ | refine wantBf ?_ ?_ | refine wantBt ?_ ?_ | refine boolD ?_ ?_ | refine boolE ?_ ?_ | refine boolN ?_ ?_ | refine boolNB ?_ ?_ | refine boolB ?_ ?_) <;> intro h <;> try simp (disch := omega) only [go_sem, List.length_map, h]))
        all_goals omega
  · have hk2 : k = m.length := by omega
    rw [hk2, List.take_length] at hs
    have h4 : validM m = true := by
      unfold validM
      have : (m.all fun s => arcsOk m.length 0 s.arcs) = true := List.all_eq_true.2 hs
      rw [this]
      simp
      omega
    rw [h4]
    (repeat' first | simp (disch := omega) only [go_sem, List.length_map] | ((first | refine wantDf ?_ ?_ | refine wantDt ?_ ?_ | refine wantEf ?_ ?_ | refine wantEt ?_ ?_ | refine wantNf ?_ ?_ | refine wantNt ?_ ?_ | refine wantNBf ?_ ?_ | refine wantNBt ?_ ?_ | refine wantBf ?_ ?_ | refine wantBt ?_ ?_ | refine boolD ?_ ?_ | refine boolE ?_ ?_ | refine boolN ?_ ?_ | refine boolNB ?_ ?_ | refine boolB ?_ ?_) <;> intro h <;> try simp (disch := omega) only [go_sem, List.length_map, h]))
    all_goals omega
end Ago
/- Automata: a step, Accepts, the law AutomatonValids. -/
set_option maxRecDepth 100000
set_option maxHeartbeats 4000000
namespace Ago
open Go (IntKind)
def nextGo (b : Int) : List Arc → Int
  | [] => 0
  | a :: l => if a.lo ≤ b ∧ b ≤ a.hi then a.next else nextGo b l
def stepGo (b : Int) : List Arc → Int
  | [] => 0
  | a :: l => if b ≤ a.hi then a.next else stepGo b l
theorem nextGo_nil (b : Int) : nextGo b [] = 0 := (rfl)
theorem nextGo_cons (b : Int) (a : Arc) (l : List Arc) : nextGo b (a :: l) = if a.lo ≤ b ∧ b ≤ a.hi then a.next else nextGo b l := (rfl)
theorem stepGo_nil (b : Int) : stepGo b [] = 0 := (rfl)
theorem stepGo_cons (b : Int) (a : Arc) (l : List Arc) : stepGo b (a :: l) = if b ≤ a.hi then a.next else stepGo b l := (rfl)
theorem step_next {n : Int} {b : Int} : ∀ (l : List Arc) (lo : Int), arcsOk n lo l = true → lo ≤ b → stepGo b l = nextGo b l
  | [], _, _, _ => rfl
  | a :: l, lo, h, hb => by
    rw [arcsOk_cons] at h
    simp only [Bool.and_eq_true, decide_eq_true_eq] at h
    obtain ⟨⟨⟨⟨⟨h1, h2⟩, h3⟩, h4⟩, h5⟩, h6⟩ := h
    rw [stepGo_cons, nextGo_cons]
    by_cases c : b ≤ a.hi
    · rw [if_pos c, if_pos ⟨by omega, c⟩]
    · rw [if_neg c, if_neg (fun h => c h.2)]
      exact step_next l _ h6 (by omega)
theorem next_in {n : Int} {b : Int} : ∀ (l : List Arc) (lo : Int), arcsOk n lo l = true → lo ≤ b → b < 256 → 0 ≤ nextGo b l ∧ nextGo b l < n
  | [], lo, h, hb, hb2 => by
    rw [arcsOk_nil] at h
    have : lo = 256 := by simpa using h
    omega
  | a :: l, lo, h, hb, hb2 => by
    rw [arcsOk_cons] at h
    simp only [Bool.and_eq_true, decide_eq_true_eq] at h
    obtain ⟨⟨⟨⟨⟨h1, h2⟩, h3⟩, h4⟩, h5⟩, h6⟩ := h
    rw [nextGo_cons]
    by_cases c : a.lo ≤ b ∧ b ≤ a.hi
    · rw [if_pos c]
      exact ⟨h4, h5⟩
    · rw [if_neg c]
      exact next_in l _ h6 (by omega) hb2
theorem next_run (m : List Sta) (h : SmallM m) (q : Nat) (x : Sta) (hx : m[q]? = some x) (b : Int) : PRun CB 351 [encMa m, .int .i64 q, .int .i64 b] (.int .i64 (nextGo b x.arcs)) := by
  obtain ⟨hm, ha⟩ := h
  have hxm := List.mem_of_getElem? hx
  have hxa := ha x hxm
  have hq := (List.getElem?_eq_some_iff.1 hx).1
  have hx2 : (m.map encSta)[q]? = some (.agg [.bool x.acc, .tsl 3 (x.arcs.map encArc)]) := mget hx
  refine prun_of ac351 rfl ?_
  unfold encMa
  (repeat' first | simp (disch := omega) only [go_sem, ac351, enter, List.length_map] | ((first | refine wantDf ?_ ?_ | refine wantDt ?_ ?_ | refine wantEf ?_ ?_ | refine wantEt ?_ ?_ | refine wantNf ?_ ?_ | refine wantNt ?_ ?_ | refine wantNBf ?_ ?_ | refine wantNBt ?_ ?_ | refine wantBf ?_ ?_ | refine wantBt ?_ ?_ | refine boolD ?_ ?_ | refine boolE ?_ ?_ | refine boolN ?_ ?_ | refine boolNB ?_ ?_ | refine boolB ?_ ?_) <;> intro h <;> try simp (disch := omega) only [go_sem, ac351, enter, List.length_map, h]))
  all_goals try omega
  refine loop_of (α := Nat) (fun a => { tmps := slots 41 [(1, .int .i64 q), (2, .int .i64 b), (3, .ptr 1 0 0 0), (7, .int .i64 a)], heap := [.row 1 [.agg [.tsl 2 (m.map encSta)]] false true 0], base := 0 }) (fun a => a ≤ x.arcs.length ∧ nextGo b (x.arcs.drop a) = nextGo b x.arcs) (fun a => x.arcs.length - a) 0 rfl ⟨Nat.zero_le _, rfl⟩ ?_
  rintro j ⟨hj, h3⟩
  by_cases hjt : j < x.arcs.length
  · obtain ⟨y, hy⟩ := exAt hjt
    have hy2 : (x.arcs.map encArc)[j]? = some (.agg [.int .i64 y.lo, .int .i64 y.hi, .int .i64 y.next]) := mget hy
    rw [dropC hy, nextGo_cons] at h3
    by_cases c1 : y.lo ≤ b <;> by_cases c2 : b ≤ y.hi
    · rw [if_pos ⟨c1, c2⟩] at h3
      rw [← h3]
      (repeat' first | simp (disch := omega) only [go_sem, hx2, hy2, List.length_map] | ((first | refine wantDf ?_ ?_ | refine wantDt ?_ ?_ | refine wantEf ?_ ?_ | refine wantEt ?_ ?_ | refine wantNf ?_ ?_ | refine wantNt ?_ ?_ | refine wantNBf ?_ ?_ | refine wantNBt ?_ ?_ | refine wantBf ?_ ?_ | refine wantBt ?_ ?_ | refine boolD ?_ ?_ | refine boolE ?_ ?_ | refine boolN ?_ ?_ | refine boolNB ?_ ?_ | refine boolB ?_ ?_) <;> intro h <;> try simp (disch := omega) only [go_sem, hx2, hy2, List.length_map, h]))
      all_goals omega
    all_goals
      rw [if_neg (by omega)] at h3
      (repeat' first | simp (disch := omega) only [go_sem, hx2, hy2, List.length_map] | ((first | refine wantDf ?_ ?_ | refine wantDt ?_ ?_ | refine wantEf ?_ ?_ | refine wantEt ?_ ?_ | refine wantNf ?_ ?_ | refine wantNt ?_ ?_ | refine wantNBf ?_ ?_ | refine wantNBt ?_ ?_ | refine wantBf ?_ ?_ | refine wantBt ?_ ?_ | refine boolD ?_ ?_ | refine boolE ?_ ?_ | refine boolN ?_ ?_ | refine boolNB ?_ ?_ | refine boolB ?_ ?_) <;> intro h <;> try simp (disch := omega) only [go_sem, hx2, hy2, List.length_map, h]))
      all_goals try omega
      exact ⟨j + 1, rfl, ⟨hjt, h3⟩, by omega⟩
  · have hj2 : j = x.arcs.length := by omega
    rw [hj2, List.drop_length, nextGo_nil] at h3
    rw [← h3]
    (repeat' first | simp (disch := omega) only [go_sem, hx2, List.length_map] | ((first | refine wantDf ?_ ?_ | refine wantDt ?_ ?_ | refine wantEf ?_ ?_ | refine wantEt ?_ ?_ | refine wantNf ?_ ?_ | refine wantNt ?_ ?_ | refine wantNBf ?_ ?_ | refine wantNBt ?_ ?_ | refine wantBf ?_ ?_ | refine wantBt ?_ ?_ | refine boolD ?_ ?_ | refine boolE ?_ ?_ | refine boolN ?_ ?_ | refine boolNB ?_ ?_ | refine boolB ?_ ?_) <;> intro h <;> try simp (disch := omega) only [go_sem, hx2, List.length_map, h]))
    all_goals omega
theorem step_run (m : List Sta) (h : SmallM m) (q : Nat) (x : Sta) (hx : m[q]? = some x) (b : Int) : PRun CB 252 [encMa m, .int .i64 q, .int .i64 b] (.int .i64 (stepGo b x.arcs)) := by
  obtain ⟨hm, ha⟩ := h
  have hxm := List.mem_of_getElem? hx
  have hxa := ha x hxm
  have hq := (List.getElem?_eq_some_iff.1 hx).1
  have hx2 : (m.map encSta)[q]? = some (.agg [.bool x.acc, .tsl 3 (x.arcs.map encArc)]) := mget hx
  refine prun_of ac252 rfl ?_
  unfold encMa
  (repeat' first | simp (disch := omega) only [go_sem, ac252, enter, hx2, List.length_map] | ((first | refine wantDf ?_ ?_ | refine wantDt ?_ ?_ | refine wantEf ?_ ?_ | refine wantEt ?_ ?_ | refine wantNf ?_ ?_ | refine wantNt ?_ ?_ | refine wantNBf ?_ ?_ | refine wantNBt ?_ ?_ | refine wantBf ?_ ?_ | refine wantBt ?_ ?_ | refine boolD ?_ ?_ | refine boolE ?_ ?_ | refine boolN ?_ ?_ | refine boolNB ?_ ?_ | refine boolB ?_ ?_) <;> intro h <;> try simp (disch := omega) only [go_sem, ac252, enter, hx2, List.length_map, h]))
  all_goals try omega
  refine loop_of (α := Nat) (fun a => { tmps := slots 27 [(2, .int .i64 b), (14, .tsl 3 (x.arcs.map encArc)), (15, .int .i64 x.arcs.length), (16, .int .i64 a)], heap := [], base := 0 }) (fun a => a ≤ x.arcs.length ∧ stepGo b (x.arcs.drop a) = stepGo b x.arcs) (fun a => x.arcs.length - a) 0 rfl ⟨Nat.zero_le _, rfl⟩ ?_
  rintro j ⟨hj, h3⟩
  by_cases hjt : j < x.arcs.length
  · obtain ⟨y, hy⟩ := exAt hjt
    have hy2 : (x.arcs.map encArc)[j]? = some (.agg [.int .i64 y.lo, .int .i64 y.hi, .int .i64 y.next]) := mget hy
    rw [dropC hy, stepGo_cons] at h3
    by_cases c2 : b ≤ y.hi
    · rw [if_pos c2] at h3
      rw [← h3]
      (repeat' first | simp (disch := omega) only [go_sem, hy2, List.length_map] | ((first | refine wantDf ?_ ?_ | refine wantDt ?_ ?_ | refine wantEf ?_ ?_ | refine wantEt ?_ ?_ | refine wantNf ?_ ?_ | refine wantNt ?_ ?_ | refine wantNBf ?_ ?_ | refine wantNBt ?_ ?_ | refine wantBf ?_ ?_ | refine wantBt ?_ ?_ | refine boolD ?_ ?_ | refine boolE ?_ ?_ | refine boolN ?_ ?_ | refine boolNB ?_ ?_ | refine boolB ?_ ?_) <;> intro h <;> try simp (disch := omega) only [go_sem, hy2, List.length_map, h]))
      all_goals omega
    · rw [if_neg c2] at h3
      (repeat' first | simp (disch := omega) only [go_sem, hy2, List.length_map] | ((first | refine wantDf ?_ ?_ | refine wantDt ?_ ?_ | refine wantEf ?_ ?_ | refine wantEt ?_ ?_ | refine wantNf ?_ ?_ | refine wantNt ?_ ?_ | refine wantNBf ?_ ?_ | refine wantNBt ?_ ?_ | refine wantBf ?_ ?_ | refine wantBt ?_ ?_ | refine boolD ?_ ?_ | refine boolE ?_ ?_ | refine boolN ?_ ?_ | refine boolNB ?_ ?_ | refine boolB ?_ ?_) <;> intro h <;> try simp (disch := omega) only [go_sem, hy2, List.length_map, h]))
      all_goals try omega
      exact ⟨j + 1, rfl, ⟨hjt, h3⟩, by omega⟩
  · have hj2 : j = x.arcs.length := by omega
    rw [hj2, List.drop_length, stepGo_nil] at h3
    rw [← h3]
    (repeat' first | simp (disch := omega) only [go_sem, List.length_map] | ((first | refine wantDf ?_ ?_ | refine wantDt ?_ ?_ | refine wantEf ?_ ?_ | refine wantEt ?_ ?_ | refine wantNf ?_ ?_ | refine wantNt ?_ ?_ | refine wantNBf ?_ ?_ | refine wantNBt ?_ ?_ | refine wantBf ?_ ?_ | refine wantBt ?_ ?_ | refine boolD ?_ ?_ | refine boolE ?_ ?_ | refine boolN ?_ ?_ | refine boolNB ?_ ?_ | refine boolB ?_ ?_) <;> intro h <;> try simp (disch := omega) only [go_sem, List.length_map, h]))
    all_goals omega
def runQ (m : List Sta) : Nat → List UInt8 → Nat
  | q, [] => q
  | q, c :: s => match m[q]? with
    | some x => runQ m (nextGo c.toNat x.arcs).toNat s
    | none => q
def acceptsM (m : List Sta) (s : List UInt8) : Bool := validM m && match m[runQ m 0 s]? with
  | some x => x.acc
  | none => false
theorem runQ_nil (m : List Sta) (q : Nat) : runQ m q [] = q := (rfl)
theorem runQ_cons {m : List Sta} {q : Nat} {x : Sta} (hx : m[q]? = some x) (c : UInt8) (s : List UInt8) : runQ m q (c :: s) = runQ m (nextGo c.toNat x.arcs).toNat s := by
  rw [runQ, hx]
theorem valid_arcs {m : List Sta} (h : validM m = true) {x : Sta} (hx : x ∈ m) : arcsOk m.length 0 x.arcs = true := by
  unfold validM at h
  simp only [Bool.and_eq_true] at h
  exact List.all_eq_true.1 h.2 x hx
theorem valid_len {m : List Sta} (h : validM m = true) : 1 ≤ m.length := by
  unfold validM at h
  simp only [Bool.and_eq_true, decide_eq_true_eq] at h
  exact h.1.1
theorem refAccepts_run (m : List Sta) (h : SmallM m) (s : List UInt8) (hs : s.length < 2 ^ 30) : PRun CB 327 [encMa m, .str s] (.bool (acceptsM m s)) := by
  have hv := refValid_run m h
  have hN := fun q x hx b => next_run m h q x hx b
  obtain ⟨hm, ha⟩ := h
  refine prun_of ac327 rfl ?_
  unfold encMa at hv hN ⊢
  cases hvm : validM m with
  | false =>
    rw [hvm] at hv
    unfold acceptsM
    rw [hvm]
    (repeat' first | simp (disch := omega) only [go_sem, ac327, enter, List.length_map, Bool.false_and] | refine pure_of _ (hv) ?_ | ((first | refine wantDf ?_ ?_ | refine wantDt ?_ ?_ | refine wantEf ?_ ?_ | refine wantEt ?_ ?_ | refine wantNf ?_ ?_ | refine wantNt ?_ ?_ | refine wantNBf ?_ ?_ | refine wantNBt ?_ ?_ | refine wantBf ?_ ?_ | refine wantBt ?_ ?_ | refine boolD ?_ ?_ | refine boolE ?_ ?_ | refine boolN ?_ ?_ | refine boolNB ?_ ?_ | refine boolB ?_ ?_) <;> intro h <;> try simp (disch := omega) only [go_sem, ac327, enter, List.length_map, Bool.false_and , h]))
  | true =>
    rw [hvm] at hv
    have h1 := valid_len hvm
    (repeat' first | simp (disch := omega) only [go_sem, ac327, enter, List.length_map] | refine pure_of _ (hv) ?_ | ((first | refine wantDf ?_ ?_ | refine wantDt ?_ ?_ | refine wantEf ?_ ?_ | refine wantEt ?_ ?_ | refine wantNf ?_ ?_ | refine wantNt ?_ ?_ | refine wantNBf ?_ ?_ | refine wantNBt ?_ ?_ | refine wantBf ?_ ?_ | refine wantBt ?_ ?_ | refine boolD ?_ ?_ | refine boolE ?_ ?_ | refine boolN ?_ ?_ | refine boolNB ?_ ?_ | refine boolB ?_ ?_) <;> intro h <;> try simp (disch := omega) only [go_sem, ac327, enter, List.length_map , h]))
    all_goals try omega
    refine loop_of (α := Nat × Nat) (fun a => { tmps := slots 29 [(1, .str s), (2, .ptr 1 0 0 0), (5, .int .i64 a.2), (6, .int .i64 a.1)], heap := [.row 1 [.agg [.tsl 2 (m.map encSta)]] false true 0], base := 0 }) (fun a => a.1 ≤ s.length ∧ a.2 < m.length ∧ runQ m a.2 (s.drop a.1) = runQ m 0 s) (fun a => s.length - a.1) (0, 0) rfl ⟨Nat.zero_le _, h1, rfl⟩ ?_
    rintro ⟨k, q⟩ ⟨hk, hq, h3⟩
    simp only at hk hq h3
    obtain ⟨x, hx⟩ := exAt hq
    have hxm := List.mem_of_getElem? hx
    have hx2 : (m.map encSta)[q]? = some (.agg [.bool x.acc, .tsl 3 (x.arcs.map encArc)]) := mget hx
    by_cases hlt : k < s.length
    · obtain ⟨c, hc⟩ := exAt hlt
      have hc8 : c.toNat < 256 := UInt8.toNat_lt c
      rw [dropC hc, runQ_cons hx] at h3
      have hn := hN q x hx c.toNat
      obtain ⟨n1, n2⟩ := next_in (n := m.length) (b := c.toNat) x.arcs 0 (valid_arcs hvm hxm) (by omega) (by omega)
      (repeat' first | simp (disch := omega) only [go_sem, hc, hx2, List.length_map] | refine pure_of _ (hn) ?_ | ((first | refine wantDf ?_ ?_ | refine wantDt ?_ ?_ | refine wantEf ?_ ?_ | refine wantEt ?_ ?_ | refine wantNf ?_ ?_ | refine wantNt ?_ ?_ | refine wantNBf ?_ ?_ | refine wantNBt ?_ ?_ | refine wantBf ?_ ?_ | refine wantBt ?_ ?_ | refine boolD ?_ ?_ | refine boolE ?_ ?_ | refine boolN ?_ ?_ | refine boolNB ?_ ?_ | refine boolB ?_ ?_) <;> intro h <;> try simp (disch := omega) only [go_sem, hc, hx2, List.length_map , h]))
      all_goals try omega
      refine ⟨(k + 1, (nextGo c.toNat x.arcs).toNat), ?_, ⟨hlt, by simp only; omega, h3⟩, by simp only; omega⟩
      simp only [Int.toNat_of_nonneg n1]
      rfl
    · have hk2 : k = s.length := by omega
      rw [hk2, List.drop_length, runQ_nil] at h3
      have h4 : acceptsM m s = x.acc := by
        unfold acceptsM
        rw [hvm, ← h3, hx]
        rfl
      rw [h4]
      (repeat' first | simp (disch := omega) only [go_sem, hx2, List.length_map] | ((first | refine wantDf ?_ ?_ | refine wantDt ?_ ?_ | refine wantEf ?_ ?_ | refine wantEt ?_ ?_ | refine wantNf ?_ ?_ | refine wantNt ?_ ?_ | refine wantNBf ?_ ?_ | refine wantNBt ?_ ?_ | refine wantBf ?_ ?_ | refine wantBt ?_ ?_ | refine boolD ?_ ?_ | refine boolE ?_ ?_ | refine boolN ?_ ?_ | refine boolNB ?_ ?_ | refine boolB ?_ ?_) <;> intro h <;> try simp (disch := omega) only [go_sem, hx2, List.length_map, h]))
      all_goals omega
theorem accepts_run (m : List Sta) (h : SmallM m) (s : List UInt8) (hs : s.length < 2 ^ 30) : PRun CB 236 [encMa m, .str s] (.bool (acceptsM m s)) := by
  have hv := valid_run m h
  have hN := fun q x hx b => step_run m h q x hx b
  obtain ⟨hm, ha⟩ := h
  refine prun_of ac236 rfl ?_
  unfold encMa at hv hN ⊢
  cases hvm : validM m with
  | false =>
    rw [hvm] at hv
    unfold acceptsM
    rw [hvm]
    (repeat' first | simp (disch := omega) only [go_sem, ac236, enter, List.length_map, Bool.false_and] | refine pure_of _ (hv) ?_ | ((first | refine wantDf ?_ ?_ | refine wantDt ?_ ?_ | refine wantEf ?_ ?_ | refine wantEt ?_ ?_ | refine wantNf ?_ ?_ | refine wantNt ?_ ?_ | refine wantNBf ?_ ?_ | refine wantNBt ?_ ?_ | refine wantBf ?_ ?_ | refine wantBt ?_ ?_ | refine boolD ?_ ?_ | refine boolE ?_ ?_ | refine boolN ?_ ?_ | refine boolNB ?_ ?_ | refine boolB ?_ ?_) <;> intro h <;> try simp (disch := omega) only [go_sem, ac236, enter, List.length_map, Bool.false_and , h]))
  | true =>
    rw [hvm] at hv
    have h1 := valid_len hvm
    (repeat' first | simp (disch := omega) only [go_sem, ac236, enter, List.length_map] | refine pure_of _ (hv) ?_ | ((first | refine wantDf ?_ ?_ | refine wantDt ?_ ?_ | refine wantEf ?_ ?_ | refine wantEt ?_ ?_ | refine wantNf ?_ ?_ | refine wantNt ?_ ?_ | refine wantNBf ?_ ?_ | refine wantNBt ?_ ?_ | refine wantBf ?_ ?_ | refine wantBt ?_ ?_ | refine boolD ?_ ?_ | refine boolE ?_ ?_ | refine boolN ?_ ?_ | refine boolNB ?_ ?_ | refine boolB ?_ ?_) <;> intro h <;> try simp (disch := omega) only [go_sem, ac236, enter, List.length_map , h]))
    all_goals try omega
    refine loop_of (α := Nat × Nat) (fun a => { tmps := slots 29 [(1, .str s), (2, .ptr 1 0 0 0), (5, .int .i64 a.2), (11, .int .i64 s.length), (12, .int .i64 a.1)], heap := [.row 1 [.agg [.tsl 2 (m.map encSta)]] false true 0], base := 0 }) (fun a => a.1 ≤ s.length ∧ a.2 < m.length ∧ runQ m a.2 (s.drop a.1) = runQ m 0 s) (fun a => s.length - a.1) (0, 0) rfl ⟨Nat.zero_le _, h1, rfl⟩ ?_
    rintro ⟨k, q⟩ ⟨hk, hq, h3⟩
    simp only at hk hq h3
    obtain ⟨x, hx⟩ := exAt hq
    have hxm := List.mem_of_getElem? hx
    have hx2 : (m.map encSta)[q]? = some (.agg [.bool x.acc, .tsl 3 (x.arcs.map encArc)]) := mget hx
    by_cases hlt : k < s.length
    · obtain ⟨c, hc⟩ := exAt hlt
      have hc8 : c.toNat < 256 := UInt8.toNat_lt c
      rw [dropC hc, runQ_cons hx] at h3
      have hn := hN q x hx c.toNat
      obtain ⟨n1, n2⟩ := next_in (n := m.length) (b := c.toNat) x.arcs 0 (valid_arcs hvm hxm) (by omega) (by omega)
      rw [step_next (n := m.length) x.arcs 0 (valid_arcs hvm hxm) (by omega)] at hn
      (repeat' first | simp (disch := omega) only [go_sem, hc, hx2, List.length_map] | refine pure_of _ (hn) ?_ | ((first | refine wantDf ?_ ?_ | refine wantDt ?_ ?_ | refine wantEf ?_ ?_ | refine wantEt ?_ ?_ | refine wantNf ?_ ?_ | refine wantNt ?_ ?_ | refine wantNBf ?_ ?_ | refine wantNBt ?_ ?_ | refine wantBf ?_ ?_ | refine wantBt ?_ ?_ | refine boolD ?_ ?_ | refine boolE ?_ ?_ | refine boolN ?_ ?_ | refine boolNB ?_ ?_ | refine boolB ?_ ?_) <;> intro h <;> try simp (disch := omega) only [go_sem, hc, hx2, List.length_map , h]))
      all_goals try omega
      refine ⟨(k + 1, (nextGo c.toNat x.arcs).toNat), ?_, ⟨hlt, by simp only; omega, h3⟩, by simp only; omega⟩
      simp only [Int.toNat_of_nonneg n1]
      rfl
    · have hk2 : k = s.length := by omega
      rw [hk2, List.drop_length, runQ_nil] at h3
      have h4 : acceptsM m s = x.acc := by
        unfold acceptsM
        rw [hvm, ← h3, hx]
        rfl
      rw [h4]
      (repeat' first | simp (disch := omega) only [go_sem, hx2, List.length_map] | ((first | refine wantDf ?_ ?_ | refine wantDt ?_ ?_ | refine wantEf ?_ ?_ | refine wantEt ?_ ?_ | refine wantNf ?_ ?_ | refine wantNt ?_ ?_ | refine wantNBf ?_ ?_ | refine wantNBt ?_ ?_ | refine wantBf ?_ ?_ | refine wantBt ?_ ?_ | refine boolD ?_ ?_ | refine boolE ?_ ?_ | refine boolN ?_ ?_ | refine boolNB ?_ ?_ | refine boolB ?_ ?_) <;> intro h <;> try simp (disch := omega) only [go_sem, hx2, List.length_map, h]))
      all_goals omega
/-- The law AutomatonValids. -/
theorem valids_run (hw : PRun CB 318 [] (.bool true)) (m : List Sta) (h : SmallM m) (s : List UInt8) (hs : s.length < 2 ^ 30) : PRun CB 312 [encMa m, .str s] (.bool true) := by
  obtain ⟨b, hf, _⟩ := few_run m 1100 h.1
  have h1 := valid_run m h
  have h2 := refValid_run m h
  have h3 := accepts_run m h s hs
  have h4 := refAccepts_run m h s hs
  refine prun_of ac312 rfl ?_
  unfold encMa at *
  cases b with
  | false =>
    (repeat' first | simp (disch := omega) only [go_sem, ac312, enter, List.length_map] | refine pure_of _ (hf) ?_ | refine pure_of _ (hw) ?_ | ((first | refine wantDf ?_ ?_ | refine wantDt ?_ ?_ | refine wantEf ?_ ?_ | refine wantEt ?_ ?_ | refine wantNf ?_ ?_ | refine wantNt ?_ ?_ | refine wantNBf ?_ ?_ | refine wantNBt ?_ ?_ | refine wantBf ?_ ?_ | refine wantBt ?_ ?_ | refine boolD ?_ ?_ | refine boolE ?_ ?_ | refine boolN ?_ ?_ | refine boolNB ?_ ?_ | refine boolB ?_ ?_) <;> intro h <;> try simp (disch := omega) only [go_sem, ac312, enter, List.length_map , h]))
  | true =>
    by_cases hl : 100 < s.length
    · (repeat' first | simp (disch := omega) only [go_sem, ac312, enter, List.length_map] | refine pure_of _ (hf) ?_ | refine pure_of _ (hw) ?_ | ((first | refine wantDf ?_ ?_ | refine wantDt ?_ ?_ | refine wantEf ?_ ?_ | refine wantEt ?_ ?_ | refine wantNf ?_ ?_ | refine wantNt ?_ ?_ | refine wantNBf ?_ ?_ | refine wantNBt ?_ ?_ | refine wantBf ?_ ?_ | refine wantBt ?_ ?_ | refine boolD ?_ ?_ | refine boolE ?_ ?_ | refine boolN ?_ ?_ | refine boolNB ?_ ?_ | refine boolB ?_ ?_) <;> intro h <;> try simp (disch := omega) only [go_sem, ac312, enter, List.length_map , h]))
      all_goals omega
    · (repeat' first | simp (disch := omega) only [go_sem, ac312, enter, List.length_map] | refine pure_of _ (hf) ?_ | refine pure_of _ (hw) ?_ | refine pure_of _ (h1) ?_ | refine pure_of _ (h2) ?_ | refine pure_of _ (h3) ?_ | refine pure_of _ (h4) ?_ | ((first | refine wantDf ?_ ?_ | refine wantDt ?_ ?_ | refine wantEf ?_ ?_ | refine wantEt ?_ ?_ | refine wantNf ?_ ?_ | refine wantNt ?_ ?_ | refine wantNBf ?_ ?_ | refine wantNBt ?_ ?_ | refine wantBf ?_ ?_ | refine wantBt ?_ ?_ | refine boolD ?_ ?_ | refine boolE ?_ ?_ | refine boolN ?_ ?_ | refine boolNB ?_ ?_ | refine boolB ?_ ?_) <;> intro h <;> try simp (disch := omega) only [go_sem, ac312, enter, List.length_map , h]))
      all_goals omega
end Ago
