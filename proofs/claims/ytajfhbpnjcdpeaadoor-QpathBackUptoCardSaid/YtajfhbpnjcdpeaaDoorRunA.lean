/- Layers 1 and 2 of the references: numerals and decimals. -/
import Derived.Test.YtajfhbpnjcdpeaaDoorCode
set_option linter.unusedSimpArgs false
set_option linter.unusedVariables false
set_option linter.unusedSimpArgs false
set_option linter.unusedVariables false
set_option maxRecDepth 100000
namespace Ago
def digit (b : UInt8) : Bool := decide (48 ≤ b.toNat ∧ b.toNat ≤ 57)
def digits (s : List UInt8) : Bool := s.all digit
theorem take_succ_all {α : Type} {s : List α} {k : Nat} {c : α} {p : α → Bool} (hc : s[k]? = some c) (h : (s.take k).all p = true) (hp : p c = true) : (s.take (k + 1)).all p = true := by
  rw [List.take_add_one, hc]
  simp_all
theorem not_all {α : Type} {s : List α} {k : Nat} {c : α} {p : α → Bool} (hc : s[k]? = some c) (hp : p c = false) : s.all p = false := by
  rw [List.all_eq_false]
  exact ⟨c, List.mem_of_getElem? hc, by simp [hp]⟩
theorem get_some {α : Type} {s : List α} {k : Nat} (h : k < s.length) : ∃ c, s[k]? = some c := ⟨_, List.getElem?_eq_getElem h⟩

theorem digits_run (s : List UInt8) (hs : s.length < 2 ^ 31) : PRun C0 82 [.str s] (.bool (digits s)) := by
  refine prun_of ac82 rfl ?_
  simp (disch := omega) only [go_sem, ac82, enter]
  refine loop_of (α := Nat) (fun k => { tmps := slots 20 [(0, .str s), (3, .int .i64 k)], heap := [], base := 0 }) (fun k => k ≤ s.length ∧ (s.take k).all digit = true) (fun k => s.length - k) 0 rfl ⟨Nat.zero_le _, rfl⟩ ?_
  rintro k ⟨hk, hd⟩
  by_cases hlt : k < s.length
  · obtain ⟨c, hc⟩ := get_some hlt
    (repeat' first | simp (disch := omega) only [go_sem, hc] | (refine wantDf (fun h => ?_) (fun h => ?_) <;> try simp (disch := omega) only [go_sem, hc, h]) | (refine wantDt (fun h => ?_) (fun h => ?_) <;> try simp (disch := omega) only [go_sem, hc, h]) | (refine wantEf (fun h => ?_) (fun h => ?_) <;> try simp (disch := omega) only [go_sem, hc, h]) | (refine wantEt (fun h => ?_) (fun h => ?_) <;> try simp (disch := omega) only [go_sem, hc, h]) | (refine wantNf (fun h => ?_) (fun h => ?_) <;> try simp (disch := omega) only [go_sem, hc, h]) | (refine wantNt (fun h => ?_) (fun h => ?_) <;> try simp (disch := omega) only [go_sem, hc, h]) | (refine wantNBf (fun h => ?_) (fun h => ?_) <;> try simp (disch := omega) only [go_sem, hc, h]) | (refine wantNBt (fun h => ?_) (fun h => ?_) <;> try simp (disch := omega) only [go_sem, hc, h]) | (refine wantBf (fun h => ?_) (fun h => ?_) <;> try simp (disch := omega) only [go_sem, hc, h]) | (refine wantBt (fun h => ?_) (fun h => ?_) <;> try simp (disch := omega) only [go_sem, hc, h]) | (refine boolD (fun h => ?_) (fun h => ?_) <;> try simp (disch := omega) only [go_sem, hc, h]) | (refine boolE (fun h => ?_) (fun h => ?_) <;> try simp (disch := omega) only [go_sem, hc, h]) | (refine boolN (fun h => ?_) (fun h => ?_) <;> try simp (disch := omega) only [go_sem, hc, h]) | (refine boolNB (fun h => ?_) (fun h => ?_) <;> try simp (disch := omega) only [go_sem, hc, h]) | (refine boolB (fun h => ?_) (fun h => ?_) <;> try simp (disch := omega) only [go_sem, hc, h]))
    · rw [digits, not_all hc (by simp [digit]; omega)]
    · exact ⟨k + 1, rfl, ⟨hlt, take_succ_all hc hd (by simp [digit]; omega)⟩, by omega⟩
    · rw [digits, not_all hc (by simp [digit]; omega)]
  · (repeat' first | simp (disch := omega) only [go_sem] | (refine wantDf (fun h => ?_) (fun h => ?_) <;> try simp (disch := omega) only [go_sem, h]) | (refine wantDt (fun h => ?_) (fun h => ?_) <;> try simp (disch := omega) only [go_sem, h]) | (refine wantEf (fun h => ?_) (fun h => ?_) <;> try simp (disch := omega) only [go_sem, h]) | (refine wantEt (fun h => ?_) (fun h => ?_) <;> try simp (disch := omega) only [go_sem, h]) | (refine wantNf (fun h => ?_) (fun h => ?_) <;> try simp (disch := omega) only [go_sem, h]) | (refine wantNt (fun h => ?_) (fun h => ?_) <;> try simp (disch := omega) only [go_sem, h]) | (refine wantNBf (fun h => ?_) (fun h => ?_) <;> try simp (disch := omega) only [go_sem, h]) | (refine wantNBt (fun h => ?_) (fun h => ?_) <;> try simp (disch := omega) only [go_sem, h]) | (refine wantBf (fun h => ?_) (fun h => ?_) <;> try simp (disch := omega) only [go_sem, h]) | (refine wantBt (fun h => ?_) (fun h => ?_) <;> try simp (disch := omega) only [go_sem, h]) | (refine boolD (fun h => ?_) (fun h => ?_) <;> try simp (disch := omega) only [go_sem, h]) | (refine boolE (fun h => ?_) (fun h => ?_) <;> try simp (disch := omega) only [go_sem, h]) | (refine boolN (fun h => ?_) (fun h => ?_) <;> try simp (disch := omega) only [go_sem, h]) | (refine boolNB (fun h => ?_) (fun h => ?_) <;> try simp (disch := omega) only [go_sem, h]) | (refine boolB (fun h => ?_) (fun h => ?_) <;> try simp (disch := omega) only [go_sem, h]))
    have : k = s.length := by omega
    subst this
    simpa [digits] using hd

/-- R01.Valid -/
def numeral (s : List UInt8) : Bool := decide (s.length ≤ 600) && digits s && decide (s[0]? ≠ some 48)

theorem zero48 (c : UInt8) : (c.toNat : Int) = 48 ↔ c = 48 := by
  constructor
  · intro h
    have : c.toNat = 48 := by omega
    exact UInt8.toNat_inj.1 this
  · rintro rfl; rfl

theorem e00 : (0 : Int).toNat = 0 := (rfl)
theorem valid01_run (s : List UInt8) (hs : s.length < 2 ^ 31) : PRun C0 59 [.str s] (.bool (numeral s)) := by
  refine prun_of ac59 rfl ?_
  by_cases h0 : s.length = 0
  · have hn : s = [] := List.eq_nil_of_length_eq_zero h0
    (repeat' first | simp (disch := omega) only [go_sem, ac59, enter, h0] | refine pure_of _ (digits_run _ hs) ?_ | (refine wantDf (fun h => ?_) (fun h => ?_) <;> try simp (disch := omega) only [go_sem, ac59, enter, h0 , h]) | (refine wantDt (fun h => ?_) (fun h => ?_) <;> try simp (disch := omega) only [go_sem, ac59, enter, h0 , h]) | (refine wantEf (fun h => ?_) (fun h => ?_) <;> try simp (disch := omega) only [go_sem, ac59, enter, h0 , h]) | (refine wantEt (fun h => ?_) (fun h => ?_) <;> try simp (disch := omega) only [go_sem, ac59, enter, h0 , h]) | (refine wantNf (fun h => ?_) (fun h => ?_) <;> try simp (disch := omega) only [go_sem, ac59, enter, h0 , h]) | (refine wantNt (fun h => ?_) (fun h => ?_) <;> try simp (disch := omega) only [go_sem, ac59, enter, h0 , h]) | (refine wantNBf (fun h => ?_) (fun h => ?_) <;> try simp (disch := omega) only [go_sem, ac59, enter, h0 , h]) | (refine wantNBt (fun h => ?_) (fun h => ?_) <;> try simp (disch := omega) only [go_sem, ac59, enter, h0 , h]) | (refine wantBf (fun h => ?_) (fun h => ?_) <;> try simp (disch := omega) only [go_sem, ac59, enter, h0 , h]) | (refine wantBt (fun h => ?_) (fun h => ?_) <;> try simp (disch := omega) only [go_sem, ac59, enter, h0 , h]) | (refine boolD (fun h => ?_) (fun h => ?_) <;> try simp (disch := omega) only [go_sem, ac59, enter, h0 , h]) | (refine boolE (fun h => ?_) (fun h => ?_) <;> try simp (disch := omega) only [go_sem, ac59, enter, h0 , h]) | (refine boolN (fun h => ?_) (fun h => ?_) <;> try simp (disch := omega) only [go_sem, ac59, enter, h0 , h]) | (refine boolNB (fun h => ?_) (fun h => ?_) <;> try simp (disch := omega) only [go_sem, ac59, enter, h0 , h]) | (refine boolB (fun h => ?_) (fun h => ?_) <;> try simp (disch := omega) only [go_sem, ac59, enter, h0 , h]))
    all_goals simp_all [numeral]
  · obtain ⟨c, hc⟩ := get_some (s := s) (k := 0) (by omega)
    (repeat' first | simp (disch := omega) only [go_sem, ac59, enter, hc, e00] | refine pure_of _ (digits_run _ hs) ?_ | (refine wantDf (fun h => ?_) (fun h => ?_) <;> try simp (disch := omega) only [go_sem, ac59, enter, hc, e00 , h]) | (refine wantDt (fun h => ?_) (fun h => ?_) <;> try simp (disch := omega) only [go_sem, ac59, enter, hc, e00 , h]) | (refine wantEf (fun h => ?_) (fun h => ?_) <;> try simp (disch := omega) only [go_sem, ac59, enter, hc, e00 , h]) | (refine wantEt (fun h => ?_) (fun h => ?_) <;> try simp (disch := omega) only [go_sem, ac59, enter, hc, e00 , h]) | (refine wantNf (fun h => ?_) (fun h => ?_) <;> try simp (disch := omega) only [go_sem, ac59, enter, hc, e00 , h]) | (refine wantNt (fun h => ?_) (fun h => ?_) <;> try simp (disch := omega) only [go_sem, ac59, enter, hc, e00 , h]) | (refine wantNBf (fun h => ?_) (fun h => ?_) <;> try simp (disch := omega) only [go_sem, ac59, enter, hc, e00 , h]) | (refine wantNBt (fun h => ?_) (fun h => ?_) <;> try simp (disch := omega) only [go_sem, ac59, enter, hc, e00 , h]) | (refine wantBf (fun h => ?_) (fun h => ?_) <;> try simp (disch := omega) only [go_sem, ac59, enter, hc, e00 , h]) | (refine wantBt (fun h => ?_) (fun h => ?_) <;> try simp (disch := omega) only [go_sem, ac59, enter, hc, e00 , h]) | (refine boolD (fun h => ?_) (fun h => ?_) <;> try simp (disch := omega) only [go_sem, ac59, enter, hc, e00 , h]) | (refine boolE (fun h => ?_) (fun h => ?_) <;> try simp (disch := omega) only [go_sem, ac59, enter, hc, e00 , h]) | (refine boolN (fun h => ?_) (fun h => ?_) <;> try simp (disch := omega) only [go_sem, ac59, enter, hc, e00 , h]) | (refine boolNB (fun h => ?_) (fun h => ?_) <;> try simp (disch := omega) only [go_sem, ac59, enter, hc, e00 , h]) | (refine boolB (fun h => ?_) (fun h => ?_) <;> try simp (disch := omega) only [go_sem, ac59, enter, hc, e00 , h]))
    all_goals simp_all [numeral, bne, zero48, bne_dec, beq_dec]
    all_goals omega

def encB (l : List UInt8) : List AV := l.map fun c => .int .u8 c.toNat
theorem omap_encB : ∀ l, omap byteOf (encB l) = some l
  | [] => rfl
  | c :: l => by simp [encB, omap, byteOf] at *; have := omap_encB l; simp [encB] at this; simp [this]

theorem noughts_run (n : Nat) (hn : n < 2 ^ 20) : PRun C0 40 [.int .i64 n] (.str (List.replicate n 48)) := by
  refine prun_of ac40 rfl ?_
  by_cases h0 : n = 0
  · subst h0
    simp (disch := omega) only [go_sem, ac40, enter]
    refine loop_of (α := Unit) (fun _ => { tmps := slots 17 [(0, .int .i64 0), (3, .snil 1), (4, .int .i64 0)], heap := [], base := 0 }) (fun _ => True) (fun _ => 0) () rfl trivial ?_
    rintro _ _
    (repeat' first | simp (disch := omega) only [go_sem] | (refine wantDf (fun h => ?_) (fun h => ?_) <;> try simp (disch := omega) only [go_sem, h]) | (refine wantDt (fun h => ?_) (fun h => ?_) <;> try simp (disch := omega) only [go_sem, h]) | (refine wantEf (fun h => ?_) (fun h => ?_) <;> try simp (disch := omega) only [go_sem, h]) | (refine wantEt (fun h => ?_) (fun h => ?_) <;> try simp (disch := omega) only [go_sem, h]) | (refine wantNf (fun h => ?_) (fun h => ?_) <;> try simp (disch := omega) only [go_sem, h]) | (refine wantNt (fun h => ?_) (fun h => ?_) <;> try simp (disch := omega) only [go_sem, h]) | (refine wantNBf (fun h => ?_) (fun h => ?_) <;> try simp (disch := omega) only [go_sem, h]) | (refine wantNBt (fun h => ?_) (fun h => ?_) <;> try simp (disch := omega) only [go_sem, h]) | (refine wantBf (fun h => ?_) (fun h => ?_) <;> try simp (disch := omega) only [go_sem, h]) | (refine wantBt (fun h => ?_) (fun h => ?_) <;> try simp (disch := omega) only [go_sem, h]) | (refine boolD (fun h => ?_) (fun h => ?_) <;> try simp (disch := omega) only [go_sem, h]) | (refine boolE (fun h => ?_) (fun h => ?_) <;> try simp (disch := omega) only [go_sem, h]) | (refine boolN (fun h => ?_) (fun h => ?_) <;> try simp (disch := omega) only [go_sem, h]) | (refine boolNB (fun h => ?_) (fun h => ?_) <;> try simp (disch := omega) only [go_sem, h]) | (refine boolB (fun h => ?_) (fun h => ?_) <;> try simp (disch := omega) only [go_sem, h]))
  · have e2 : ¬ (n : Int) = 0 := by omega
    simp (disch := omega) only [go_sem, ac40, enter, e2]
    refine loop_of (α := Nat) (fun k => { tmps := slots 17 [(0, .int .i64 n), (3, .sref 1 0 0 n), (4, .int .i64 k)], heap := [.row 1 (List.replicate k (.int .u8 48) ++ List.replicate (n - k) (.int .u8 0)) false true 0], base := 0 }) (fun k => k ≤ n) (fun k => n - k) 0 (by simp only [List.replicate_zero, List.nil_append, Nat.sub_zero]; rfl) (Nat.zero_le _) ?_
    rintro k hk
    by_cases hlt : k < n
    · have hx : (List.replicate k (AV.int .u8 48) ++ List.replicate (n - k) (.int .u8 0))[k]? = some (.int .u8 0) := by
        rw [List.getElem?_append_right (by simp), List.length_replicate, Nat.sub_self, List.getElem?_replicate, if_pos (by omega)]
      (repeat' first | simp (disch := omega) only [go_sem, hx] | (refine wantDf (fun h => ?_) (fun h => ?_) <;> try simp (disch := omega) only [go_sem, hx, h]) | (refine wantDt (fun h => ?_) (fun h => ?_) <;> try simp (disch := omega) only [go_sem, hx, h]) | (refine wantEf (fun h => ?_) (fun h => ?_) <;> try simp (disch := omega) only [go_sem, hx, h]) | (refine wantEt (fun h => ?_) (fun h => ?_) <;> try simp (disch := omega) only [go_sem, hx, h]) | (refine wantNf (fun h => ?_) (fun h => ?_) <;> try simp (disch := omega) only [go_sem, hx, h]) | (refine wantNt (fun h => ?_) (fun h => ?_) <;> try simp (disch := omega) only [go_sem, hx, h]) | (refine wantNBf (fun h => ?_) (fun h => ?_) <;> try simp (disch := omega) only [go_sem, hx, h]) | (refine wantNBt (fun h => ?_) (fun h => ?_) <;> try simp (disch := omega) only [go_sem, hx, h]) | (refine wantBf (fun h => ?_) (fun h => ?_) <;> try simp (disch := omega) only [go_sem, hx, h]) | (refine wantBt (fun h => ?_) (fun h => ?_) <;> try simp (disch := omega) only [go_sem, hx, h]) | (refine boolD (fun h => ?_) (fun h => ?_) <;> try simp (disch := omega) only [go_sem, hx, h]) | (refine boolE (fun h => ?_) (fun h => ?_) <;> try simp (disch := omega) only [go_sem, hx, h]) | (refine boolN (fun h => ?_) (fun h => ?_) <;> try simp (disch := omega) only [go_sem, hx, h]) | (refine boolNB (fun h => ?_) (fun h => ?_) <;> try simp (disch := omega) only [go_sem, hx, h]) | (refine boolB (fun h => ?_) (fun h => ?_) <;> try simp (disch := omega) only [go_sem, hx, h]))
      refine ⟨k + 1, ?_, hlt, by omega⟩
      have : (List.replicate k (AV.int .u8 48) ++ List.replicate (n - k) (AV.int .u8 0)).set k (.int .u8 48) = List.replicate (k + 1) (AV.int .u8 48) ++ List.replicate (n - (k + 1)) (AV.int .u8 0) := by
        rw [List.set_append_right _ _ (by simp), List.replicate_succ', show n - k = (n - (k + 1)) + 1 by omega]
        simp [List.replicate_succ]
      rw [this]
      rfl
    · have hkn : k = n := by omega
      subst hkn
      have hl : (List.replicate k (AV.int .u8 48) ++ List.replicate (k - k) (AV.int .u8 0)).length = k := by simp
      have e : List.take k (List.replicate k (AV.int .u8 48) ++ List.replicate (k - k) (AV.int .u8 0)) = encB (List.replicate k 48) := by simp [encB]
      (repeat' first | simp (disch := omega) only [go_sem, hl, e, omap_encB] | (refine wantDf (fun h => ?_) (fun h => ?_) <;> try simp (disch := omega) only [go_sem, hl, e, omap_encB, h]) | (refine wantDt (fun h => ?_) (fun h => ?_) <;> try simp (disch := omega) only [go_sem, hl, e, omap_encB, h]) | (refine wantEf (fun h => ?_) (fun h => ?_) <;> try simp (disch := omega) only [go_sem, hl, e, omap_encB, h]) | (refine wantEt (fun h => ?_) (fun h => ?_) <;> try simp (disch := omega) only [go_sem, hl, e, omap_encB, h]) | (refine wantNf (fun h => ?_) (fun h => ?_) <;> try simp (disch := omega) only [go_sem, hl, e, omap_encB, h]) | (refine wantNt (fun h => ?_) (fun h => ?_) <;> try simp (disch := omega) only [go_sem, hl, e, omap_encB, h]) | (refine wantNBf (fun h => ?_) (fun h => ?_) <;> try simp (disch := omega) only [go_sem, hl, e, omap_encB, h]) | (refine wantNBt (fun h => ?_) (fun h => ?_) <;> try simp (disch := omega) only [go_sem, hl, e, omap_encB, h]) | (refine wantBf (fun h => ?_) (fun h => ?_) <;> try simp (disch := omega) only [go_sem, hl, e, omap_encB, h]) | (refine wantBt (fun h => ?_) (fun h => ?_) <;> try simp (disch := omega) only [go_sem, hl, e, omap_encB, h]) | (refine boolD (fun h => ?_) (fun h => ?_) <;> try simp (disch := omega) only [go_sem, hl, e, omap_encB, h]) | (refine boolE (fun h => ?_) (fun h => ?_) <;> try simp (disch := omega) only [go_sem, hl, e, omap_encB, h]) | (refine boolN (fun h => ?_) (fun h => ?_) <;> try simp (disch := omega) only [go_sem, hl, e, omap_encB, h]) | (refine boolNB (fun h => ?_) (fun h => ?_) <;> try simp (disch := omega) only [go_sem, hl, e, omap_encB, h]) | (refine boolB (fun h => ?_) (fun h => ?_) <;> try simp (disch := omega) only [go_sem, hl, e, omap_encB, h]))

/-- R01.Zeros -/
def zeros (s : List UInt8) : Nat := (s.reverse.takeWhile (· == 48)).length

theorem zeros_run (s : List UInt8) (hs : s.length < 2 ^ 31) : PRun C0 90 [.str s] (.int .i64 (zeros s)) := by
  refine prun_of ac90 rfl ?_
  simp (disch := omega) only [go_sem, ac90, enter]
  refine loop_of (α := Nat) (fun k => { tmps := slots 21 [(0, .str s), (3, .int .i64 k)], heap := [], base := 0 }) (fun k => k ≤ s.length ∧ (s.reverse.take k).all (· == 48) = true) (fun k => s.length - k) 0 rfl ⟨Nat.zero_le _, rfl⟩ ?_
  rintro k ⟨hk, hd⟩
  have fin : (k < s.length → ∃ c, s.reverse[k]? = some c ∧ c ≠ 48) → zeros s = k := fun h => by
    unfold zeros
    have key : ∀ (l : List UInt8) (k : Nat), (l.take k).all (· == 48) = true → (k < l.length → ∃ c, l[k]? = some c ∧ c ≠ 48) → k ≤ l.length → (l.takeWhile (· == 48)).length = k := by
      intro l
      induction l with
      | nil => intro k _ _ hk; simp at hk; simp [hk]
      | cons x l ih =>
        intro k h1 h2 h3
        cases k with
        | zero =>
          obtain ⟨c, h4, h5⟩ := h2 (by simp)
          simp at h4
          subst h4
          rw [List.takeWhile_cons_of_neg (by simpa using h5)]
          rfl
        | succ k =>
          simp only [List.take_succ_cons, List.all_cons, Bool.and_eq_true] at h1
          rw [List.takeWhile_cons_of_pos (by simpa using h1.1)]
          simp only [List.length_cons, Nat.add_right_cancel_iff]
          exact ih k h1.2 (fun h => by simpa using h2 (by simpa using h)) (by simpa using h3)
    exact key s.reverse k hd (fun h2 => h (by simpa using h2)) (by simpa using hk)
  by_cases hlt : k < s.length
  · obtain ⟨c, hc⟩ := get_some (s := s) (k := s.length - 1 - k) (by omega)
    have e : ((s.length : Int) - 1 - k).toNat = s.length - 1 - k := by omega
    have hr : s.reverse[k]? = some c := by rw [List.getElem?_reverse hlt, hc]
    (repeat' first | simp (disch := omega) only [go_sem, e, hc] | (refine wantDf (fun h => ?_) (fun h => ?_) <;> try simp (disch := omega) only [go_sem, e, hc, h]) | (refine wantDt (fun h => ?_) (fun h => ?_) <;> try simp (disch := omega) only [go_sem, e, hc, h]) | (refine wantEf (fun h => ?_) (fun h => ?_) <;> try simp (disch := omega) only [go_sem, e, hc, h]) | (refine wantEt (fun h => ?_) (fun h => ?_) <;> try simp (disch := omega) only [go_sem, e, hc, h]) | (refine wantNf (fun h => ?_) (fun h => ?_) <;> try simp (disch := omega) only [go_sem, e, hc, h]) | (refine wantNt (fun h => ?_) (fun h => ?_) <;> try simp (disch := omega) only [go_sem, e, hc, h]) | (refine wantNBf (fun h => ?_) (fun h => ?_) <;> try simp (disch := omega) only [go_sem, e, hc, h]) | (refine wantNBt (fun h => ?_) (fun h => ?_) <;> try simp (disch := omega) only [go_sem, e, hc, h]) | (refine wantBf (fun h => ?_) (fun h => ?_) <;> try simp (disch := omega) only [go_sem, e, hc, h]) | (refine wantBt (fun h => ?_) (fun h => ?_) <;> try simp (disch := omega) only [go_sem, e, hc, h]) | (refine boolD (fun h => ?_) (fun h => ?_) <;> try simp (disch := omega) only [go_sem, e, hc, h]) | (refine boolE (fun h => ?_) (fun h => ?_) <;> try simp (disch := omega) only [go_sem, e, hc, h]) | (refine boolN (fun h => ?_) (fun h => ?_) <;> try simp (disch := omega) only [go_sem, e, hc, h]) | (refine boolNB (fun h => ?_) (fun h => ?_) <;> try simp (disch := omega) only [go_sem, e, hc, h]) | (refine boolB (fun h => ?_) (fun h => ?_) <;> try simp (disch := omega) only [go_sem, e, hc, h]))
    · refine ⟨k + 1, rfl, ⟨hlt, take_succ_all hr hd ?_⟩, by omega⟩
      simpa using (zero48 c).1 h
    · rw [fin fun _ => ⟨c, hr, fun e => h ((zero48 c).2 e)⟩]
  · (repeat' first | simp (disch := omega) only [go_sem] | (refine wantDf (fun h => ?_) (fun h => ?_) <;> try simp (disch := omega) only [go_sem, h]) | (refine wantDt (fun h => ?_) (fun h => ?_) <;> try simp (disch := omega) only [go_sem, h]) | (refine wantEf (fun h => ?_) (fun h => ?_) <;> try simp (disch := omega) only [go_sem, h]) | (refine wantEt (fun h => ?_) (fun h => ?_) <;> try simp (disch := omega) only [go_sem, h]) | (refine wantNf (fun h => ?_) (fun h => ?_) <;> try simp (disch := omega) only [go_sem, h]) | (refine wantNt (fun h => ?_) (fun h => ?_) <;> try simp (disch := omega) only [go_sem, h]) | (refine wantNBf (fun h => ?_) (fun h => ?_) <;> try simp (disch := omega) only [go_sem, h]) | (refine wantNBt (fun h => ?_) (fun h => ?_) <;> try simp (disch := omega) only [go_sem, h]) | (refine wantBf (fun h => ?_) (fun h => ?_) <;> try simp (disch := omega) only [go_sem, h]) | (refine wantBt (fun h => ?_) (fun h => ?_) <;> try simp (disch := omega) only [go_sem, h]) | (refine boolD (fun h => ?_) (fun h => ?_) <;> try simp (disch := omega) only [go_sem, h]) | (refine boolE (fun h => ?_) (fun h => ?_) <;> try simp (disch := omega) only [go_sem, h]) | (refine boolN (fun h => ?_) (fun h => ?_) <;> try simp (disch := omega) only [go_sem, h]) | (refine boolNB (fun h => ?_) (fun h => ?_) <;> try simp (disch := omega) only [go_sem, h]) | (refine boolB (fun h => ?_) (fun h => ?_) <;> try simp (disch := omega) only [go_sem, h]))
    rw [fin fun h => absurd h hlt]

/-- the number that digits are -/
def fold10 (s : List UInt8) : Int := s.foldl (fun n c => 10 * n + c.toNat - 48) 0
def fold10n (s : List UInt8) (k : Nat) : Int := fold10 (s.take k)
theorem fold10_succ {s : List UInt8} {k : Nat} {c : UInt8} (h : s[k]? = some c) : fold10 (s.take (k + 1)) = 10 * fold10 (s.take k) + c.toNat - 48 := by
  unfold fold10
  rw [List.take_add_one, h]
  simp
theorem fold10_bound (s : List UInt8) (hd : digits s = true) : 0 ≤ fold10 s ∧ fold10 s < 10 ^ s.length := by
  have key : ∀ k, k ≤ s.length → 0 ≤ fold10 (s.take k) ∧ fold10 (s.take k) < 10 ^ k := by
    intro k
    induction k with
    | zero => intro _; simp [fold10]
    | succ k ih =>
      intro hk
      obtain ⟨h1, h2⟩ := ih (by omega)
      obtain ⟨c, hc⟩ := get_some (s := s) (k := k) (by omega)
      have hcd : digit c = true := List.all_eq_true.1 hd c (List.mem_of_getElem? hc)
      simp only [digit, decide_eq_true_eq] at hcd
      rw [fold10_succ hc, Int.pow_succ]
      omega
  have := key s.length (Nat.le_refl _)
  rwa [List.take_length] at this

/-- R01.ToInt -/
def max19 : List UInt8 := [57, 50, 50, 51, 51, 55, 50, 48, 51, 54, 56, 53, 52, 55, 55, 53, 56, 48, 55]
def toInt01 (s : List UInt8) : Int × Int :=
  if numeral s = false then (0, 3)
  else if 19 < s.length ∨ (s.length = 19 ∧ (!(Go.Op.bytesLess s max19 || s == max19)) = true) then (0, 2)
  else (fold10 s, 0)

theorem foldl10 : ∀ (s : List UInt8) (a : Int), s.foldl (fun n c => 10 * n + (c.toNat : Int) - 48) a = a * 10 ^ s.length + fold10 s
  | [], a => by simp [fold10]
  | c :: s, a => by
    unfold fold10
    simp only [List.foldl_cons, List.length_cons]
    rw [foldl10 s, foldl10 s, Int.pow_succ]
    generalize (10 : Int) ^ s.length = p
    generalize fold10 s = q
    generalize (c.toNat : Int) = x
    rw [show (10 * a + x - 48) * p = 10 * a * p + x * p - 48 * p by rw [Int.sub_mul, Int.add_mul], show (10 * 0 + x - 48) * p = x * p - 48 * p by rw [Int.sub_mul]; simp, show a * (p * 10) = 10 * a * p by rw [Int.mul_comm p 10, ← Int.mul_assoc, Int.mul_comm a 10]]
    omega
theorem fold10_cons (c : UInt8) (s : List UInt8) : fold10 (c :: s) = (c.toNat - 48) * 10 ^ s.length + fold10 s := by
  have := foldl10 s (10 * 0 + (c.toNat : Int) - 48)
  unfold fold10
  rw [List.foldl_cons, this]
  simp [fold10]

theorem less10 : ∀ (a b : List UInt8), digits a = true → digits b = true → a.length = b.length → (Go.Op.bytesLess a b = true ↔ fold10 a < fold10 b)
  | [], [], _, _, _ => by simp [Go.Op.bytesLess, fold10]
  | [], _ :: _, _, _, h => by simp at h
  | _ :: _, [], _, _, h => by simp at h
  | x :: a, y :: b, ha, hb, h => by
    simp only [digits, List.all_cons, Bool.and_eq_true] at ha hb
    have ih := less10 a b ha.2 hb.2 (by simpa using h)
    have l1 := fold10_bound a ha.2
    have l2 := fold10_bound b hb.2
    have hl : a.length = b.length := by simpa using h
    have hx := ha.1
    have hy := hb.1
    simp only [digit, decide_eq_true_eq] at hx hy
    rw [fold10_cons, fold10_cons]
    rw [hl] at l1 ⊢
    generalize hp : (10 : Int) ^ b.length = p at l1 l2 ⊢
    have step : ∀ u v : Int, u < v → (u - 48) * p + p ≤ (v - 48) * p := fun u v huv => by
      have h1 := Int.mul_le_mul_of_nonneg_right (show u - 48 + 1 ≤ v - 48 by omega) (show 0 ≤ p by omega)
      rw [Int.add_mul, Int.one_mul] at h1
      exact h1
    have e1 : (Go.Op.bytesLess (x :: a) (y :: b) = true) ↔ (x.toNat < y.toNat ∨ (x.toNat = y.toNat ∧ Go.Op.bytesLess a b = true)) := by
      simp only [Go.Op.bytesLess, Bool.or_eq_true, decide_eq_true_eq, Bool.and_eq_true, beq_iff_eq, UInt8.lt_iff_toNat_lt]
      rw [← UInt8.toNat_inj]
    rw [e1]
    rcases Nat.lt_trichotomy x.toNat y.toNat with hlt | heq | hgt
    · have := step x.toNat y.toNat (by omega)
      constructor
      · intro _; omega
      · intro _; exact .inl hlt
    · rw [heq, ih]
      constructor
      · rintro (h | ⟨_, h⟩)
        · omega
        · omega
      · intro h; exact .inr ⟨rfl, by omega⟩
    · have := step y.toNat x.toNat (by omega)
      constructor
      · rintro (h | ⟨h, _⟩) <;> omega
      · intro h; omega

theorem fold10_max {s : List UInt8} (hd : digits s = true) (hl : s.length = 19) (h : Go.Op.bytesLess s max19 = true ∨ s = max19) : fold10 s ≤ 9223372036854775807 := by
  rcases h with h | h
  · have := (less10 s max19 hd (by decide) (by rw [hl]; rfl)).1 h
    have e : fold10 max19 = 9223372036854775807 := by decide
    omega
  · rw [h]
    decide

theorem wrap_sub (a b : Int) : Go.IntKind.wrap .i64 (Go.IntKind.wrap .i64 a - b) = Go.IntKind.wrap .i64 (a - b) := by
  simp only [Go.IntKind.wrap, Go.IntKind.bits, Go.IntKind.signed]
  simp
  split <;> split <;> split <;> omega

end Ago
/- Layers 1 and 2 of the references, continued: numerals and decimals as ints. -/
set_option linter.unusedSimpArgs false
set_option linter.unusedVariables false
set_option maxRecDepth 100000
namespace Ago
theorem pow10_le {a b : Nat} (h : a ≤ b) : (10 : Int) ^ a ≤ 10 ^ b := by
  have := Nat.pow_le_pow_right (n := 10) (by omega) h
  have e : ∀ k : Nat, (10 : Int) ^ k = ((10 ^ k : Nat) : Int) := fun k => by simp
  rw [e, e]
  omega
theorem take_len {α : Type} {s : List α} {k : Nat} (h : ¬ k < s.length) (h2 : k ≤ s.length) : s.take k = s := List.take_of_length_le (by omega)
theorem digits_take {s : List UInt8} (h : digits s = true) (k : Nat) : digits (s.take k) = true := List.all_eq_true.2 fun x hx => List.all_eq_true.1 h x (List.mem_of_mem_take hx)
theorem fold10_drop (s : List UInt8) (k : Nat) (hd : digits s = true) (hk : k ≤ s.length) : fold10 (s.take k) * 10 ^ (s.length - k) ≤ fold10 s := by
  have h := foldl10 (s.drop k) (fold10 (s.take k))
  have e : (s.drop k).foldl (fun n c => 10 * n + (c.toNat : Int) - 48) (fold10 (s.take k)) = fold10 s := by
    unfold fold10
    rw [← List.foldl_append, List.take_append_drop]
  rw [e, List.length_drop] at h
  have := (fold10_bound (s.drop k) (List.all_eq_true.2 fun x hx => List.all_eq_true.1 hd x (List.mem_of_mem_drop hx))).1
  omega

theorem toInt01_run (s : List UInt8) (hs : s.length < 2 ^ 31) : PRun C0 41 [.str s] (.tup [.int .i64 (toInt01 s).1, .int .i64 (toInt01 s).2]) := by
  refine prun_of ac41 rfl ?_
  cases hnum : numeral s with
  | false =>
    (repeat' first | simp (disch := omega) only [go_sem, ac41, enter, hnum] | refine pure_of _ (valid01_run _ hs) ?_ | (refine wantDf (fun h => ?_) (fun h => ?_) <;> try simp (disch := omega) only [go_sem, ac41, enter, hnum , h]) | (refine wantDt (fun h => ?_) (fun h => ?_) <;> try simp (disch := omega) only [go_sem, ac41, enter, hnum , h]) | (refine wantEf (fun h => ?_) (fun h => ?_) <;> try simp (disch := omega) only [go_sem, ac41, enter, hnum , h]) | (refine wantEt (fun h => ?_) (fun h => ?_) <;> try simp (disch := omega) only [go_sem, ac41, enter, hnum , h]) | (refine wantNf (fun h => ?_) (fun h => ?_) <;> try simp (disch := omega) only [go_sem, ac41, enter, hnum , h]) | (refine wantNt (fun h => ?_) (fun h => ?_) <;> try simp (disch := omega) only [go_sem, ac41, enter, hnum , h]) | (refine wantNBf (fun h => ?_) (fun h => ?_) <;> try simp (disch := omega) only [go_sem, ac41, enter, hnum , h]) | (refine wantNBt (fun h => ?_) (fun h => ?_) <;> try simp (disch := omega) only [go_sem, ac41, enter, hnum , h]) | (refine wantBf (fun h => ?_) (fun h => ?_) <;> try simp (disch := omega) only [go_sem, ac41, enter, hnum , h]) | (refine wantBt (fun h => ?_) (fun h => ?_) <;> try simp (disch := omega) only [go_sem, ac41, enter, hnum , h]) | (refine boolD (fun h => ?_) (fun h => ?_) <;> try simp (disch := omega) only [go_sem, ac41, enter, hnum , h]) | (refine boolE (fun h => ?_) (fun h => ?_) <;> try simp (disch := omega) only [go_sem, ac41, enter, hnum , h]) | (refine boolN (fun h => ?_) (fun h => ?_) <;> try simp (disch := omega) only [go_sem, ac41, enter, hnum , h]) | (refine boolNB (fun h => ?_) (fun h => ?_) <;> try simp (disch := omega) only [go_sem, ac41, enter, hnum , h]) | (refine boolB (fun h => ?_) (fun h => ?_) <;> try simp (disch := omega) only [go_sem, ac41, enter, hnum , h]))
    all_goals simp [toInt01, hnum]
  | true =>
    have hnd := hnum
    simp only [numeral, Bool.and_eq_true, decide_eq_true_eq] at hnd
    (repeat' first | simp (disch := omega) only [go_sem, ac41, enter, hnum] | refine pure_of _ (valid01_run _ hs) ?_ | (refine wantDf (fun h => ?_) (fun h => ?_) <;> try simp (disch := omega) only [go_sem, ac41, enter, hnum , h]) | (refine wantDt (fun h => ?_) (fun h => ?_) <;> try simp (disch := omega) only [go_sem, ac41, enter, hnum , h]) | (refine wantEf (fun h => ?_) (fun h => ?_) <;> try simp (disch := omega) only [go_sem, ac41, enter, hnum , h]) | (refine wantEt (fun h => ?_) (fun h => ?_) <;> try simp (disch := omega) only [go_sem, ac41, enter, hnum , h]) | (refine wantNf (fun h => ?_) (fun h => ?_) <;> try simp (disch := omega) only [go_sem, ac41, enter, hnum , h]) | (refine wantNt (fun h => ?_) (fun h => ?_) <;> try simp (disch := omega) only [go_sem, ac41, enter, hnum , h]) | (refine wantNBf (fun h => ?_) (fun h => ?_) <;> try simp (disch := omega) only [go_sem, ac41, enter, hnum , h]) | (refine wantNBt (fun h => ?_) (fun h => ?_) <;> try simp (disch := omega) only [go_sem, ac41, enter, hnum , h]) | (refine wantBf (fun h => ?_) (fun h => ?_) <;> try simp (disch := omega) only [go_sem, ac41, enter, hnum , h]) | (refine wantBt (fun h => ?_) (fun h => ?_) <;> try simp (disch := omega) only [go_sem, ac41, enter, hnum , h]) | (refine boolD (fun h => ?_) (fun h => ?_) <;> try simp (disch := omega) only [go_sem, ac41, enter, hnum , h]) | (refine boolE (fun h => ?_) (fun h => ?_) <;> try simp (disch := omega) only [go_sem, ac41, enter, hnum , h]) | (refine boolN (fun h => ?_) (fun h => ?_) <;> try simp (disch := omega) only [go_sem, ac41, enter, hnum , h]) | (refine boolNB (fun h => ?_) (fun h => ?_) <;> try simp (disch := omega) only [go_sem, ac41, enter, hnum , h]) | (refine boolB (fun h => ?_) (fun h => ?_) <;> try simp (disch := omega) only [go_sem, ac41, enter, hnum , h]))
    · simp only [toInt01, hnum, Bool.true_eq_false, if_false, if_pos (show 19 < s.length ∨ (s.length = 19 ∧ (!(Go.Op.bytesLess s max19 || s == max19)) = true) from .inr ⟨by omega, by simpa [max19] using h⟩)]
    · have hgo : s.length = 19 → (Go.Op.bytesLess s max19 || s == max19) = true := fun _ => h
      refine loop_of (α := Nat) (fun k => { tmps := slots 36 [(0, .str s), (4, .int .i64 (fold10 (s.take k))), (5, .int .i64 k)], heap := [], base := 0 }) (fun k => k ≤ s.length) (fun k => s.length - k) 0 rfl (Nat.zero_le _) ?_
      rintro k hk
      by_cases hlt : k < s.length
      · obtain ⟨c, hc⟩ := get_some hlt
        have hcd : digit c = true := List.all_eq_true.1 hnd.1.2 c (List.mem_of_getElem? hc)
        simp only [digit, decide_eq_true_eq] at hcd
        have hb := fold10_bound (s.take (k + 1)) (digits_take hnd.1.2 _)
        have hmax : fold10 (s.take (k + 1)) ≤ 9223372036854775807 := by
          by_cases h19 : s.length = 19
          · have hm := fold10_max hnd.1.2 h19 (by simpa using hgo h19)
            have h2 := fold10_drop s (k + 1) hnd.1.2 hlt
            have hp : (1 : Int) ≤ 10 ^ (s.length - (k + 1)) := by
              have := Int.pow_pos (n := 10) (m := s.length - (k + 1)) (by omega)
              omega
            have h3 : fold10 (s.take (k + 1)) * 1 ≤ fold10 (s.take (k + 1)) * 10 ^ (s.length - (k + 1)) := Int.mul_le_mul_of_nonneg_left hp hb.1
            omega
          · have hl : (s.take (k + 1)).length ≤ 18 := by simp; omega
            have : (10 : Int) ^ (s.take (k + 1)).length ≤ 10 ^ 18 := pow10_le hl
            omega
        have hf := (fold10_bound (s.take k) (digits_take hnd.1.2 _)).1
        have hs1 := fold10_succ hc
        have e1 : Go.IntKind.wrap .i64 (10 * fold10 (s.take k)) = 10 * fold10 (s.take k) := w64 (by omega) (by omega)
        (repeat' first | simp (disch := omega) only [go_sem, hc, e1, wrap_sub] | (refine wantDf (fun h => ?_) (fun h => ?_) <;> try simp (disch := omega) only [go_sem, hc, e1, wrap_sub, h]) | (refine wantDt (fun h => ?_) (fun h => ?_) <;> try simp (disch := omega) only [go_sem, hc, e1, wrap_sub, h]) | (refine wantEf (fun h => ?_) (fun h => ?_) <;> try simp (disch := omega) only [go_sem, hc, e1, wrap_sub, h]) | (refine wantEt (fun h => ?_) (fun h => ?_) <;> try simp (disch := omega) only [go_sem, hc, e1, wrap_sub, h]) | (refine wantNf (fun h => ?_) (fun h => ?_) <;> try simp (disch := omega) only [go_sem, hc, e1, wrap_sub, h]) | (refine wantNt (fun h => ?_) (fun h => ?_) <;> try simp (disch := omega) only [go_sem, hc, e1, wrap_sub, h]) | (refine wantNBf (fun h => ?_) (fun h => ?_) <;> try simp (disch := omega) only [go_sem, hc, e1, wrap_sub, h]) | (refine wantNBt (fun h => ?_) (fun h => ?_) <;> try simp (disch := omega) only [go_sem, hc, e1, wrap_sub, h]) | (refine wantBf (fun h => ?_) (fun h => ?_) <;> try simp (disch := omega) only [go_sem, hc, e1, wrap_sub, h]) | (refine wantBt (fun h => ?_) (fun h => ?_) <;> try simp (disch := omega) only [go_sem, hc, e1, wrap_sub, h]) | (refine boolD (fun h => ?_) (fun h => ?_) <;> try simp (disch := omega) only [go_sem, hc, e1, wrap_sub, h]) | (refine boolE (fun h => ?_) (fun h => ?_) <;> try simp (disch := omega) only [go_sem, hc, e1, wrap_sub, h]) | (refine boolN (fun h => ?_) (fun h => ?_) <;> try simp (disch := omega) only [go_sem, hc, e1, wrap_sub, h]) | (refine boolNB (fun h => ?_) (fun h => ?_) <;> try simp (disch := omega) only [go_sem, hc, e1, wrap_sub, h]) | (refine boolB (fun h => ?_) (fun h => ?_) <;> try simp (disch := omega) only [go_sem, hc, e1, wrap_sub, h]))
        exact ⟨k + 1, by rw [hs1]; rfl, hlt, by omega⟩
      · (repeat' first | simp (disch := omega) only [go_sem] | (refine wantDf (fun h => ?_) (fun h => ?_) <;> try simp (disch := omega) only [go_sem, h]) | (refine wantDt (fun h => ?_) (fun h => ?_) <;> try simp (disch := omega) only [go_sem, h]) | (refine wantEf (fun h => ?_) (fun h => ?_) <;> try simp (disch := omega) only [go_sem, h]) | (refine wantEt (fun h => ?_) (fun h => ?_) <;> try simp (disch := omega) only [go_sem, h]) | (refine wantNf (fun h => ?_) (fun h => ?_) <;> try simp (disch := omega) only [go_sem, h]) | (refine wantNt (fun h => ?_) (fun h => ?_) <;> try simp (disch := omega) only [go_sem, h]) | (refine wantNBf (fun h => ?_) (fun h => ?_) <;> try simp (disch := omega) only [go_sem, h]) | (refine wantNBt (fun h => ?_) (fun h => ?_) <;> try simp (disch := omega) only [go_sem, h]) | (refine wantBf (fun h => ?_) (fun h => ?_) <;> try simp (disch := omega) only [go_sem, h]) | (refine wantBt (fun h => ?_) (fun h => ?_) <;> try simp (disch := omega) only [go_sem, h]) | (refine boolD (fun h => ?_) (fun h => ?_) <;> try simp (disch := omega) only [go_sem, h]) | (refine boolE (fun h => ?_) (fun h => ?_) <;> try simp (disch := omega) only [go_sem, h]) | (refine boolN (fun h => ?_) (fun h => ?_) <;> try simp (disch := omega) only [go_sem, h]) | (refine boolNB (fun h => ?_) (fun h => ?_) <;> try simp (disch := omega) only [go_sem, h]) | (refine boolB (fun h => ?_) (fun h => ?_) <;> try simp (disch := omega) only [go_sem, h]))
        rw [take_len hlt hk]
        have h20 : ¬ (19 < s.length ∨ (s.length = 19 ∧ (!(Go.Op.bytesLess s max19 || s == max19)) = true)) := by
          rintro (h1 | ⟨h1, h2⟩)
          · omega
          · rw [hgo h1] at h2; cases h2
        simp only [toInt01, hnum, h20, Bool.true_eq_false, if_false]
    · have hgo : s.length = 19 → (Go.Op.bytesLess s max19 || s == max19) = true := fun h2 => by omega
      refine loop_of (α := Nat) (fun k => { tmps := slots 36 [(0, .str s), (4, .int .i64 (fold10 (s.take k))), (5, .int .i64 k)], heap := [], base := 0 }) (fun k => k ≤ s.length) (fun k => s.length - k) 0 rfl (Nat.zero_le _) ?_
      rintro k hk
      by_cases hlt : k < s.length
      · obtain ⟨c, hc⟩ := get_some hlt
        have hcd : digit c = true := List.all_eq_true.1 hnd.1.2 c (List.mem_of_getElem? hc)
        simp only [digit, decide_eq_true_eq] at hcd
        have hb := fold10_bound (s.take (k + 1)) (digits_take hnd.1.2 _)
        have hmax : fold10 (s.take (k + 1)) ≤ 9223372036854775807 := by
          by_cases h19 : s.length = 19
          · have hm := fold10_max hnd.1.2 h19 (by simpa using hgo h19)
            have h2 := fold10_drop s (k + 1) hnd.1.2 hlt
            have hp : (1 : Int) ≤ 10 ^ (s.length - (k + 1)) := by
              have := Int.pow_pos (n := 10) (m := s.length - (k + 1)) (by omega)
              omega
            have h3 : fold10 (s.take (k + 1)) * 1 ≤ fold10 (s.take (k + 1)) * 10 ^ (s.length - (k + 1)) := Int.mul_le_mul_of_nonneg_left hp hb.1
            omega
          · have hl : (s.take (k + 1)).length ≤ 18 := by simp; omega
            have : (10 : Int) ^ (s.take (k + 1)).length ≤ 10 ^ 18 := pow10_le hl
            omega
        have hf := (fold10_bound (s.take k) (digits_take hnd.1.2 _)).1
        have hs1 := fold10_succ hc
        have e1 : Go.IntKind.wrap .i64 (10 * fold10 (s.take k)) = 10 * fold10 (s.take k) := w64 (by omega) (by omega)
        (repeat' first | simp (disch := omega) only [go_sem, hc, e1, wrap_sub] | (refine wantDf (fun h => ?_) (fun h => ?_) <;> try simp (disch := omega) only [go_sem, hc, e1, wrap_sub, h]) | (refine wantDt (fun h => ?_) (fun h => ?_) <;> try simp (disch := omega) only [go_sem, hc, e1, wrap_sub, h]) | (refine wantEf (fun h => ?_) (fun h => ?_) <;> try simp (disch := omega) only [go_sem, hc, e1, wrap_sub, h]) | (refine wantEt (fun h => ?_) (fun h => ?_) <;> try simp (disch := omega) only [go_sem, hc, e1, wrap_sub, h]) | (refine wantNf (fun h => ?_) (fun h => ?_) <;> try simp (disch := omega) only [go_sem, hc, e1, wrap_sub, h]) | (refine wantNt (fun h => ?_) (fun h => ?_) <;> try simp (disch := omega) only [go_sem, hc, e1, wrap_sub, h]) | (refine wantNBf (fun h => ?_) (fun h => ?_) <;> try simp (disch := omega) only [go_sem, hc, e1, wrap_sub, h]) | (refine wantNBt (fun h => ?_) (fun h => ?_) <;> try simp (disch := omega) only [go_sem, hc, e1, wrap_sub, h]) | (refine wantBf (fun h => ?_) (fun h => ?_) <;> try simp (disch := omega) only [go_sem, hc, e1, wrap_sub, h]) | (refine wantBt (fun h => ?_) (fun h => ?_) <;> try simp (disch := omega) only [go_sem, hc, e1, wrap_sub, h]) | (refine boolD (fun h => ?_) (fun h => ?_) <;> try simp (disch := omega) only [go_sem, hc, e1, wrap_sub, h]) | (refine boolE (fun h => ?_) (fun h => ?_) <;> try simp (disch := omega) only [go_sem, hc, e1, wrap_sub, h]) | (refine boolN (fun h => ?_) (fun h => ?_) <;> try simp (disch := omega) only [go_sem, hc, e1, wrap_sub, h]) | (refine boolNB (fun h => ?_) (fun h => ?_) <;> try simp (disch := omega) only [go_sem, hc, e1, wrap_sub, h]) | (refine boolB (fun h => ?_) (fun h => ?_) <;> try simp (disch := omega) only [go_sem, hc, e1, wrap_sub, h]))
        exact ⟨k + 1, by rw [hs1]; rfl, hlt, by omega⟩
      · (repeat' first | simp (disch := omega) only [go_sem] | (refine wantDf (fun h => ?_) (fun h => ?_) <;> try simp (disch := omega) only [go_sem, h]) | (refine wantDt (fun h => ?_) (fun h => ?_) <;> try simp (disch := omega) only [go_sem, h]) | (refine wantEf (fun h => ?_) (fun h => ?_) <;> try simp (disch := omega) only [go_sem, h]) | (refine wantEt (fun h => ?_) (fun h => ?_) <;> try simp (disch := omega) only [go_sem, h]) | (refine wantNf (fun h => ?_) (fun h => ?_) <;> try simp (disch := omega) only [go_sem, h]) | (refine wantNt (fun h => ?_) (fun h => ?_) <;> try simp (disch := omega) only [go_sem, h]) | (refine wantNBf (fun h => ?_) (fun h => ?_) <;> try simp (disch := omega) only [go_sem, h]) | (refine wantNBt (fun h => ?_) (fun h => ?_) <;> try simp (disch := omega) only [go_sem, h]) | (refine wantBf (fun h => ?_) (fun h => ?_) <;> try simp (disch := omega) only [go_sem, h]) | (refine wantBt (fun h => ?_) (fun h => ?_) <;> try simp (disch := omega) only [go_sem, h]) | (refine boolD (fun h => ?_) (fun h => ?_) <;> try simp (disch := omega) only [go_sem, h]) | (refine boolE (fun h => ?_) (fun h => ?_) <;> try simp (disch := omega) only [go_sem, h]) | (refine boolN (fun h => ?_) (fun h => ?_) <;> try simp (disch := omega) only [go_sem, h]) | (refine boolNB (fun h => ?_) (fun h => ?_) <;> try simp (disch := omega) only [go_sem, h]) | (refine boolB (fun h => ?_) (fun h => ?_) <;> try simp (disch := omega) only [go_sem, h]))
        rw [take_len hlt hk]
        have h20 : ¬ (19 < s.length ∨ (s.length = 19 ∧ (!(Go.Op.bytesLess s max19 || s == max19)) = true)) := by
          rintro (h1 | ⟨h1, h2⟩)
          · omega
          · rw [hgo h1] at h2; cases h2
        simp only [toInt01, hnum, h20, Bool.true_eq_false, if_false]
    · simp only [toInt01, hnum, Bool.true_eq_false, if_false, if_pos (show 19 < s.length ∨ (s.length = 19 ∧ (!(Go.Op.bytesLess s max19 || s == max19)) = true) from .inl (by omega))]

/-! ### Decimals -/

structure Dec where
  neg : Bool
  digits : List UInt8
  exp : Int
def encDec (d : Dec) : AV := .agg [.bool d.neg, .str d.digits, .int .i64 d.exp]

/-- R02.Valid -/
def decOk (d : Dec) : Bool :=
  if d.digits = [] then !d.neg && d.exp == 0
  else decide (d.digits.length ≤ 120) && numeral d.digits && decide (zeros d.digits = 0) && decide (-400 ≤ d.exp) && decide (d.exp ≤ 400)

theorem decOk_run (d : Dec) (hs : d.digits.length < 2 ^ 31) : PRun C0 79 [encDec d] (.bool (decOk d)) := by
  refine prun_of ac79 rfl ?_
  obtain ⟨neg, ds, exp⟩ := d
  simp only [encDec] at *
  by_cases h0 : ds = []
  · subst h0
    (repeat' first | simp (disch := omega) only [go_sem, ac79, enter] | (refine wantDf (fun h => ?_) (fun h => ?_) <;> try simp (disch := omega) only [go_sem, ac79, enter, h]) | (refine wantDt (fun h => ?_) (fun h => ?_) <;> try simp (disch := omega) only [go_sem, ac79, enter, h]) | (refine wantEf (fun h => ?_) (fun h => ?_) <;> try simp (disch := omega) only [go_sem, ac79, enter, h]) | (refine wantEt (fun h => ?_) (fun h => ?_) <;> try simp (disch := omega) only [go_sem, ac79, enter, h]) | (refine wantNf (fun h => ?_) (fun h => ?_) <;> try simp (disch := omega) only [go_sem, ac79, enter, h]) | (refine wantNt (fun h => ?_) (fun h => ?_) <;> try simp (disch := omega) only [go_sem, ac79, enter, h]) | (refine wantNBf (fun h => ?_) (fun h => ?_) <;> try simp (disch := omega) only [go_sem, ac79, enter, h]) | (refine wantNBt (fun h => ?_) (fun h => ?_) <;> try simp (disch := omega) only [go_sem, ac79, enter, h]) | (refine wantBf (fun h => ?_) (fun h => ?_) <;> try simp (disch := omega) only [go_sem, ac79, enter, h]) | (refine wantBt (fun h => ?_) (fun h => ?_) <;> try simp (disch := omega) only [go_sem, ac79, enter, h]) | (refine boolD (fun h => ?_) (fun h => ?_) <;> try simp (disch := omega) only [go_sem, ac79, enter, h]) | (refine boolE (fun h => ?_) (fun h => ?_) <;> try simp (disch := omega) only [go_sem, ac79, enter, h]) | (refine boolN (fun h => ?_) (fun h => ?_) <;> try simp (disch := omega) only [go_sem, ac79, enter, h]) | (refine boolNB (fun h => ?_) (fun h => ?_) <;> try simp (disch := omega) only [go_sem, ac79, enter, h]) | (refine boolB (fun h => ?_) (fun h => ?_) <;> try simp (disch := omega) only [go_sem, ac79, enter, h]))
    all_goals simp [decOk]
  · have hb : (ds == ([] : List UInt8)) = false := by simp [h0]
    have hz := zeros_run ds hs
    (repeat' first | simp (disch := omega) only [go_sem, ac79, enter, hb] | refine pure_of _ (valid01_run _ hs) ?_ | refine pure_of _ (hz) ?_ | (refine wantDf (fun h => ?_) (fun h => ?_) <;> try simp (disch := omega) only [go_sem, ac79, enter, hb , h]) | (refine wantDt (fun h => ?_) (fun h => ?_) <;> try simp (disch := omega) only [go_sem, ac79, enter, hb , h]) | (refine wantEf (fun h => ?_) (fun h => ?_) <;> try simp (disch := omega) only [go_sem, ac79, enter, hb , h]) | (refine wantEt (fun h => ?_) (fun h => ?_) <;> try simp (disch := omega) only [go_sem, ac79, enter, hb , h]) | (refine wantNf (fun h => ?_) (fun h => ?_) <;> try simp (disch := omega) only [go_sem, ac79, enter, hb , h]) | (refine wantNt (fun h => ?_) (fun h => ?_) <;> try simp (disch := omega) only [go_sem, ac79, enter, hb , h]) | (refine wantNBf (fun h => ?_) (fun h => ?_) <;> try simp (disch := omega) only [go_sem, ac79, enter, hb , h]) | (refine wantNBt (fun h => ?_) (fun h => ?_) <;> try simp (disch := omega) only [go_sem, ac79, enter, hb , h]) | (refine wantBf (fun h => ?_) (fun h => ?_) <;> try simp (disch := omega) only [go_sem, ac79, enter, hb , h]) | (refine wantBt (fun h => ?_) (fun h => ?_) <;> try simp (disch := omega) only [go_sem, ac79, enter, hb , h]) | (refine boolD (fun h => ?_) (fun h => ?_) <;> try simp (disch := omega) only [go_sem, ac79, enter, hb , h]) | (refine boolE (fun h => ?_) (fun h => ?_) <;> try simp (disch := omega) only [go_sem, ac79, enter, hb , h]) | (refine boolN (fun h => ?_) (fun h => ?_) <;> try simp (disch := omega) only [go_sem, ac79, enter, hb , h]) | (refine boolNB (fun h => ?_) (fun h => ?_) <;> try simp (disch := omega) only [go_sem, ac79, enter, hb , h]) | (refine boolB (fun h => ?_) (fun h => ?_) <;> try simp (disch := omega) only [go_sem, ac79, enter, hb , h]))
    all_goals simp [decOk, h0]
    all_goals first | omega | (intros; omega) | (simp_all; done) | skip
    all_goals (have : (zeros ds : Int) = 0 ↔ zeros ds = 0 := by omega)
    all_goals simp_all
    all_goals omega

def min19 : List UInt8 := [57, 50, 50, 51, 51, 55, 50, 48, 51, 54, 56, 53, 52, 55, 55, 53, 56, 48, 56]
/-- R02.ToInt -/
def toInt02 (d : Dec) : Int × Int :=
  if d.exp < 0 then (0, 15)
  else if 19 < d.digits.length + d.exp then (0, 2)
  else
    let s := d.digits ++ List.replicate d.exp.toNat 48
    if d.neg = true ∧ s = min19 then (-9223372036854775808, 0)
    else (if d.neg then -(toInt01 s).1 else (toInt01 s).1, (toInt01 s).2)

theorem toInt01_range (s : List UInt8) : 0 ≤ (toInt01 s).1 ∧ (toInt01 s).1 ≤ 9223372036854775807 := by
  unfold toInt01
  split
  · simp
  · rename_i hn
    split
    · simp
    · rename_i h
      have hn' : numeral s = true := by simpa using hn
      simp only [numeral, Bool.and_eq_true, decide_eq_true_eq] at hn'
      have hb := fold10_bound s hn'.1.2
      refine ⟨hb.1, ?_⟩
      by_cases h19 : s.length = 19
      · refine fold10_max hn'.1.2 h19 ?_
        rw [not_or] at h
        have := h.2
        simp only [h19, true_and, Bool.not_eq_true', Bool.not_eq_false, Bool.or_eq_true, beq_iff_eq] at this
        exact this
      · have hl : s.length ≤ 18 := by omega
        have := pow10_le hl
        simp only
        omega

theorem toInt02_run (d : Dec) (hs : d.digits.length < 2 ^ 20) (he : d.exp < 2 ^ 20) : PRun C0 23 [encDec d] (.tup [.int .i64 (toInt02 d).1, .int .i64 (toInt02 d).2]) := by
  refine prun_of ac23 rfl ?_
  obtain ⟨neg, ds, exp⟩ := d
  simp only [encDec] at *
  by_cases h1 : exp < 0
  · (repeat' first | simp (disch := omega) only [go_sem, ac23, enter] | (refine wantDf (fun h => ?_) (fun h => ?_) <;> try simp (disch := omega) only [go_sem, ac23, enter, h]) | (refine wantDt (fun h => ?_) (fun h => ?_) <;> try simp (disch := omega) only [go_sem, ac23, enter, h]) | (refine wantEf (fun h => ?_) (fun h => ?_) <;> try simp (disch := omega) only [go_sem, ac23, enter, h]) | (refine wantEt (fun h => ?_) (fun h => ?_) <;> try simp (disch := omega) only [go_sem, ac23, enter, h]) | (refine wantNf (fun h => ?_) (fun h => ?_) <;> try simp (disch := omega) only [go_sem, ac23, enter, h]) | (refine wantNt (fun h => ?_) (fun h => ?_) <;> try simp (disch := omega) only [go_sem, ac23, enter, h]) | (refine wantNBf (fun h => ?_) (fun h => ?_) <;> try simp (disch := omega) only [go_sem, ac23, enter, h]) | (refine wantNBt (fun h => ?_) (fun h => ?_) <;> try simp (disch := omega) only [go_sem, ac23, enter, h]) | (refine wantBf (fun h => ?_) (fun h => ?_) <;> try simp (disch := omega) only [go_sem, ac23, enter, h]) | (refine wantBt (fun h => ?_) (fun h => ?_) <;> try simp (disch := omega) only [go_sem, ac23, enter, h]) | (refine boolD (fun h => ?_) (fun h => ?_) <;> try simp (disch := omega) only [go_sem, ac23, enter, h]) | (refine boolE (fun h => ?_) (fun h => ?_) <;> try simp (disch := omega) only [go_sem, ac23, enter, h]) | (refine boolN (fun h => ?_) (fun h => ?_) <;> try simp (disch := omega) only [go_sem, ac23, enter, h]) | (refine boolNB (fun h => ?_) (fun h => ?_) <;> try simp (disch := omega) only [go_sem, ac23, enter, h]) | (refine boolB (fun h => ?_) (fun h => ?_) <;> try simp (disch := omega) only [go_sem, ac23, enter, h]))
    simp [toInt02, h1]
  · obtain ⟨e, rfl⟩ : ∃ e : Nat, exp = e := ⟨exp.toNat, by omega⟩
    by_cases h2 : 19 < (ds.length : Int) + e
    · (repeat' first | simp (disch := omega) only [go_sem, ac23, enter] | (refine wantDf (fun h => ?_) (fun h => ?_) <;> try simp (disch := omega) only [go_sem, ac23, enter, h]) | (refine wantDt (fun h => ?_) (fun h => ?_) <;> try simp (disch := omega) only [go_sem, ac23, enter, h]) | (refine wantEf (fun h => ?_) (fun h => ?_) <;> try simp (disch := omega) only [go_sem, ac23, enter, h]) | (refine wantEt (fun h => ?_) (fun h => ?_) <;> try simp (disch := omega) only [go_sem, ac23, enter, h]) | (refine wantNf (fun h => ?_) (fun h => ?_) <;> try simp (disch := omega) only [go_sem, ac23, enter, h]) | (refine wantNt (fun h => ?_) (fun h => ?_) <;> try simp (disch := omega) only [go_sem, ac23, enter, h]) | (refine wantNBf (fun h => ?_) (fun h => ?_) <;> try simp (disch := omega) only [go_sem, ac23, enter, h]) | (refine wantNBt (fun h => ?_) (fun h => ?_) <;> try simp (disch := omega) only [go_sem, ac23, enter, h]) | (refine wantBf (fun h => ?_) (fun h => ?_) <;> try simp (disch := omega) only [go_sem, ac23, enter, h]) | (refine wantBt (fun h => ?_) (fun h => ?_) <;> try simp (disch := omega) only [go_sem, ac23, enter, h]) | (refine boolD (fun h => ?_) (fun h => ?_) <;> try simp (disch := omega) only [go_sem, ac23, enter, h]) | (refine boolE (fun h => ?_) (fun h => ?_) <;> try simp (disch := omega) only [go_sem, ac23, enter, h]) | (refine boolN (fun h => ?_) (fun h => ?_) <;> try simp (disch := omega) only [go_sem, ac23, enter, h]) | (refine boolNB (fun h => ?_) (fun h => ?_) <;> try simp (disch := omega) only [go_sem, ac23, enter, h]) | (refine boolB (fun h => ?_) (fun h => ?_) <;> try simp (disch := omega) only [go_sem, ac23, enter, h]))
      simp only [toInt02, h1, h2, if_false, if_true]
    · have hn := noughts_run e (by omega)
      have ht := toInt01_run (ds ++ List.replicate e 48) (by simp; omega)
      have hr := toInt01_range (ds ++ List.replicate e 48)
      have hcat : (ds.length + (List.replicate e (48 : UInt8)).length ≤ 2147483648) = True := by simp; omega
      have e3 : (ds ++ List.replicate e 48 == min19) = decide (ds ++ List.replicate e 48 = min19) := by
        by_cases h : ds ++ List.replicate e 48 = min19 <;> simp [h]
      simp only [min19] at e3
      cases neg with
      | false =>
        (repeat' first | simp (disch := omega) only [go_sem, ac23, enter, hcat, e3] | refine pure_of _ (hn) ?_ | refine pure_of _ (ht) ?_ | (refine wantDf (fun h => ?_) (fun h => ?_) <;> try simp (disch := omega) only [go_sem, ac23, enter, hcat, e3 , h]) | (refine wantDt (fun h => ?_) (fun h => ?_) <;> try simp (disch := omega) only [go_sem, ac23, enter, hcat, e3 , h]) | (refine wantEf (fun h => ?_) (fun h => ?_) <;> try simp (disch := omega) only [go_sem, ac23, enter, hcat, e3 , h]) | (refine wantEt (fun h => ?_) (fun h => ?_) <;> try simp (disch := omega) only [go_sem, ac23, enter, hcat, e3 , h]) | (refine wantNf (fun h => ?_) (fun h => ?_) <;> try simp (disch := omega) only [go_sem, ac23, enter, hcat, e3 , h]) | (refine wantNt (fun h => ?_) (fun h => ?_) <;> try simp (disch := omega) only [go_sem, ac23, enter, hcat, e3 , h]) | (refine wantNBf (fun h => ?_) (fun h => ?_) <;> try simp (disch := omega) only [go_sem, ac23, enter, hcat, e3 , h]) | (refine wantNBt (fun h => ?_) (fun h => ?_) <;> try simp (disch := omega) only [go_sem, ac23, enter, hcat, e3 , h]) | (refine wantBf (fun h => ?_) (fun h => ?_) <;> try simp (disch := omega) only [go_sem, ac23, enter, hcat, e3 , h]) | (refine wantBt (fun h => ?_) (fun h => ?_) <;> try simp (disch := omega) only [go_sem, ac23, enter, hcat, e3 , h]) | (refine boolD (fun h => ?_) (fun h => ?_) <;> try simp (disch := omega) only [go_sem, ac23, enter, hcat, e3 , h]) | (refine boolE (fun h => ?_) (fun h => ?_) <;> try simp (disch := omega) only [go_sem, ac23, enter, hcat, e3 , h]) | (refine boolN (fun h => ?_) (fun h => ?_) <;> try simp (disch := omega) only [go_sem, ac23, enter, hcat, e3 , h]) | (refine boolNB (fun h => ?_) (fun h => ?_) <;> try simp (disch := omega) only [go_sem, ac23, enter, hcat, e3 , h]) | (refine boolB (fun h => ?_) (fun h => ?_) <;> try simp (disch := omega) only [go_sem, ac23, enter, hcat, e3 , h]))
        simp [toInt02, h1, h2]
      | true =>
        (repeat' first | simp (disch := omega) only [go_sem, ac23, enter, hcat, e3] | refine pure_of _ (hn) ?_ | refine pure_of _ (ht) ?_ | (refine wantDf (fun h => ?_) (fun h => ?_) <;> try simp (disch := omega) only [go_sem, ac23, enter, hcat, e3 , h]) | (refine wantDt (fun h => ?_) (fun h => ?_) <;> try simp (disch := omega) only [go_sem, ac23, enter, hcat, e3 , h]) | (refine wantEf (fun h => ?_) (fun h => ?_) <;> try simp (disch := omega) only [go_sem, ac23, enter, hcat, e3 , h]) | (refine wantEt (fun h => ?_) (fun h => ?_) <;> try simp (disch := omega) only [go_sem, ac23, enter, hcat, e3 , h]) | (refine wantNf (fun h => ?_) (fun h => ?_) <;> try simp (disch := omega) only [go_sem, ac23, enter, hcat, e3 , h]) | (refine wantNt (fun h => ?_) (fun h => ?_) <;> try simp (disch := omega) only [go_sem, ac23, enter, hcat, e3 , h]) | (refine wantNBf (fun h => ?_) (fun h => ?_) <;> try simp (disch := omega) only [go_sem, ac23, enter, hcat, e3 , h]) | (refine wantNBt (fun h => ?_) (fun h => ?_) <;> try simp (disch := omega) only [go_sem, ac23, enter, hcat, e3 , h]) | (refine wantBf (fun h => ?_) (fun h => ?_) <;> try simp (disch := omega) only [go_sem, ac23, enter, hcat, e3 , h]) | (refine wantBt (fun h => ?_) (fun h => ?_) <;> try simp (disch := omega) only [go_sem, ac23, enter, hcat, e3 , h]) | (refine boolD (fun h => ?_) (fun h => ?_) <;> try simp (disch := omega) only [go_sem, ac23, enter, hcat, e3 , h]) | (refine boolE (fun h => ?_) (fun h => ?_) <;> try simp (disch := omega) only [go_sem, ac23, enter, hcat, e3 , h]) | (refine boolN (fun h => ?_) (fun h => ?_) <;> try simp (disch := omega) only [go_sem, ac23, enter, hcat, e3 , h]) | (refine boolNB (fun h => ?_) (fun h => ?_) <;> try simp (disch := omega) only [go_sem, ac23, enter, hcat, e3 , h]) | (refine boolB (fun h => ?_) (fun h => ?_) <;> try simp (disch := omega) only [go_sem, ac23, enter, hcat, e3 , h]))
        · have h' : ds ++ List.replicate e 48 = min19 := h
          simp [toInt02, h1, h2, h']
        · have h' : ¬ ds ++ List.replicate e 48 = min19 := h
          simp [toInt02, h1, h2, h']

/-- qpath.index -/
def indexM (d : Dec) : Int × Bool :=
  if d.neg = true ∨ d.exp < 0 ∨ 5 < d.digits.length + d.exp then (0, false)
  else (fold10 (d.digits ++ List.replicate d.exp.toNat 48), decide (fold10 (d.digits ++ List.replicate d.exp.toNat 48) ≤ 65536))

theorem digits_append {a b : List UInt8} (h : digits a = true) (h' : digits b = true) : digits (a ++ b) = true := by simp_all [digits]
theorem digits_noughts (n : Nat) : digits (List.replicate n 48) = true := by
  refine List.all_eq_true.2 fun x hx => ?_
  rw [(List.mem_replicate.1 hx).2]
  rfl

theorem indexM_run (d : Dec) (hd : digits d.digits = true) (hs : d.digits.length < 2 ^ 20) (he : d.exp < 2 ^ 20) : PRun C0 21 [encDec d] (.tup [.int .i64 (indexM d).1, .bool (indexM d).2]) := by
  refine prun_of ac21 rfl ?_
  obtain ⟨neg, ds, exp⟩ := d
  simp only [encDec] at *
  cases neg with
  | true =>
    (repeat' first | simp (disch := omega) only [go_sem, ac21, enter] | (refine wantDf (fun h => ?_) (fun h => ?_) <;> try simp (disch := omega) only [go_sem, ac21, enter, h]) | (refine wantDt (fun h => ?_) (fun h => ?_) <;> try simp (disch := omega) only [go_sem, ac21, enter, h]) | (refine wantEf (fun h => ?_) (fun h => ?_) <;> try simp (disch := omega) only [go_sem, ac21, enter, h]) | (refine wantEt (fun h => ?_) (fun h => ?_) <;> try simp (disch := omega) only [go_sem, ac21, enter, h]) | (refine wantNf (fun h => ?_) (fun h => ?_) <;> try simp (disch := omega) only [go_sem, ac21, enter, h]) | (refine wantNt (fun h => ?_) (fun h => ?_) <;> try simp (disch := omega) only [go_sem, ac21, enter, h]) | (refine wantNBf (fun h => ?_) (fun h => ?_) <;> try simp (disch := omega) only [go_sem, ac21, enter, h]) | (refine wantNBt (fun h => ?_) (fun h => ?_) <;> try simp (disch := omega) only [go_sem, ac21, enter, h]) | (refine wantBf (fun h => ?_) (fun h => ?_) <;> try simp (disch := omega) only [go_sem, ac21, enter, h]) | (refine wantBt (fun h => ?_) (fun h => ?_) <;> try simp (disch := omega) only [go_sem, ac21, enter, h]) | (refine boolD (fun h => ?_) (fun h => ?_) <;> try simp (disch := omega) only [go_sem, ac21, enter, h]) | (refine boolE (fun h => ?_) (fun h => ?_) <;> try simp (disch := omega) only [go_sem, ac21, enter, h]) | (refine boolN (fun h => ?_) (fun h => ?_) <;> try simp (disch := omega) only [go_sem, ac21, enter, h]) | (refine boolNB (fun h => ?_) (fun h => ?_) <;> try simp (disch := omega) only [go_sem, ac21, enter, h]) | (refine boolB (fun h => ?_) (fun h => ?_) <;> try simp (disch := omega) only [go_sem, ac21, enter, h]))
    simp [indexM]
  | false =>
    by_cases h1 : exp < 0
    · (repeat' first | simp (disch := omega) only [go_sem, ac21, enter] | (refine wantDf (fun h => ?_) (fun h => ?_) <;> try simp (disch := omega) only [go_sem, ac21, enter, h]) | (refine wantDt (fun h => ?_) (fun h => ?_) <;> try simp (disch := omega) only [go_sem, ac21, enter, h]) | (refine wantEf (fun h => ?_) (fun h => ?_) <;> try simp (disch := omega) only [go_sem, ac21, enter, h]) | (refine wantEt (fun h => ?_) (fun h => ?_) <;> try simp (disch := omega) only [go_sem, ac21, enter, h]) | (refine wantNf (fun h => ?_) (fun h => ?_) <;> try simp (disch := omega) only [go_sem, ac21, enter, h]) | (refine wantNt (fun h => ?_) (fun h => ?_) <;> try simp (disch := omega) only [go_sem, ac21, enter, h]) | (refine wantNBf (fun h => ?_) (fun h => ?_) <;> try simp (disch := omega) only [go_sem, ac21, enter, h]) | (refine wantNBt (fun h => ?_) (fun h => ?_) <;> try simp (disch := omega) only [go_sem, ac21, enter, h]) | (refine wantBf (fun h => ?_) (fun h => ?_) <;> try simp (disch := omega) only [go_sem, ac21, enter, h]) | (refine wantBt (fun h => ?_) (fun h => ?_) <;> try simp (disch := omega) only [go_sem, ac21, enter, h]) | (refine boolD (fun h => ?_) (fun h => ?_) <;> try simp (disch := omega) only [go_sem, ac21, enter, h]) | (refine boolE (fun h => ?_) (fun h => ?_) <;> try simp (disch := omega) only [go_sem, ac21, enter, h]) | (refine boolN (fun h => ?_) (fun h => ?_) <;> try simp (disch := omega) only [go_sem, ac21, enter, h]) | (refine boolNB (fun h => ?_) (fun h => ?_) <;> try simp (disch := omega) only [go_sem, ac21, enter, h]) | (refine boolB (fun h => ?_) (fun h => ?_) <;> try simp (disch := omega) only [go_sem, ac21, enter, h]))
      simp [indexM, h1]
    · obtain ⟨e, rfl⟩ : ∃ e : Nat, exp = e := ⟨exp.toNat, by omega⟩
      by_cases h2 : 5 < (ds.length : Int) + e
      · (repeat' first | simp (disch := omega) only [go_sem, ac21, enter] | (refine wantDf (fun h => ?_) (fun h => ?_) <;> try simp (disch := omega) only [go_sem, ac21, enter, h]) | (refine wantDt (fun h => ?_) (fun h => ?_) <;> try simp (disch := omega) only [go_sem, ac21, enter, h]) | (refine wantEf (fun h => ?_) (fun h => ?_) <;> try simp (disch := omega) only [go_sem, ac21, enter, h]) | (refine wantEt (fun h => ?_) (fun h => ?_) <;> try simp (disch := omega) only [go_sem, ac21, enter, h]) | (refine wantNf (fun h => ?_) (fun h => ?_) <;> try simp (disch := omega) only [go_sem, ac21, enter, h]) | (refine wantNt (fun h => ?_) (fun h => ?_) <;> try simp (disch := omega) only [go_sem, ac21, enter, h]) | (refine wantNBf (fun h => ?_) (fun h => ?_) <;> try simp (disch := omega) only [go_sem, ac21, enter, h]) | (refine wantNBt (fun h => ?_) (fun h => ?_) <;> try simp (disch := omega) only [go_sem, ac21, enter, h]) | (refine wantBf (fun h => ?_) (fun h => ?_) <;> try simp (disch := omega) only [go_sem, ac21, enter, h]) | (refine wantBt (fun h => ?_) (fun h => ?_) <;> try simp (disch := omega) only [go_sem, ac21, enter, h]) | (refine boolD (fun h => ?_) (fun h => ?_) <;> try simp (disch := omega) only [go_sem, ac21, enter, h]) | (refine boolE (fun h => ?_) (fun h => ?_) <;> try simp (disch := omega) only [go_sem, ac21, enter, h]) | (refine boolN (fun h => ?_) (fun h => ?_) <;> try simp (disch := omega) only [go_sem, ac21, enter, h]) | (refine boolNB (fun h => ?_) (fun h => ?_) <;> try simp (disch := omega) only [go_sem, ac21, enter, h]) | (refine boolB (fun h => ?_) (fun h => ?_) <;> try simp (disch := omega) only [go_sem, ac21, enter, h]))
        simp [indexM, h2]
      · (repeat' first | simp (disch := omega) only [go_sem, ac21, enter] | (refine wantDf (fun h => ?_) (fun h => ?_) <;> try simp (disch := omega) only [go_sem, ac21, enter, h]) | (refine wantDt (fun h => ?_) (fun h => ?_) <;> try simp (disch := omega) only [go_sem, ac21, enter, h]) | (refine wantEf (fun h => ?_) (fun h => ?_) <;> try simp (disch := omega) only [go_sem, ac21, enter, h]) | (refine wantEt (fun h => ?_) (fun h => ?_) <;> try simp (disch := omega) only [go_sem, ac21, enter, h]) | (refine wantNf (fun h => ?_) (fun h => ?_) <;> try simp (disch := omega) only [go_sem, ac21, enter, h]) | (refine wantNt (fun h => ?_) (fun h => ?_) <;> try simp (disch := omega) only [go_sem, ac21, enter, h]) | (refine wantNBf (fun h => ?_) (fun h => ?_) <;> try simp (disch := omega) only [go_sem, ac21, enter, h]) | (refine wantNBt (fun h => ?_) (fun h => ?_) <;> try simp (disch := omega) only [go_sem, ac21, enter, h]) | (refine wantBf (fun h => ?_) (fun h => ?_) <;> try simp (disch := omega) only [go_sem, ac21, enter, h]) | (refine wantBt (fun h => ?_) (fun h => ?_) <;> try simp (disch := omega) only [go_sem, ac21, enter, h]) | (refine boolD (fun h => ?_) (fun h => ?_) <;> try simp (disch := omega) only [go_sem, ac21, enter, h]) | (refine boolE (fun h => ?_) (fun h => ?_) <;> try simp (disch := omega) only [go_sem, ac21, enter, h]) | (refine boolN (fun h => ?_) (fun h => ?_) <;> try simp (disch := omega) only [go_sem, ac21, enter, h]) | (refine boolNB (fun h => ?_) (fun h => ?_) <;> try simp (disch := omega) only [go_sem, ac21, enter, h]) | (refine boolB (fun h => ?_) (fun h => ?_) <;> try simp (disch := omega) only [go_sem, ac21, enter, h]))
        have hda := digits_append hd (digits_noughts e)
        refine loop_of (α := Nat) (fun k => { tmps := slots 50 [(1, .ptr 3 0 0 0), (4, .int .i64 (fold10 ((ds ++ List.replicate e 48).take k))), (27, .int .i64 (ds.length + e)), (28, .int .i64 k)], heap := [.row 3 [.agg [.bool false, .str ds, .int .i64 e]] false true 0], base := 0 }) (fun k => k ≤ ds.length + e) (fun k => ds.length + e - k) 0 rfl (Nat.zero_le _) ?_
        rintro k hk
        have hlen : (ds ++ List.replicate e (48 : UInt8)).length = ds.length + e := by simp
        have hbk := fold10_bound _ (digits_take hda k)
        have hpk : (10 : Int) ^ ((ds ++ List.replicate e (48 : UInt8)).take k).length ≤ 10 ^ 5 := pow10_le (by simp; omega)
        by_cases hlt : k < ds.length + e
        · by_cases hl2 : k < ds.length
          · obtain ⟨c, hc⟩ := get_some hl2
            have hcd : digit c = true := List.all_eq_true.1 hd c (List.mem_of_getElem? hc)
            simp only [digit, decide_eq_true_eq] at hcd
            have hca : (ds ++ List.replicate e 48)[k]? = some c := by rw [List.getElem?_append_left hl2, hc]
            have hs1 := fold10_succ hca
            (repeat' first | simp (disch := omega) only [go_sem, hc] | (refine wantDf (fun h => ?_) (fun h => ?_) <;> try simp (disch := omega) only [go_sem, hc, h]) | (refine wantDt (fun h => ?_) (fun h => ?_) <;> try simp (disch := omega) only [go_sem, hc, h]) | (refine wantEf (fun h => ?_) (fun h => ?_) <;> try simp (disch := omega) only [go_sem, hc, h]) | (refine wantEt (fun h => ?_) (fun h => ?_) <;> try simp (disch := omega) only [go_sem, hc, h]) | (refine wantNf (fun h => ?_) (fun h => ?_) <;> try simp (disch := omega) only [go_sem, hc, h]) | (refine wantNt (fun h => ?_) (fun h => ?_) <;> try simp (disch := omega) only [go_sem, hc, h]) | (refine wantNBf (fun h => ?_) (fun h => ?_) <;> try simp (disch := omega) only [go_sem, hc, h]) | (refine wantNBt (fun h => ?_) (fun h => ?_) <;> try simp (disch := omega) only [go_sem, hc, h]) | (refine wantBf (fun h => ?_) (fun h => ?_) <;> try simp (disch := omega) only [go_sem, hc, h]) | (refine wantBt (fun h => ?_) (fun h => ?_) <;> try simp (disch := omega) only [go_sem, hc, h]) | (refine boolD (fun h => ?_) (fun h => ?_) <;> try simp (disch := omega) only [go_sem, hc, h]) | (refine boolE (fun h => ?_) (fun h => ?_) <;> try simp (disch := omega) only [go_sem, hc, h]) | (refine boolN (fun h => ?_) (fun h => ?_) <;> try simp (disch := omega) only [go_sem, hc, h]) | (refine boolNB (fun h => ?_) (fun h => ?_) <;> try simp (disch := omega) only [go_sem, hc, h]) | (refine boolB (fun h => ?_) (fun h => ?_) <;> try simp (disch := omega) only [go_sem, hc, h]))
            refine ⟨k + 1, ?_, hlt, by omega⟩
            rw [hs1, show 10 * fold10 (List.take k (ds ++ List.replicate e 48)) + (c.toNat : Int) - 48 = fold10 (List.take k (ds ++ List.replicate e 48)) * 10 + (c.toNat - 48) by omega]
            rfl
          · have hca : (ds ++ List.replicate e 48)[k]? = some 48 := by rw [List.getElem?_append_right (by omega), List.getElem?_replicate, if_pos (by omega)]
            have hs1 := fold10_succ hca
            (repeat' first | simp (disch := omega) only [go_sem] | (refine wantDf (fun h => ?_) (fun h => ?_) <;> try simp (disch := omega) only [go_sem, h]) | (refine wantDt (fun h => ?_) (fun h => ?_) <;> try simp (disch := omega) only [go_sem, h]) | (refine wantEf (fun h => ?_) (fun h => ?_) <;> try simp (disch := omega) only [go_sem, h]) | (refine wantEt (fun h => ?_) (fun h => ?_) <;> try simp (disch := omega) only [go_sem, h]) | (refine wantNf (fun h => ?_) (fun h => ?_) <;> try simp (disch := omega) only [go_sem, h]) | (refine wantNt (fun h => ?_) (fun h => ?_) <;> try simp (disch := omega) only [go_sem, h]) | (refine wantNBf (fun h => ?_) (fun h => ?_) <;> try simp (disch := omega) only [go_sem, h]) | (refine wantNBt (fun h => ?_) (fun h => ?_) <;> try simp (disch := omega) only [go_sem, h]) | (refine wantBf (fun h => ?_) (fun h => ?_) <;> try simp (disch := omega) only [go_sem, h]) | (refine wantBt (fun h => ?_) (fun h => ?_) <;> try simp (disch := omega) only [go_sem, h]) | (refine boolD (fun h => ?_) (fun h => ?_) <;> try simp (disch := omega) only [go_sem, h]) | (refine boolE (fun h => ?_) (fun h => ?_) <;> try simp (disch := omega) only [go_sem, h]) | (refine boolN (fun h => ?_) (fun h => ?_) <;> try simp (disch := omega) only [go_sem, h]) | (refine boolNB (fun h => ?_) (fun h => ?_) <;> try simp (disch := omega) only [go_sem, h]) | (refine boolB (fun h => ?_) (fun h => ?_) <;> try simp (disch := omega) only [go_sem, h]))
            refine ⟨k + 1, ?_, hlt, by omega⟩
            rw [hs1, show 10 * fold10 (List.take k (ds ++ List.replicate e 48)) + ((48 : UInt8).toNat : Int) - 48 = fold10 (List.take k (ds ++ List.replicate e 48)) * 10 by have : (48 : UInt8).toNat = 48 := rfl; omega]
            rfl
        · (repeat' first | simp (disch := omega) only [go_sem] | (refine wantDf (fun h => ?_) (fun h => ?_) <;> try simp (disch := omega) only [go_sem, h]) | (refine wantDt (fun h => ?_) (fun h => ?_) <;> try simp (disch := omega) only [go_sem, h]) | (refine wantEf (fun h => ?_) (fun h => ?_) <;> try simp (disch := omega) only [go_sem, h]) | (refine wantEt (fun h => ?_) (fun h => ?_) <;> try simp (disch := omega) only [go_sem, h]) | (refine wantNf (fun h => ?_) (fun h => ?_) <;> try simp (disch := omega) only [go_sem, h]) | (refine wantNt (fun h => ?_) (fun h => ?_) <;> try simp (disch := omega) only [go_sem, h]) | (refine wantNBf (fun h => ?_) (fun h => ?_) <;> try simp (disch := omega) only [go_sem, h]) | (refine wantNBt (fun h => ?_) (fun h => ?_) <;> try simp (disch := omega) only [go_sem, h]) | (refine wantBf (fun h => ?_) (fun h => ?_) <;> try simp (disch := omega) only [go_sem, h]) | (refine wantBt (fun h => ?_) (fun h => ?_) <;> try simp (disch := omega) only [go_sem, h]) | (refine boolD (fun h => ?_) (fun h => ?_) <;> try simp (disch := omega) only [go_sem, h]) | (refine boolE (fun h => ?_) (fun h => ?_) <;> try simp (disch := omega) only [go_sem, h]) | (refine boolN (fun h => ?_) (fun h => ?_) <;> try simp (disch := omega) only [go_sem, h]) | (refine boolNB (fun h => ?_) (fun h => ?_) <;> try simp (disch := omega) only [go_sem, h]) | (refine boolB (fun h => ?_) (fun h => ?_) <;> try simp (disch := omega) only [go_sem, h]))
          rw [take_len (by omega) (by omega)]
          simp [indexM, h1, h2]
end Ago
/- Values as trees. -/
set_option linter.unusedSimpArgs false
set_option linter.unusedVariables false
set_option maxRecDepth 100000
namespace Ago
open Go (IntKind)

structure Tm where
  kind : Int
  day : Int
  nano : Int
  off : Int
structure VS where
  kind : Int
  bool : Bool
  num : Dec
  time : Tm
  text : List UInt8
  bytes : List UInt8
inductive V where
  | mk (s : VS) (l : List V) (f : List (List UInt8 × V))

def V.s : V → VS | .mk s _ _ => s
def V.l : V → List V | .mk _ l _ => l
def V.f : V → List (List UInt8 × V) | .mk _ _ f => f

mutual
def encV : V → AV
  | .mk s l f => .agg [.int .i64 s.kind, .bool s.bool, .bool s.num.neg, .str s.num.digits, .int .i64 s.num.exp, .int .i64 s.time.kind, .int .i64 s.time.day, .int .i64 s.time.nano, .int .i64 s.time.off, .str s.text, .tsl 1 (encB s.bytes), .tsl 13 (encL l), .tsl 14 (encF f)]
def encL : List V → List AV
  | [] => []
  | v :: l => encV v :: encL l
def encF : List (List UInt8 × V) → List AV
  | [] => []
  | (k, v) :: f => .agg (.str k :: (encV v).cells) :: encF f
end

theorem encL_map : ∀ l, encL l = l.map encV
  | [] => by simp [encL]
  | v :: l => by simp [encL, encL_map l]
def encFd (x : List UInt8 × V) : AV := .agg (.str x.1 :: (encV x.2).cells)
theorem encF_map : ∀ l, encF l = l.map encFd
  | [] => by simp [encF]
  | (k, v) :: l => by simp [encF, encF_map l, encFd]
theorem encV_eq (v : V) : encV v = .agg [.int .i64 v.s.kind, .bool v.s.bool, .bool v.s.num.neg, .str v.s.num.digits, .int .i64 v.s.num.exp, .int .i64 v.s.time.kind, .int .i64 v.s.time.day, .int .i64 v.s.time.nano, .int .i64 v.s.time.off, .str v.s.text, .tsl 1 (encB v.s.bytes), .tsl 13 (v.l.map encV), .tsl 14 (v.f.map encFd)] := by
  cases v with
  | mk s l f => simp [encV, V.s, V.l, V.f, encL_map, encF_map]
theorem encFd_eq (x : List UInt8 × V) : encFd x = .agg [.str x.1, .int .i64 x.2.s.kind, .bool x.2.s.bool, .bool x.2.s.num.neg, .str x.2.s.num.digits, .int .i64 x.2.s.num.exp, .int .i64 x.2.s.time.kind, .int .i64 x.2.s.time.day, .int .i64 x.2.s.time.nano, .int .i64 x.2.s.time.off, .str x.2.s.text, .tsl 1 (encB x.2.s.bytes), .tsl 13 (x.2.l.map encV), .tsl 14 (x.2.f.map encFd)] := by
  unfold encFd
  rw [encV_eq]
  rfl

/-- values and letters in it -/
def V.bulk (v : V) : Nat := (encV v).bulk
theorem bulks_mem : ∀ {l : List AV} {x : AV}, x ∈ l → x.bulk ≤ AV.bulks l
  | [], x, h => by cases h
  | y :: l, x, h => by
    rcases List.mem_cons.1 h with rfl | h
    · simp [AV.bulks]
    · have := bulks_mem h; simp [AV.bulks]; omega
theorem bulks_len : ∀ (l : List AV), l.length ≤ AV.bulks l
  | [] => by simp [AV.bulks]
  | x :: l => by have := bulks_len l; have := bulk_one x; simp [AV.bulks]; omega
theorem V.bulk_eq (v : V) : v.bulk = v.s.num.digits.length + v.s.text.length + AV.bulks (encB v.s.bytes) + AV.bulks (v.l.map encV) + AV.bulks (v.f.map encFd) + 14 := by
  unfold V.bulk
  rw [encV_eq]
  simp [AV.bulk, AV.bulks]
  omega
theorem encB_len (l : List UInt8) : (encB l).length = l.length := by simp [encB]

structure V.Lens (v : V) (N : Nat) : Prop where
  digits : v.s.num.digits.length < N
  text : v.s.text.length < N
  bytes : v.s.bytes.length < N
  list : v.l.length < N
  fields : v.f.length < N
  kids : ∀ x, x ∈ v.l → x.bulk < v.bulk
  fkids : ∀ x, x ∈ v.f → x.2.bulk < v.bulk ∧ x.1.length < N
theorem V.lens {v : V} {N : Nat} (h : v.bulk ≤ N) : v.Lens N := by
  have e := v.bulk_eq
  have h1 := bulks_len (encB v.s.bytes)
  have h2 := bulks_len (v.l.map encV)
  have h3 := bulks_len (v.f.map encFd)
  rw [encB_len] at h1
  rw [List.length_map] at h2 h3
  refine ⟨by omega, by omega, by omega, by omega, by omega, fun x hx => ?_, fun x hx => ?_⟩
  · have := bulks_mem (List.mem_map_of_mem (f := encV) hx)
    show (encV x).bulk < _
    omega
  · have := bulks_mem (List.mem_map_of_mem (f := encFd) hx)
    have e2 : (encFd x).bulk = x.2.bulk + x.1.length + 1 := by
      unfold V.bulk encFd
      rw [encV_eq]
      simp [AV.bulk, AV.bulks, AV.cells]
      omega
    omega
/-- A slice that a call makes by append: nil, or a row. -/
def outSl (n b : Nat) : List AV → AV
  | [] => .snil n
  | x :: l => .sref n b 0 (l.length + 1)
def outHp (n b : Nat) : List AV → Heap
  | [] => []
  | x :: l => [.row n (x :: l) false true b]
theorem map_get {α β : Type} {g : α → β} {l : List α} {k : Nat} {x : α} (h : l[k]? = some x) : (l.map g)[k]? = some (g x) := by rw [List.getElem?_map, h]; rfl
def zeroS : AV := .agg [.int .i64 0, .bool false, .bool false, .str [], .int .i64 0, .int .i64 0, .int .i64 0, .int .i64 0, .int .i64 0, .str [], .snil 1, .snil 13, .snil 14]
end Ago
