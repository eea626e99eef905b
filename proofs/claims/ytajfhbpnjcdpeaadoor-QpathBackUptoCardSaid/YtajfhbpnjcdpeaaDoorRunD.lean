/- Whole numbers as decimals. -/
import Derived.Test.YtajfhbpnjcdpeaaDoorRunC
import Derived.Test.YtajfhbpnjcdpeaaDoorMachE
set_option linter.unusedSimpArgs false
set_option linter.unusedVariables false
set_option linter.unusedSimpArgs false
set_option linter.unusedVariables false
set_option maxRecDepth 100000
set_option maxHeartbeats 4000000
namespace Ago
open Go (IntKind)

/-- What a function that writes owes at its end. -/
def PostR (base : Nat) (res : List ResV) (v : AV) (H' : Heap) (e : Ex) (s : St) : Prop := (e = .normal ∨ e = .ret) ∧ ∃ u, results res s = some u ∧ (tidy base u s.heap).tmps.getD 0 .dead = v ∧ (tidy base u s.heap).heap = H'
theorem postR_of {base : Nat} {res : List ResV} {v : AV} {H' : Heap} {e : Ex} {s : St} (he : e = .normal ∨ e = .ret) (u : AV) (h1 : results res s = some u) (h2 : (tidy base u s.heap).tmps.getD 0 .dead = v) (h3 : (tidy base u s.heap).heap = H') : PostR base res v H' e s := ⟨he, u, h1, h2, h3⟩
theorem runR_of {C : Ctx} {f : Nat} (fn : AFn) {args : List AV} {H : Heap} {v : AV} {H' : Heap} (hf : C.code f = some fn) (h : @withStI (enter fn args H) ⟨aw (RunOf C) (PRun C) fn.body (PostR H.length fn.res v H')⟩) : RunOf C f args H v H' := by
  unfold withStI at h
  exact run_of_aw hf h

/-! ### Bytes turned round -/

theorem encB_get {l : List UInt8} {i : Nat} {c : UInt8} (h : l[i]? = some c) : (encB l)[i]? = some (.int .u8 c.toNat) := by simp [encB, h]
theorem encB_set (l : List UInt8) (i : Nat) (c : UInt8) : (encB l).set i (.int .u8 c.toNat) = encB (l.set i c) := by simp [encB, List.map_set]
theorem encB_length (l : List UInt8) : (encB l).length = l.length := by simp [encB]

theorem reverse_run (l : List UInt8) (hl : l.length < 2 ^ 20) (h0 : l ≠ []) : RunOf C0 143 [.sref 1 0 0 l.length] [.row 1 (encB l) false true 0] (.tup []) [.row 1 (encB l.reverse) false true 0] := by
  refine runR_of ac143 rfl ?_
  have hpos : 0 < l.length := List.length_pos_iff.2 h0
  simp (disch := omega) only [go_sem, ac143, enter]
  refine loop_of (α := Nat × List UInt8) (fun a => { tmps := slots 28 [(0, .sref 1 0 0 l.length), (2, .int .i64 a.1), (3, .int .i64 ((l.length : Int) - 1 - a.1))], heap := [.row 1 (encB a.2) false true 0], base := 1 })
    (fun a => a.1 ≤ l.length ∧ a.2.length = l.length ∧ ∀ i, a.2[i]? = if i < a.1 ∨ l.length ≤ i + a.1 then l.reverse[i]? else l[i]?) (fun a => l.length - a.1) (0, l) (by simp only [Int.sub_zero, Int.natCast_zero]; rfl) ⟨Nat.zero_le _, rfl, fun i => by
      simp only
      split
      · rename_i h
        rw [List.getElem?_eq_none (l := l) (by omega), List.getElem?_eq_none (by simp; omega)]
      · rfl⟩ ?_
  rintro ⟨k, m⟩ ⟨hk, hm, hget⟩
  simp only at hk hm hget ⊢
  by_cases hlt : 2 * k + 1 < l.length
  · obtain ⟨c, hc⟩ := get_some (s := m) (k := k) (by omega)
    obtain ⟨d, hd⟩ := get_some (s := m) (k := l.length - 1 - k) (by omega)
    have e1 : ((l.length : Int) - 1 - k).toNat = l.length - 1 - k := by omega
    have hd2 : (m.set k d)[l.length - 1 - k]? = some d := by rw [List.getElem?_set_ne (by omega)]; exact hd
    (repeat' first | simp (disch := omega) only [go_sem, e1, encB_get hc, encB_get hd, encB_get hd2, encB_set, encB_length, hm, List.length_set] | (refine wantDf (fun h => ?_) (fun h => ?_) <;> try simp (disch := omega) only [go_sem, e1, encB_get hc, encB_get hd, encB_get hd2, encB_set, encB_length, hm, List.length_set, h]) | (refine wantDt (fun h => ?_) (fun h => ?_) <;> try simp (disch := omega) only [go_sem, e1, encB_get hc, encB_get hd, encB_get hd2, encB_set, encB_length, hm, List.length_set, h]) | (refine wantEf (fun h => ?_) (fun h => ?_) <;> try simp (disch := omega) only [go_sem, e1, encB_get hc, encB_get hd, encB_get hd2, encB_set, encB_length, hm, List.length_set, h]) | (refine wantEt (fun h => ?_) (fun h => ?_) <;> try simp (disch := omega) only [go_sem, e1, encB_get hc, encB_get hd, encB_get hd2, encB_set, encB_length, hm, List.length_set, h]) | (refine wantNf (fun h => ?_) (fun h => ?_) <;> try simp (disch := omega) only [go_sem, e1, encB_get hc, encB_get hd, encB_get hd2, encB_set, encB_length, hm, List.length_set, h]) | (refine wantNt (fun h => ?_) (fun h => ?_) <;> try simp (disch := omega) only [go_sem, e1, encB_get hc, encB_get hd, encB_get hd2, encB_set, encB_length, hm, List.length_set, h]) | (refine wantNBf (fun h => ?_) (fun h => ?_) <;> try simp (disch := omega) only [go_sem, e1, encB_get hc, encB_get hd, encB_get hd2, encB_set, encB_length, hm, List.length_set, h]) | (refine wantNBt (fun h => ?_) (fun h => ?_) <;> try simp (disch := omega) only [go_sem, e1, encB_get hc, encB_get hd, encB_get hd2, encB_set, encB_length, hm, List.length_set, h]) | (refine wantBf (fun h => ?_) (fun h => ?_) <;> try simp (disch := omega) only [go_sem, e1, encB_get hc, encB_get hd, encB_get hd2, encB_set, encB_length, hm, List.length_set, h]) | (refine wantBt (fun h => ?_) (fun h => ?_) <;> try simp (disch := omega) only [go_sem, e1, encB_get hc, encB_get hd, encB_get hd2, encB_set, encB_length, hm, List.length_set, h]) | (refine boolD (fun h => ?_) (fun h => ?_) <;> try simp (disch := omega) only [go_sem, e1, encB_get hc, encB_get hd, encB_get hd2, encB_set, encB_length, hm, List.length_set, h]) | (refine boolE (fun h => ?_) (fun h => ?_) <;> try simp (disch := omega) only [go_sem, e1, encB_get hc, encB_get hd, encB_get hd2, encB_set, encB_length, hm, List.length_set, h]) | (refine boolN (fun h => ?_) (fun h => ?_) <;> try simp (disch := omega) only [go_sem, e1, encB_get hc, encB_get hd, encB_get hd2, encB_set, encB_length, hm, List.length_set, h]) | (refine boolNB (fun h => ?_) (fun h => ?_) <;> try simp (disch := omega) only [go_sem, e1, encB_get hc, encB_get hd, encB_get hd2, encB_set, encB_length, hm, List.length_set, h]) | (refine boolB (fun h => ?_) (fun h => ?_) <;> try simp (disch := omega) only [go_sem, e1, encB_get hc, encB_get hd, encB_get hd2, encB_set, encB_length, hm, List.length_set, h]))
    refine ⟨(k + 1, (m.set k d).set (l.length - 1 - k) c), ?_, ⟨by simp only; omega, by simp [hm], fun i => ?_⟩, by simp only; omega⟩
    · have e3 : ((l.length : Int) - 1 - ((k + 1 : Nat) : Int)) = l.length - 1 - k - 1 := by omega
      simp only [e3]
      rfl
    · have hkc : l[k]? = some c := by have := hget k; rw [if_neg (by omega), hc] at this; exact this.symm
      have hkd : l[l.length - 1 - k]? = some d := by have := hget (l.length - 1 - k); rw [if_neg (by omega), hd] at this; exact this.symm
      simp only
      by_cases h1 : i = l.length - 1 - k
      · subst h1
        rw [List.getElem?_set_self (by simp; omega), if_pos (by omega), List.getElem?_reverse (by omega), ← hkc]
        congr 1
        omega
      · rw [List.getElem?_set_ne (Ne.symm h1)]
        by_cases h2 : i = k
        · subst h2
          rw [List.getElem?_set_self (by omega), if_pos (by omega), List.getElem?_reverse (by omega), ← hkd]
        · rw [List.getElem?_set_ne (Ne.symm h2), hget i]
          by_cases h3 : i < k ∨ l.length ≤ i + k
          · rw [if_pos h3, if_pos (by omega)]
          · rw [if_neg h3, if_neg (by omega)]
  · have hrev : m = l.reverse := by
      apply List.ext_getElem?
      intro i
      rw [hget i]
      split
      · rfl
      · rename_i h
        have hi : i = k := by omega
        rw [List.getElem?_reverse (by omega)]
        congr 1
        omega
    subst hrev
    (repeat' first | simp (disch := omega) only [go_sem, encB_length, hm] | (refine wantDf (fun h => ?_) (fun h => ?_) <;> try simp (disch := omega) only [go_sem, encB_length, hm, h]) | (refine wantDt (fun h => ?_) (fun h => ?_) <;> try simp (disch := omega) only [go_sem, encB_length, hm, h]) | (refine wantEf (fun h => ?_) (fun h => ?_) <;> try simp (disch := omega) only [go_sem, encB_length, hm, h]) | (refine wantEt (fun h => ?_) (fun h => ?_) <;> try simp (disch := omega) only [go_sem, encB_length, hm, h]) | (refine wantNf (fun h => ?_) (fun h => ?_) <;> try simp (disch := omega) only [go_sem, encB_length, hm, h]) | (refine wantNt (fun h => ?_) (fun h => ?_) <;> try simp (disch := omega) only [go_sem, encB_length, hm, h]) | (refine wantNBf (fun h => ?_) (fun h => ?_) <;> try simp (disch := omega) only [go_sem, encB_length, hm, h]) | (refine wantNBt (fun h => ?_) (fun h => ?_) <;> try simp (disch := omega) only [go_sem, encB_length, hm, h]) | (refine wantBf (fun h => ?_) (fun h => ?_) <;> try simp (disch := omega) only [go_sem, encB_length, hm, h]) | (refine wantBt (fun h => ?_) (fun h => ?_) <;> try simp (disch := omega) only [go_sem, encB_length, hm, h]) | (refine boolD (fun h => ?_) (fun h => ?_) <;> try simp (disch := omega) only [go_sem, encB_length, hm, h]) | (refine boolE (fun h => ?_) (fun h => ?_) <;> try simp (disch := omega) only [go_sem, encB_length, hm, h]) | (refine boolN (fun h => ?_) (fun h => ?_) <;> try simp (disch := omega) only [go_sem, encB_length, hm, h]) | (refine boolNB (fun h => ?_) (fun h => ?_) <;> try simp (disch := omega) only [go_sem, encB_length, hm, h]) | (refine boolB (fun h => ?_) (fun h => ?_) <;> try simp (disch := omega) only [go_sem, encB_length, hm, h]))
    exact postR_of (.inl rfl) (.tup []) rfl rfl rfl
theorem reverse_nil : RunOf C0 143 [.snil 1] [] (.tup []) [] := by
  refine runR_of ac143 rfl ?_
  simp (disch := omega) only [go_sem, ac143, enter]
  refine loop_of (α := Unit) (fun _ => { tmps := slots 28 [(0, .snil 1), (2, .int .i64 0), (3, .int .i64 (-1))], heap := [], base := 0 }) (fun _ => True) (fun _ => 0) () rfl trivial ?_
  rintro _ _
  (repeat' first | simp (disch := omega) only [go_sem] | (refine wantDf (fun h => ?_) (fun h => ?_) <;> try simp (disch := omega) only [go_sem, h]) | (refine wantDt (fun h => ?_) (fun h => ?_) <;> try simp (disch := omega) only [go_sem, h]) | (refine wantEf (fun h => ?_) (fun h => ?_) <;> try simp (disch := omega) only [go_sem, h]) | (refine wantEt (fun h => ?_) (fun h => ?_) <;> try simp (disch := omega) only [go_sem, h]) | (refine wantNf (fun h => ?_) (fun h => ?_) <;> try simp (disch := omega) only [go_sem, h]) | (refine wantNt (fun h => ?_) (fun h => ?_) <;> try simp (disch := omega) only [go_sem, h]) | (refine wantNBf (fun h => ?_) (fun h => ?_) <;> try simp (disch := omega) only [go_sem, h]) | (refine wantNBt (fun h => ?_) (fun h => ?_) <;> try simp (disch := omega) only [go_sem, h]) | (refine wantBf (fun h => ?_) (fun h => ?_) <;> try simp (disch := omega) only [go_sem, h]) | (refine wantBt (fun h => ?_) (fun h => ?_) <;> try simp (disch := omega) only [go_sem, h]) | (refine boolD (fun h => ?_) (fun h => ?_) <;> try simp (disch := omega) only [go_sem, h]) | (refine boolE (fun h => ?_) (fun h => ?_) <;> try simp (disch := omega) only [go_sem, h]) | (refine boolN (fun h => ?_) (fun h => ?_) <;> try simp (disch := omega) only [go_sem, h]) | (refine boolNB (fun h => ?_) (fun h => ?_) <;> try simp (disch := omega) only [go_sem, h]) | (refine boolB (fun h => ?_) (fun h => ?_) <;> try simp (disch := omega) only [go_sem, h]))
  exact postR_of (.inl rfl) (.tup []) rfl rfl rfl

def bSl (n b : Nat) : List AV → AV
  | [] => .snil n
  | x :: l => .sref n b 0 (l.length + 1)
def bHp (n b : Nat) : List AV → Heap
  | [] => []
  | x :: l => [.row n (x :: l) false true b]

/-! ### Digits of a number -/

/-- The digits of a number, the last one first. -/
def digsR : Nat → Nat → List UInt8
  | 0, _ => []
  | k + 1, n => if n = 0 then [] else UInt8.ofNat (48 + n % 10) :: digsR k (n / 10)
def digs (n : Nat) : List UInt8 := (digsR n n).reverse
theorem digsR_zero : ∀ k, digsR k 0 = []
  | 0 => rfl
  | _ + 1 => rfl
theorem digsR_fuel : ∀ (k j n : Nat), n ≤ k → n ≤ j → digsR k n = digsR j n
  | 0, j, n, h, _ => by
    have : n = 0 := by omega
    subst this
    rw [digsR_zero, digsR_zero]
  | k + 1, 0, n, _, h => by
    have : n = 0 := by omega
    subst this
    rw [digsR_zero, digsR_zero]
  | k + 1, j + 1, n, h, h2 => by
    simp only [digsR]
    split
    · rfl
    · rw [digsR_fuel k j (n / 10) (by omega) (by omega)]
theorem digsR_step {n : Nat} (h : n ≠ 0) : digsR n n = UInt8.ofNat (48 + n % 10) :: digsR (n / 10) (n / 10) := by
  obtain ⟨m, rfl⟩ : ∃ m, n = m + 1 := ⟨n - 1, by omega⟩
  rw [show digsR (m + 1) (m + 1) = if m + 1 = 0 then [] else UInt8.ofNat (48 + (m + 1) % 10) :: digsR m ((m + 1) / 10) from rfl, if_neg h, digsR_fuel m ((m + 1) / 10) ((m + 1) / 10) (by omega) (Nat.le_refl _)]

theorem toDigits_run (n : Nat) (hn : n ≤ 2 ^ 17) : PRun C0 136 [.int .i64 n] (.str (digs n)) := by
  refine prun_of ac136 rfl ?_
  simp (disch := omega) only [go_sem, ac136, enter]
  refine loop_of (α := Nat × List UInt8) (fun a => { tmps := slots 19 [(0, .int .i64 a.1), (3, bSl 1 0 (encB a.2))], heap := bHp 1 0 (encB a.2), base := 0 }) (fun a => a.1 + a.2.length ≤ n ∧ a.2 ++ digsR a.1 a.1 = digsR n n) (fun a => a.1) (n, []) rfl ⟨by simp, rfl⟩ ?_
  rintro ⟨k, m⟩ ⟨hk, hm⟩
  simp only at hk hm ⊢
  by_cases h0 : k = 0
  · subst h0
    rw [digsR_zero, List.append_nil] at hm
    have hd : digs n = m.reverse := by rw [hm]; rfl
    rw [hd]
    cases m with
    | nil =>
      have hr := reverse_nil
      (repeat' first | simp (disch := omega) only [go_sem, encB, bSl, bHp] | (refine call_of _ _ hr ?_) | (refine wantDf (fun h => ?_) (fun h => ?_) <;> try simp (disch := omega) only [go_sem, encB, bSl, bHp , h]) | (refine wantDt (fun h => ?_) (fun h => ?_) <;> try simp (disch := omega) only [go_sem, encB, bSl, bHp , h]) | (refine wantEf (fun h => ?_) (fun h => ?_) <;> try simp (disch := omega) only [go_sem, encB, bSl, bHp , h]) | (refine wantEt (fun h => ?_) (fun h => ?_) <;> try simp (disch := omega) only [go_sem, encB, bSl, bHp , h]) | (refine wantNf (fun h => ?_) (fun h => ?_) <;> try simp (disch := omega) only [go_sem, encB, bSl, bHp , h]) | (refine wantNt (fun h => ?_) (fun h => ?_) <;> try simp (disch := omega) only [go_sem, encB, bSl, bHp , h]) | (refine wantNBf (fun h => ?_) (fun h => ?_) <;> try simp (disch := omega) only [go_sem, encB, bSl, bHp , h]) | (refine wantNBt (fun h => ?_) (fun h => ?_) <;> try simp (disch := omega) only [go_sem, encB, bSl, bHp , h]) | (refine wantBf (fun h => ?_) (fun h => ?_) <;> try simp (disch := omega) only [go_sem, encB, bSl, bHp , h]) | (refine wantBt (fun h => ?_) (fun h => ?_) <;> try simp (disch := omega) only [go_sem, encB, bSl, bHp , h]) | (refine boolD (fun h => ?_) (fun h => ?_) <;> try simp (disch := omega) only [go_sem, encB, bSl, bHp , h]) | (refine boolE (fun h => ?_) (fun h => ?_) <;> try simp (disch := omega) only [go_sem, encB, bSl, bHp , h]) | (refine boolN (fun h => ?_) (fun h => ?_) <;> try simp (disch := omega) only [go_sem, encB, bSl, bHp , h]) | (refine boolNB (fun h => ?_) (fun h => ?_) <;> try simp (disch := omega) only [go_sem, encB, bSl, bHp , h]) | (refine boolB (fun h => ?_) (fun h => ?_) <;> try simp (disch := omega) only [go_sem, encB, bSl, bHp , h]))
      rfl
    | cons c m =>
      have hr := reverse_run (c :: m) (by omega) (by simp)
      simp only [List.length_cons] at hr
      simp only [encB, List.map_cons] at hr
      have hom := omap_encB (c :: m).reverse
      simp only [encB] at hom
      have htk : List.take (m.length + 1) (List.map (fun c => AV.int IntKind.u8 c.toNat) (c :: m).reverse) = List.map (fun c => AV.int IntKind.u8 c.toNat) (c :: m).reverse := List.take_of_length_le (by simp)
      (repeat' first | simp (disch := omega) only [go_sem, encB, bSl, bHp, List.length_map, htk, hom, List.length_reverse] | (refine call_of _ _ hr ?_) | (refine wantDf (fun h => ?_) (fun h => ?_) <;> try simp (disch := omega) only [go_sem, encB, bSl, bHp, List.length_map, htk, hom, List.length_reverse , h]) | (refine wantDt (fun h => ?_) (fun h => ?_) <;> try simp (disch := omega) only [go_sem, encB, bSl, bHp, List.length_map, htk, hom, List.length_reverse , h]) | (refine wantEf (fun h => ?_) (fun h => ?_) <;> try simp (disch := omega) only [go_sem, encB, bSl, bHp, List.length_map, htk, hom, List.length_reverse , h]) | (refine wantEt (fun h => ?_) (fun h => ?_) <;> try simp (disch := omega) only [go_sem, encB, bSl, bHp, List.length_map, htk, hom, List.length_reverse , h]) | (refine wantNf (fun h => ?_) (fun h => ?_) <;> try simp (disch := omega) only [go_sem, encB, bSl, bHp, List.length_map, htk, hom, List.length_reverse , h]) | (refine wantNt (fun h => ?_) (fun h => ?_) <;> try simp (disch := omega) only [go_sem, encB, bSl, bHp, List.length_map, htk, hom, List.length_reverse , h]) | (refine wantNBf (fun h => ?_) (fun h => ?_) <;> try simp (disch := omega) only [go_sem, encB, bSl, bHp, List.length_map, htk, hom, List.length_reverse , h]) | (refine wantNBt (fun h => ?_) (fun h => ?_) <;> try simp (disch := omega) only [go_sem, encB, bSl, bHp, List.length_map, htk, hom, List.length_reverse , h]) | (refine wantBf (fun h => ?_) (fun h => ?_) <;> try simp (disch := omega) only [go_sem, encB, bSl, bHp, List.length_map, htk, hom, List.length_reverse , h]) | (refine wantBt (fun h => ?_) (fun h => ?_) <;> try simp (disch := omega) only [go_sem, encB, bSl, bHp, List.length_map, htk, hom, List.length_reverse , h]) | (refine boolD (fun h => ?_) (fun h => ?_) <;> try simp (disch := omega) only [go_sem, encB, bSl, bHp, List.length_map, htk, hom, List.length_reverse , h]) | (refine boolE (fun h => ?_) (fun h => ?_) <;> try simp (disch := omega) only [go_sem, encB, bSl, bHp, List.length_map, htk, hom, List.length_reverse , h]) | (refine boolN (fun h => ?_) (fun h => ?_) <;> try simp (disch := omega) only [go_sem, encB, bSl, bHp, List.length_map, htk, hom, List.length_reverse , h]) | (refine boolNB (fun h => ?_) (fun h => ?_) <;> try simp (disch := omega) only [go_sem, encB, bSl, bHp, List.length_map, htk, hom, List.length_reverse , h]) | (refine boolB (fun h => ?_) (fun h => ?_) <;> try simp (disch := omega) only [go_sem, encB, bSl, bHp, List.length_map, htk, hom, List.length_reverse , h]))
  · have hmod : (k : Int).tmod 10 = ((k % 10 : Nat) : Int) := by rw [Int.tmod_eq_emod_of_nonneg (by omega)]; omega
    have hdiv : (k : Int).tdiv 10 = ((k / 10 : Nat) : Int) := by rw [Int.tdiv_eq_ediv_of_nonneg (by omega)]; omega
    have hc8 : (48 : Int) + ((k % 10 : Nat) : Int) = ((UInt8.ofNat (48 + k % 10)).toNat : Int) := by
      have : (UInt8.ofNat (48 + k % 10)).toNat = 48 + k % 10 := by
        rw [UInt8.toNat_ofNat']
        omega
      rw [this]
      omega
    have hst := digsR_step h0
    rw [hst] at hm
    have hm2 : (m ++ [UInt8.ofNat (48 + k % 10)]) ++ digsR (k / 10) (k / 10) = digsR n n := by simpa using hm
    cases m with
    | nil =>
      (repeat' first | simp (disch := omega) only [go_sem, encB, bSl, bHp, hmod, hdiv] | (refine wantDf (fun h => ?_) (fun h => ?_) <;> try simp (disch := omega) only [go_sem, encB, bSl, bHp, hmod, hdiv, h]) | (refine wantDt (fun h => ?_) (fun h => ?_) <;> try simp (disch := omega) only [go_sem, encB, bSl, bHp, hmod, hdiv, h]) | (refine wantEf (fun h => ?_) (fun h => ?_) <;> try simp (disch := omega) only [go_sem, encB, bSl, bHp, hmod, hdiv, h]) | (refine wantEt (fun h => ?_) (fun h => ?_) <;> try simp (disch := omega) only [go_sem, encB, bSl, bHp, hmod, hdiv, h]) | (refine wantNf (fun h => ?_) (fun h => ?_) <;> try simp (disch := omega) only [go_sem, encB, bSl, bHp, hmod, hdiv, h]) | (refine wantNt (fun h => ?_) (fun h => ?_) <;> try simp (disch := omega) only [go_sem, encB, bSl, bHp, hmod, hdiv, h]) | (refine wantNBf (fun h => ?_) (fun h => ?_) <;> try simp (disch := omega) only [go_sem, encB, bSl, bHp, hmod, hdiv, h]) | (refine wantNBt (fun h => ?_) (fun h => ?_) <;> try simp (disch := omega) only [go_sem, encB, bSl, bHp, hmod, hdiv, h]) | (refine wantBf (fun h => ?_) (fun h => ?_) <;> try simp (disch := omega) only [go_sem, encB, bSl, bHp, hmod, hdiv, h]) | (refine wantBt (fun h => ?_) (fun h => ?_) <;> try simp (disch := omega) only [go_sem, encB, bSl, bHp, hmod, hdiv, h]) | (refine boolD (fun h => ?_) (fun h => ?_) <;> try simp (disch := omega) only [go_sem, encB, bSl, bHp, hmod, hdiv, h]) | (refine boolE (fun h => ?_) (fun h => ?_) <;> try simp (disch := omega) only [go_sem, encB, bSl, bHp, hmod, hdiv, h]) | (refine boolN (fun h => ?_) (fun h => ?_) <;> try simp (disch := omega) only [go_sem, encB, bSl, bHp, hmod, hdiv, h]) | (refine boolNB (fun h => ?_) (fun h => ?_) <;> try simp (disch := omega) only [go_sem, encB, bSl, bHp, hmod, hdiv, h]) | (refine boolB (fun h => ?_) (fun h => ?_) <;> try simp (disch := omega) only [go_sem, encB, bSl, bHp, hmod, hdiv, h]))
      refine ⟨(k / 10, [UInt8.ofNat (48 + k % 10)]), ?_, ⟨by simp at hk ⊢; omega, hm2⟩, by simp only; omega⟩
      simp only [hc8, List.map_cons, List.map_nil, List.length_nil]
      rfl
    | cons c m =>
      simp only [List.length_cons] at hk
      (repeat' first | simp (disch := omega) only [go_sem, encB, bSl, bHp, hmod, hdiv, List.length_map, Nat.mul_one] | (refine wantDf (fun h => ?_) (fun h => ?_) <;> try simp (disch := omega) only [go_sem, encB, bSl, bHp, hmod, hdiv, List.length_map, Nat.mul_one, h]) | (refine wantDt (fun h => ?_) (fun h => ?_) <;> try simp (disch := omega) only [go_sem, encB, bSl, bHp, hmod, hdiv, List.length_map, Nat.mul_one, h]) | (refine wantEf (fun h => ?_) (fun h => ?_) <;> try simp (disch := omega) only [go_sem, encB, bSl, bHp, hmod, hdiv, List.length_map, Nat.mul_one, h]) | (refine wantEt (fun h => ?_) (fun h => ?_) <;> try simp (disch := omega) only [go_sem, encB, bSl, bHp, hmod, hdiv, List.length_map, Nat.mul_one, h]) | (refine wantNf (fun h => ?_) (fun h => ?_) <;> try simp (disch := omega) only [go_sem, encB, bSl, bHp, hmod, hdiv, List.length_map, Nat.mul_one, h]) | (refine wantNt (fun h => ?_) (fun h => ?_) <;> try simp (disch := omega) only [go_sem, encB, bSl, bHp, hmod, hdiv, List.length_map, Nat.mul_one, h]) | (refine wantNBf (fun h => ?_) (fun h => ?_) <;> try simp (disch := omega) only [go_sem, encB, bSl, bHp, hmod, hdiv, List.length_map, Nat.mul_one, h]) | (refine wantNBt (fun h => ?_) (fun h => ?_) <;> try simp (disch := omega) only [go_sem, encB, bSl, bHp, hmod, hdiv, List.length_map, Nat.mul_one, h]) | (refine wantBf (fun h => ?_) (fun h => ?_) <;> try simp (disch := omega) only [go_sem, encB, bSl, bHp, hmod, hdiv, List.length_map, Nat.mul_one, h]) | (refine wantBt (fun h => ?_) (fun h => ?_) <;> try simp (disch := omega) only [go_sem, encB, bSl, bHp, hmod, hdiv, List.length_map, Nat.mul_one, h]) | (refine boolD (fun h => ?_) (fun h => ?_) <;> try simp (disch := omega) only [go_sem, encB, bSl, bHp, hmod, hdiv, List.length_map, Nat.mul_one, h]) | (refine boolE (fun h => ?_) (fun h => ?_) <;> try simp (disch := omega) only [go_sem, encB, bSl, bHp, hmod, hdiv, List.length_map, Nat.mul_one, h]) | (refine boolN (fun h => ?_) (fun h => ?_) <;> try simp (disch := omega) only [go_sem, encB, bSl, bHp, hmod, hdiv, List.length_map, Nat.mul_one, h]) | (refine boolNB (fun h => ?_) (fun h => ?_) <;> try simp (disch := omega) only [go_sem, encB, bSl, bHp, hmod, hdiv, List.length_map, Nat.mul_one, h]) | (refine boolB (fun h => ?_) (fun h => ?_) <;> try simp (disch := omega) only [go_sem, encB, bSl, bHp, hmod, hdiv, List.length_map, Nat.mul_one, h]))
      refine ⟨(k / 10, (c :: m) ++ [UInt8.ofNat (48 + k % 10)]), ?_, ⟨by simp at hk ⊢; omega, hm2⟩, by simp only; omega⟩
      simp only [hc8, List.map_cons, List.map_nil, List.cons_append, List.map_append, List.length_append, List.length_map, List.length_cons, List.length_nil]
      rfl

/-! ### Noughts at the end -/

theorem zeros_eq {s : List UInt8} {k : Nat} (hk : k ≤ s.length) (hd : (s.reverse.take k).all (· == 48) = true) (h : k < s.length → ∃ c, s.reverse[k]? = some c ∧ c ≠ 48) : zeros s = k := by
  unfold zeros
  have key : ∀ (l : List UInt8) (k : Nat), (l.take k).all (· == 48) = true → (k < l.length → ∃ c, l[k]? = some c ∧ c ≠ 48) → k ≤ l.length → (l.takeWhile (· == 48)).length = k := by
    intro l
    induction l with
    | nil => intro k _ _ hk; simp at hk; simp [hk]
    | cons x l ih =>
      intro k h1 h2 h3
      cases k with
      | zero =>
        obtain ⟨c, h4, h5⟩ := h2 (by simp)
        simp at h4
        subst h4
        rw [List.takeWhile_cons_of_neg (by simpa using h5)]
        rfl
      | succ k =>
        simp only [List.take_succ_cons, List.all_cons, Bool.and_eq_true] at h1
        rw [List.takeWhile_cons_of_pos (by simpa using h1.1)]
        simp only [List.length_cons, Nat.add_right_cancel_iff]
        exact ih k h1.2 (fun h => by simpa using h2 (by simpa using h)) (by simpa using h3)
  exact key s.reverse k hd (fun h2 => h (by simpa using h2)) (by simpa using hk)
theorem zeros_le (s : List UInt8) : zeros s ≤ s.length := by
  unfold zeros
  have := (List.takeWhile_sublist (fun x => x == (48 : UInt8)) (l := s.reverse)).length_le
  simpa using this

theorem trimByte_run (s : List UInt8) (hs : s.length < 2 ^ 31) : PRun C0 155 [.str s, .int .u8 48] (.str (s.take (s.length - zeros s))) := by
  refine prun_of ac155 rfl ?_
  simp (disch := omega) only [go_sem, ac155, enter]
  refine loop_of (α := Nat) (fun k => { tmps := slots 23 [(0, .str (s.take (s.length - k))), (1, .int .u8 48)], heap := [], base := 0 }) (fun k => k ≤ s.length ∧ (s.reverse.take k).all (· == 48) = true) (fun k => s.length - k) 0 (by rw [Nat.sub_zero, List.take_length]; rfl) ⟨Nat.zero_le _, rfl⟩ ?_
  rintro k ⟨hk, hd⟩
  have hlen : (s.take (s.length - k)).length = s.length - k := by simp
  by_cases hlt : k < s.length
  · obtain ⟨c, hc⟩ := get_some (s := s) (k := s.length - 1 - k) (by omega)
    have e : (((s.length - k : Nat) : Int) - 1).toNat = s.length - 1 - k := by omega
    have hc2 : (s.take (s.length - k))[s.length - 1 - k]? = some c := by rw [List.getElem?_take_of_lt (by omega)]; exact hc
    have hr : s.reverse[k]? = some c := by rw [List.getElem?_reverse hlt, ← hc]
    have htt : List.take (s.length - 1 - k) (s.take (s.length - k)) = s.take (s.length - (k + 1)) := by rw [List.take_take]; congr 1; omega
    by_cases h48 : c = 48
    · have h48i : (c.toNat : Int) = 48 := (zero48 c).2 h48
      (repeat' first | simp (disch := omega) only [go_sem, hlen, e, hc2, h48i, htt] | (refine wantDf (fun h => ?_) (fun h => ?_) <;> try simp (disch := omega) only [go_sem, hlen, e, hc2, h48i, htt, h]) | (refine wantDt (fun h => ?_) (fun h => ?_) <;> try simp (disch := omega) only [go_sem, hlen, e, hc2, h48i, htt, h]) | (refine wantEf (fun h => ?_) (fun h => ?_) <;> try simp (disch := omega) only [go_sem, hlen, e, hc2, h48i, htt, h]) | (refine wantEt (fun h => ?_) (fun h => ?_) <;> try simp (disch := omega) only [go_sem, hlen, e, hc2, h48i, htt, h]) | (refine wantNf (fun h => ?_) (fun h => ?_) <;> try simp (disch := omega) only [go_sem, hlen, e, hc2, h48i, htt, h]) | (refine wantNt (fun h => ?_) (fun h => ?_) <;> try simp (disch := omega) only [go_sem, hlen, e, hc2, h48i, htt, h]) | (refine wantNBf (fun h => ?_) (fun h => ?_) <;> try simp (disch := omega) only [go_sem, hlen, e, hc2, h48i, htt, h]) | (refine wantNBt (fun h => ?_) (fun h => ?_) <;> try simp (disch := omega) only [go_sem, hlen, e, hc2, h48i, htt, h]) | (refine wantBf (fun h => ?_) (fun h => ?_) <;> try simp (disch := omega) only [go_sem, hlen, e, hc2, h48i, htt, h]) | (refine wantBt (fun h => ?_) (fun h => ?_) <;> try simp (disch := omega) only [go_sem, hlen, e, hc2, h48i, htt, h]) | (refine boolD (fun h => ?_) (fun h => ?_) <;> try simp (disch := omega) only [go_sem, hlen, e, hc2, h48i, htt, h]) | (refine boolE (fun h => ?_) (fun h => ?_) <;> try simp (disch := omega) only [go_sem, hlen, e, hc2, h48i, htt, h]) | (refine boolN (fun h => ?_) (fun h => ?_) <;> try simp (disch := omega) only [go_sem, hlen, e, hc2, h48i, htt, h]) | (refine boolNB (fun h => ?_) (fun h => ?_) <;> try simp (disch := omega) only [go_sem, hlen, e, hc2, h48i, htt, h]) | (refine boolB (fun h => ?_) (fun h => ?_) <;> try simp (disch := omega) only [go_sem, hlen, e, hc2, h48i, htt, h]))
      refine ⟨k + 1, rfl, ⟨hlt, take_succ_all hr hd (by simpa using h48)⟩, by omega⟩
    · have h48i : ¬ (c.toNat : Int) = 48 := fun e => h48 ((zero48 c).1 e)
      rw [zeros_eq hk hd (fun _ => ⟨c, hr, h48⟩)]
      (repeat' first | simp (disch := omega) only [go_sem, hlen, e, hc2, h48i, htt] | (refine wantDf (fun h => ?_) (fun h => ?_) <;> try simp (disch := omega) only [go_sem, hlen, e, hc2, h48i, htt, h]) | (refine wantDt (fun h => ?_) (fun h => ?_) <;> try simp (disch := omega) only [go_sem, hlen, e, hc2, h48i, htt, h]) | (refine wantEf (fun h => ?_) (fun h => ?_) <;> try simp (disch := omega) only [go_sem, hlen, e, hc2, h48i, htt, h]) | (refine wantEt (fun h => ?_) (fun h => ?_) <;> try simp (disch := omega) only [go_sem, hlen, e, hc2, h48i, htt, h]) | (refine wantNf (fun h => ?_) (fun h => ?_) <;> try simp (disch := omega) only [go_sem, hlen, e, hc2, h48i, htt, h]) | (refine wantNt (fun h => ?_) (fun h => ?_) <;> try simp (disch := omega) only [go_sem, hlen, e, hc2, h48i, htt, h]) | (refine wantNBf (fun h => ?_) (fun h => ?_) <;> try simp (disch := omega) only [go_sem, hlen, e, hc2, h48i, htt, h]) | (refine wantNBt (fun h => ?_) (fun h => ?_) <;> try simp (disch := omega) only [go_sem, hlen, e, hc2, h48i, htt, h]) | (refine wantBf (fun h => ?_) (fun h => ?_) <;> try simp (disch := omega) only [go_sem, hlen, e, hc2, h48i, htt, h]) | (refine wantBt (fun h => ?_) (fun h => ?_) <;> try simp (disch := omega) only [go_sem, hlen, e, hc2, h48i, htt, h]) | (refine boolD (fun h => ?_) (fun h => ?_) <;> try simp (disch := omega) only [go_sem, hlen, e, hc2, h48i, htt, h]) | (refine boolE (fun h => ?_) (fun h => ?_) <;> try simp (disch := omega) only [go_sem, hlen, e, hc2, h48i, htt, h]) | (refine boolN (fun h => ?_) (fun h => ?_) <;> try simp (disch := omega) only [go_sem, hlen, e, hc2, h48i, htt, h]) | (refine boolNB (fun h => ?_) (fun h => ?_) <;> try simp (disch := omega) only [go_sem, hlen, e, hc2, h48i, htt, h]) | (refine boolB (fun h => ?_) (fun h => ?_) <;> try simp (disch := omega) only [go_sem, hlen, e, hc2, h48i, htt, h]))
  · rw [zeros_eq hk hd (fun h => absurd h hlt)]
    (repeat' first | simp (disch := omega) only [go_sem, hlen] | (refine wantDf (fun h => ?_) (fun h => ?_) <;> try simp (disch := omega) only [go_sem, hlen, h]) | (refine wantDt (fun h => ?_) (fun h => ?_) <;> try simp (disch := omega) only [go_sem, hlen, h]) | (refine wantEf (fun h => ?_) (fun h => ?_) <;> try simp (disch := omega) only [go_sem, hlen, h]) | (refine wantEt (fun h => ?_) (fun h => ?_) <;> try simp (disch := omega) only [go_sem, hlen, h]) | (refine wantNf (fun h => ?_) (fun h => ?_) <;> try simp (disch := omega) only [go_sem, hlen, h]) | (refine wantNt (fun h => ?_) (fun h => ?_) <;> try simp (disch := omega) only [go_sem, hlen, h]) | (refine wantNBf (fun h => ?_) (fun h => ?_) <;> try simp (disch := omega) only [go_sem, hlen, h]) | (refine wantNBt (fun h => ?_) (fun h => ?_) <;> try simp (disch := omega) only [go_sem, hlen, h]) | (refine wantBf (fun h => ?_) (fun h => ?_) <;> try simp (disch := omega) only [go_sem, hlen, h]) | (refine wantBt (fun h => ?_) (fun h => ?_) <;> try simp (disch := omega) only [go_sem, hlen, h]) | (refine boolD (fun h => ?_) (fun h => ?_) <;> try simp (disch := omega) only [go_sem, hlen, h]) | (refine boolE (fun h => ?_) (fun h => ?_) <;> try simp (disch := omega) only [go_sem, hlen, h]) | (refine boolN (fun h => ?_) (fun h => ?_) <;> try simp (disch := omega) only [go_sem, hlen, h]) | (refine boolNB (fun h => ?_) (fun h => ?_) <;> try simp (disch := omega) only [go_sem, hlen, h]) | (refine boolB (fun h => ?_) (fun h => ?_) <;> try simp (disch := omega) only [go_sem, hlen, h]))

theorem trimRight_run (s : List UInt8) (hs : s.length < 2 ^ 31) : PRun C0 148 [.str s, .str [48]] (.str (s.take (s.length - zeros s))) := by
  refine prun_of ac148 rfl ?_
  by_cases h0 : s = []
  · subst h0
    (repeat' first | simp (disch := omega) only [go_sem, ac148, enter] | (refine wantDf (fun h => ?_) (fun h => ?_) <;> try simp (disch := omega) only [go_sem, ac148, enter, h]) | (refine wantDt (fun h => ?_) (fun h => ?_) <;> try simp (disch := omega) only [go_sem, ac148, enter, h]) | (refine wantEf (fun h => ?_) (fun h => ?_) <;> try simp (disch := omega) only [go_sem, ac148, enter, h]) | (refine wantEt (fun h => ?_) (fun h => ?_) <;> try simp (disch := omega) only [go_sem, ac148, enter, h]) | (refine wantNf (fun h => ?_) (fun h => ?_) <;> try simp (disch := omega) only [go_sem, ac148, enter, h]) | (refine wantNt (fun h => ?_) (fun h => ?_) <;> try simp (disch := omega) only [go_sem, ac148, enter, h]) | (refine wantNBf (fun h => ?_) (fun h => ?_) <;> try simp (disch := omega) only [go_sem, ac148, enter, h]) | (refine wantNBt (fun h => ?_) (fun h => ?_) <;> try simp (disch := omega) only [go_sem, ac148, enter, h]) | (refine wantBf (fun h => ?_) (fun h => ?_) <;> try simp (disch := omega) only [go_sem, ac148, enter, h]) | (refine wantBt (fun h => ?_) (fun h => ?_) <;> try simp (disch := omega) only [go_sem, ac148, enter, h]) | (refine boolD (fun h => ?_) (fun h => ?_) <;> try simp (disch := omega) only [go_sem, ac148, enter, h]) | (refine boolE (fun h => ?_) (fun h => ?_) <;> try simp (disch := omega) only [go_sem, ac148, enter, h]) | (refine boolN (fun h => ?_) (fun h => ?_) <;> try simp (disch := omega) only [go_sem, ac148, enter, h]) | (refine boolNB (fun h => ?_) (fun h => ?_) <;> try simp (disch := omega) only [go_sem, ac148, enter, h]) | (refine boolB (fun h => ?_) (fun h => ?_) <;> try simp (disch := omega) only [go_sem, ac148, enter, h]))
    all_goals rfl
  · have hb : (s == ([] : List UInt8)) = false := by simp [h0]
    have hr := trimByte_run s hs
    have e48 : ((UInt8.toNat 48 : Nat) : Int) = 48 := rfl
    have en : (([48] : List UInt8) == []) = false := rfl
    (repeat' first | simp (disch := omega) only [go_sem, ac148, enter, hb, e48, en] | refine pure_of _ (hr) ?_ | (refine wantDf (fun h => ?_) (fun h => ?_) <;> try simp (disch := omega) only [go_sem, ac148, enter, hb, e48, en , h]) | (refine wantDt (fun h => ?_) (fun h => ?_) <;> try simp (disch := omega) only [go_sem, ac148, enter, hb, e48, en , h]) | (refine wantEf (fun h => ?_) (fun h => ?_) <;> try simp (disch := omega) only [go_sem, ac148, enter, hb, e48, en , h]) | (refine wantEt (fun h => ?_) (fun h => ?_) <;> try simp (disch := omega) only [go_sem, ac148, enter, hb, e48, en , h]) | (refine wantNf (fun h => ?_) (fun h => ?_) <;> try simp (disch := omega) only [go_sem, ac148, enter, hb, e48, en , h]) | (refine wantNt (fun h => ?_) (fun h => ?_) <;> try simp (disch := omega) only [go_sem, ac148, enter, hb, e48, en , h]) | (refine wantNBf (fun h => ?_) (fun h => ?_) <;> try simp (disch := omega) only [go_sem, ac148, enter, hb, e48, en , h]) | (refine wantNBt (fun h => ?_) (fun h => ?_) <;> try simp (disch := omega) only [go_sem, ac148, enter, hb, e48, en , h]) | (refine wantBf (fun h => ?_) (fun h => ?_) <;> try simp (disch := omega) only [go_sem, ac148, enter, hb, e48, en , h]) | (refine wantBt (fun h => ?_) (fun h => ?_) <;> try simp (disch := omega) only [go_sem, ac148, enter, hb, e48, en , h]) | (refine boolD (fun h => ?_) (fun h => ?_) <;> try simp (disch := omega) only [go_sem, ac148, enter, hb, e48, en , h]) | (refine boolE (fun h => ?_) (fun h => ?_) <;> try simp (disch := omega) only [go_sem, ac148, enter, hb, e48, en , h]) | (refine boolN (fun h => ?_) (fun h => ?_) <;> try simp (disch := omega) only [go_sem, ac148, enter, hb, e48, en , h]) | (refine boolNB (fun h => ?_) (fun h => ?_) <;> try simp (disch := omega) only [go_sem, ac148, enter, hb, e48, en , h]) | (refine boolB (fun h => ?_) (fun h => ?_) <;> try simp (disch := omega) only [go_sem, ac148, enter, hb, e48, en , h]))
end Ago
/- Whole numbers, texts and paths as values. -/
set_option linter.unusedSimpArgs false
set_option linter.unusedVariables false
set_option maxRecDepth 100000
set_option maxHeartbeats 4000000
namespace Ago
open Go (IntKind)

/-- norm, of few digits. -/
def normD (s : List UInt8) : Dec := if s = [] then ⟨false, [], 0⟩ else ⟨false, s.take (s.length - zeros s), zeros s⟩
theorem norm_run (s : List UInt8) (hs : s.length ≤ 100) : PRun C0 138 [.bool false, .str s, .int .i64 0] (.tup [encDec (normD s), .int .i64 0]) := by
  refine prun_of ac138 rfl ?_
  unfold normD encDec
  by_cases h0 : s = []
  · subst h0
    (repeat' first | simp (disch := omega) only [go_sem, ac138, enter] | (refine wantDf (fun h => ?_) (fun h => ?_) <;> try simp (disch := omega) only [go_sem, ac138, enter, h]) | (refine wantDt (fun h => ?_) (fun h => ?_) <;> try simp (disch := omega) only [go_sem, ac138, enter, h]) | (refine wantEf (fun h => ?_) (fun h => ?_) <;> try simp (disch := omega) only [go_sem, ac138, enter, h]) | (refine wantEt (fun h => ?_) (fun h => ?_) <;> try simp (disch := omega) only [go_sem, ac138, enter, h]) | (refine wantNf (fun h => ?_) (fun h => ?_) <;> try simp (disch := omega) only [go_sem, ac138, enter, h]) | (refine wantNt (fun h => ?_) (fun h => ?_) <;> try simp (disch := omega) only [go_sem, ac138, enter, h]) | (refine wantNBf (fun h => ?_) (fun h => ?_) <;> try simp (disch := omega) only [go_sem, ac138, enter, h]) | (refine wantNBt (fun h => ?_) (fun h => ?_) <;> try simp (disch := omega) only [go_sem, ac138, enter, h]) | (refine wantBf (fun h => ?_) (fun h => ?_) <;> try simp (disch := omega) only [go_sem, ac138, enter, h]) | (refine wantBt (fun h => ?_) (fun h => ?_) <;> try simp (disch := omega) only [go_sem, ac138, enter, h]) | (refine boolD (fun h => ?_) (fun h => ?_) <;> try simp (disch := omega) only [go_sem, ac138, enter, h]) | (refine boolE (fun h => ?_) (fun h => ?_) <;> try simp (disch := omega) only [go_sem, ac138, enter, h]) | (refine boolN (fun h => ?_) (fun h => ?_) <;> try simp (disch := omega) only [go_sem, ac138, enter, h]) | (refine boolNB (fun h => ?_) (fun h => ?_) <;> try simp (disch := omega) only [go_sem, ac138, enter, h]) | (refine boolB (fun h => ?_) (fun h => ?_) <;> try simp (disch := omega) only [go_sem, ac138, enter, h]))
  · have hb : (s == ([] : List UInt8)) = false := by simp [h0]
    have hr := trimRight_run s (by omega)
    have hz := zeros_le s
    have hlen : (s.take (s.length - zeros s)).length = s.length - zeros s := by simp
    have e1 : ((s.length : Int) - ((s.length - zeros s : Nat) : Int)) = zeros s := by omega
    have e2 : ((s.length : Int) - (zeros s : Int)).toNat = s.length - zeros s := by omega
    rw [if_neg h0]
    (repeat' first | simp (disch := omega) only [go_sem, ac138, enter, hb, hlen, e1, e2] | refine pure_of _ (hr) ?_ | (refine wantDf (fun h => ?_) (fun h => ?_) <;> try simp (disch := omega) only [go_sem, ac138, enter, hb, hlen, e1, e2 , h]) | (refine wantDt (fun h => ?_) (fun h => ?_) <;> try simp (disch := omega) only [go_sem, ac138, enter, hb, hlen, e1, e2 , h]) | (refine wantEf (fun h => ?_) (fun h => ?_) <;> try simp (disch := omega) only [go_sem, ac138, enter, hb, hlen, e1, e2 , h]) | (refine wantEt (fun h => ?_) (fun h => ?_) <;> try simp (disch := omega) only [go_sem, ac138, enter, hb, hlen, e1, e2 , h]) | (refine wantNf (fun h => ?_) (fun h => ?_) <;> try simp (disch := omega) only [go_sem, ac138, enter, hb, hlen, e1, e2 , h]) | (refine wantNt (fun h => ?_) (fun h => ?_) <;> try simp (disch := omega) only [go_sem, ac138, enter, hb, hlen, e1, e2 , h]) | (refine wantNBf (fun h => ?_) (fun h => ?_) <;> try simp (disch := omega) only [go_sem, ac138, enter, hb, hlen, e1, e2 , h]) | (refine wantNBt (fun h => ?_) (fun h => ?_) <;> try simp (disch := omega) only [go_sem, ac138, enter, hb, hlen, e1, e2 , h]) | (refine wantBf (fun h => ?_) (fun h => ?_) <;> try simp (disch := omega) only [go_sem, ac138, enter, hb, hlen, e1, e2 , h]) | (refine wantBt (fun h => ?_) (fun h => ?_) <;> try simp (disch := omega) only [go_sem, ac138, enter, hb, hlen, e1, e2 , h]) | (refine boolD (fun h => ?_) (fun h => ?_) <;> try simp (disch := omega) only [go_sem, ac138, enter, hb, hlen, e1, e2 , h]) | (refine boolE (fun h => ?_) (fun h => ?_) <;> try simp (disch := omega) only [go_sem, ac138, enter, hb, hlen, e1, e2 , h]) | (refine boolN (fun h => ?_) (fun h => ?_) <;> try simp (disch := omega) only [go_sem, ac138, enter, hb, hlen, e1, e2 , h]) | (refine boolNB (fun h => ?_) (fun h => ?_) <;> try simp (disch := omega) only [go_sem, ac138, enter, hb, hlen, e1, e2 , h]) | (refine boolB (fun h => ?_) (fun h => ?_) <;> try simp (disch := omega) only [go_sem, ac138, enter, hb, hlen, e1, e2 , h]))
    rw [Int.zero_add]

theorem digsR_nil {n : Nat} : digsR n n = [] ↔ n = 0 := by
  constructor
  · intro h
    by_cases h0 : n = 0
    · exact h0
    · rw [digsR_step h0] at h
      cases h
  · rintro rfl
    rfl
theorem digsR_len : ∀ (k n : Nat), n < 10 ^ k → (digsR n n).length ≤ k
  | 0, n, h => by
    have : n = 0 := by omega
    subst this
    simp [digsR]
  | k + 1, n, h => by
    by_cases h0 : n = 0
    · subst h0
      simp [digsR]
    · rw [digsR_step h0]
      have := digsR_len k (n / 10) (by rw [Nat.pow_succ] at h; omega)
      simp
      omega
theorem digs_len {n : Nat} (h : n ≤ 65536) : (digs n).length ≤ 5 := by
  unfold digs
  rw [List.length_reverse]
  exact digsR_len 5 n (by omega)

def numD (n : Nat) : Dec := normD (digs n)
theorem fromInt_run (n : Nat) (hn : n ≤ 65536) : PRun C0 129 [.int .i64 n] (encDec (numD n)) := by
  refine prun_of ac129 rfl ?_
  have h1 := toDigits_run n (by omega)
  have h2 := norm_run (digs n) (by have := digs_len hn; omega)
  unfold numD
  unfold encDec at *
  (repeat' first | simp (disch := omega) only [go_sem, ac129, enter] | refine pure_of _ (h1) ?_ | refine pure_of _ (h2) ?_ | (refine wantDf (fun h => ?_) (fun h => ?_) <;> try simp (disch := omega) only [go_sem, ac129, enter , h]) | (refine wantDt (fun h => ?_) (fun h => ?_) <;> try simp (disch := omega) only [go_sem, ac129, enter , h]) | (refine wantEf (fun h => ?_) (fun h => ?_) <;> try simp (disch := omega) only [go_sem, ac129, enter , h]) | (refine wantEt (fun h => ?_) (fun h => ?_) <;> try simp (disch := omega) only [go_sem, ac129, enter , h]) | (refine wantNf (fun h => ?_) (fun h => ?_) <;> try simp (disch := omega) only [go_sem, ac129, enter , h]) | (refine wantNt (fun h => ?_) (fun h => ?_) <;> try simp (disch := omega) only [go_sem, ac129, enter , h]) | (refine wantNBf (fun h => ?_) (fun h => ?_) <;> try simp (disch := omega) only [go_sem, ac129, enter , h]) | (refine wantNBt (fun h => ?_) (fun h => ?_) <;> try simp (disch := omega) only [go_sem, ac129, enter , h]) | (refine wantBf (fun h => ?_) (fun h => ?_) <;> try simp (disch := omega) only [go_sem, ac129, enter , h]) | (refine wantBt (fun h => ?_) (fun h => ?_) <;> try simp (disch := omega) only [go_sem, ac129, enter , h]) | (refine boolD (fun h => ?_) (fun h => ?_) <;> try simp (disch := omega) only [go_sem, ac129, enter , h]) | (refine boolE (fun h => ?_) (fun h => ?_) <;> try simp (disch := omega) only [go_sem, ac129, enter , h]) | (refine boolN (fun h => ?_) (fun h => ?_) <;> try simp (disch := omega) only [go_sem, ac129, enter , h]) | (refine boolNB (fun h => ?_) (fun h => ?_) <;> try simp (disch := omega) only [go_sem, ac129, enter , h]) | (refine boolB (fun h => ?_) (fun h => ?_) <;> try simp (disch := omega) only [go_sem, ac129, enter , h]))

def numV (d : Dec) : V := .mk ⟨2, false, d, ⟨0, 0, 0, 0⟩, [], []⟩ [] []
def textV (s : List UInt8) : V := .mk ⟨4, false, ⟨false, [], 0⟩, ⟨0, 0, 0, 0⟩, s, []⟩ [] []
theorem num_run (d : Dec) : PRun C0 128 [encDec d] (encV (numV d)) := by
  refine prun_of ac128 rfl ?_
  rw [encV_eq]
  unfold encDec
  (repeat' first | simp (disch := omega) only [go_sem, ac128, enter] | (refine wantDf (fun h => ?_) (fun h => ?_) <;> try simp (disch := omega) only [go_sem, ac128, enter, h]) | (refine wantDt (fun h => ?_) (fun h => ?_) <;> try simp (disch := omega) only [go_sem, ac128, enter, h]) | (refine wantEf (fun h => ?_) (fun h => ?_) <;> try simp (disch := omega) only [go_sem, ac128, enter, h]) | (refine wantEt (fun h => ?_) (fun h => ?_) <;> try simp (disch := omega) only [go_sem, ac128, enter, h]) | (refine wantNf (fun h => ?_) (fun h => ?_) <;> try simp (disch := omega) only [go_sem, ac128, enter, h]) | (refine wantNt (fun h => ?_) (fun h => ?_) <;> try simp (disch := omega) only [go_sem, ac128, enter, h]) | (refine wantNBf (fun h => ?_) (fun h => ?_) <;> try simp (disch := omega) only [go_sem, ac128, enter, h]) | (refine wantNBt (fun h => ?_) (fun h => ?_) <;> try simp (disch := omega) only [go_sem, ac128, enter, h]) | (refine wantBf (fun h => ?_) (fun h => ?_) <;> try simp (disch := omega) only [go_sem, ac128, enter, h]) | (refine wantBt (fun h => ?_) (fun h => ?_) <;> try simp (disch := omega) only [go_sem, ac128, enter, h]) | (refine boolD (fun h => ?_) (fun h => ?_) <;> try simp (disch := omega) only [go_sem, ac128, enter, h]) | (refine boolE (fun h => ?_) (fun h => ?_) <;> try simp (disch := omega) only [go_sem, ac128, enter, h]) | (refine boolN (fun h => ?_) (fun h => ?_) <;> try simp (disch := omega) only [go_sem, ac128, enter, h]) | (refine boolNB (fun h => ?_) (fun h => ?_) <;> try simp (disch := omega) only [go_sem, ac128, enter, h]) | (refine boolB (fun h => ?_) (fun h => ?_) <;> try simp (disch := omega) only [go_sem, ac128, enter, h]))
  all_goals rfl
theorem int_run (n : Nat) (hn : n ≤ 65536) : PRun C0 123 [.int .i64 n] (encV (numV (numD n))) := by
  refine prun_of ac123 rfl ?_
  have h1 := fromInt_run n hn
  have h2 := num_run (numD n)
  rw [encV_eq] at *
  unfold encDec at *
  (repeat' first | simp (disch := omega) only [go_sem, ac123, enter] | refine pure_of _ (h1) ?_ | refine pure_of _ (h2) ?_ | (refine wantDf (fun h => ?_) (fun h => ?_) <;> try simp (disch := omega) only [go_sem, ac123, enter , h]) | (refine wantDt (fun h => ?_) (fun h => ?_) <;> try simp (disch := omega) only [go_sem, ac123, enter , h]) | (refine wantEf (fun h => ?_) (fun h => ?_) <;> try simp (disch := omega) only [go_sem, ac123, enter , h]) | (refine wantEt (fun h => ?_) (fun h => ?_) <;> try simp (disch := omega) only [go_sem, ac123, enter , h]) | (refine wantNf (fun h => ?_) (fun h => ?_) <;> try simp (disch := omega) only [go_sem, ac123, enter , h]) | (refine wantNt (fun h => ?_) (fun h => ?_) <;> try simp (disch := omega) only [go_sem, ac123, enter , h]) | (refine wantNBf (fun h => ?_) (fun h => ?_) <;> try simp (disch := omega) only [go_sem, ac123, enter , h]) | (refine wantNBt (fun h => ?_) (fun h => ?_) <;> try simp (disch := omega) only [go_sem, ac123, enter , h]) | (refine wantBf (fun h => ?_) (fun h => ?_) <;> try simp (disch := omega) only [go_sem, ac123, enter , h]) | (refine wantBt (fun h => ?_) (fun h => ?_) <;> try simp (disch := omega) only [go_sem, ac123, enter , h]) | (refine boolD (fun h => ?_) (fun h => ?_) <;> try simp (disch := omega) only [go_sem, ac123, enter , h]) | (refine boolE (fun h => ?_) (fun h => ?_) <;> try simp (disch := omega) only [go_sem, ac123, enter , h]) | (refine boolN (fun h => ?_) (fun h => ?_) <;> try simp (disch := omega) only [go_sem, ac123, enter , h]) | (refine boolNB (fun h => ?_) (fun h => ?_) <;> try simp (disch := omega) only [go_sem, ac123, enter , h]) | (refine boolB (fun h => ?_) (fun h => ?_) <;> try simp (disch := omega) only [go_sem, ac123, enter , h]))
  all_goals rfl
theorem text_run (s : List UInt8) : PRun C0 124 [.str s] (encV (textV s)) := by
  refine prun_of ac124 rfl ?_
  rw [encV_eq]
  (repeat' first | simp (disch := omega) only [go_sem, ac124, enter] | (refine wantDf (fun h => ?_) (fun h => ?_) <;> try simp (disch := omega) only [go_sem, ac124, enter, h]) | (refine wantDt (fun h => ?_) (fun h => ?_) <;> try simp (disch := omega) only [go_sem, ac124, enter, h]) | (refine wantEf (fun h => ?_) (fun h => ?_) <;> try simp (disch := omega) only [go_sem, ac124, enter, h]) | (refine wantEt (fun h => ?_) (fun h => ?_) <;> try simp (disch := omega) only [go_sem, ac124, enter, h]) | (refine wantNf (fun h => ?_) (fun h => ?_) <;> try simp (disch := omega) only [go_sem, ac124, enter, h]) | (refine wantNt (fun h => ?_) (fun h => ?_) <;> try simp (disch := omega) only [go_sem, ac124, enter, h]) | (refine wantNBf (fun h => ?_) (fun h => ?_) <;> try simp (disch := omega) only [go_sem, ac124, enter, h]) | (refine wantNBt (fun h => ?_) (fun h => ?_) <;> try simp (disch := omega) only [go_sem, ac124, enter, h]) | (refine wantBf (fun h => ?_) (fun h => ?_) <;> try simp (disch := omega) only [go_sem, ac124, enter, h]) | (refine wantBt (fun h => ?_) (fun h => ?_) <;> try simp (disch := omega) only [go_sem, ac124, enter, h]) | (refine boolD (fun h => ?_) (fun h => ?_) <;> try simp (disch := omega) only [go_sem, ac124, enter, h]) | (refine boolE (fun h => ?_) (fun h => ?_) <;> try simp (disch := omega) only [go_sem, ac124, enter, h]) | (refine boolN (fun h => ?_) (fun h => ?_) <;> try simp (disch := omega) only [go_sem, ac124, enter, h]) | (refine boolNB (fun h => ?_) (fun h => ?_) <;> try simp (disch := omega) only [go_sem, ac124, enter, h]) | (refine boolB (fun h => ?_) (fun h => ?_) <;> try simp (disch := omega) only [go_sem, ac124, enter, h]))
  all_goals rfl

/-- What Value makes of a step. -/
def stepV (s : Stp) : V := if s.byIndex then numV (numD s.index.toNat) else textV s.key
def pathV (p : List Stp) : V := .mk ⟨6, false, ⟨false, [], 0⟩, ⟨0, 0, 0, 0⟩, [], []⟩ (p.map stepV) []
theorem numV_enc (d : Dec) : encV (numV d) = .agg [.int .i64 2, .bool false, .bool d.neg, .str d.digits, .int .i64 d.exp, .int .i64 0, .int .i64 0, .int .i64 0, .int .i64 0, .str [], .tsl 1 [], .tsl 13 [], .tsl 14 []] := by
  rw [encV_eq]
  rfl
theorem textV_enc (s : List UInt8) : encV (textV s) = .agg [.int .i64 4, .bool false, .bool false, .str [], .int .i64 0, .int .i64 0, .int .i64 0, .int .i64 0, .int .i64 0, .str s, .tsl 1 [], .tsl 13 [], .tsl 14 []] := by
  rw [encV_eq]
  rfl
theorem pathV_enc (p : List Stp) : encV (pathV p) = .agg [.int .i64 6, .bool false, .bool false, .str [], .int .i64 0, .int .i64 0, .int .i64 0, .int .i64 0, .int .i64 0, .str [], .tsl 1 [], .tsl 13 (p.map fun x => encV (stepV x)), .tsl 14 []] := by
  rw [encV_eq]
  have : (pathV p).l.map encV = p.map fun x => encV (stepV x) := by simp [pathV, V.l]
  rw [this]
  rfl
def listS (x : AV) : AV := .agg [.int .i64 6, .bool false, .bool false, .str [], .int .i64 0, .int .i64 0, .int .i64 0, .int .i64 0, .int .i64 0, .str [], .snil 1, x, .snil 14]
theorem value_run (p : List Stp) (hl : p.length < 2 ^ 20) (hp : ∀ s, s ∈ p → s.byIndex = true → 0 ≤ s.index ∧ s.index ≤ 65536) : PRun C0 119 [.tsl 3 (p.map encS)] (encV (pathV p)) := by
  refine prun_of ac119 rfl ?_
  rw [pathV_enc]
  simp (disch := omega) only [go_sem, ac119, enter, List.length_map]
  refine loop_of (α := Nat × List AV) (fun a => { tmps := slots 33 [(2, .ptr 13 0 0 0), (3, .ptr 13 1 0 0), (7, .tsl 3 (p.map encS)), (8, .int .i64 p.length), (9, .int .i64 a.1)], heap := .row 13 [zeroS] false true 0 :: .row 13 [listS (bSl 13 2 a.2)] false a.2.isEmpty 1 :: bHp 13 2 a.2, base := 0 })
    (fun a => a.1 ≤ p.length ∧ a.2 = (p.take a.1).map (fun x => encV (stepV x))) (fun a => p.length - a.1) (0, []) rfl ⟨Nat.zero_le _, by simp⟩ ?_
  rintro ⟨k, els⟩ ⟨hk, hels⟩
  simp only at hk hels ⊢
  by_cases hlt : k < p.length
  · obtain ⟨x, hx⟩ := get_some hlt
    have hxm := List.mem_of_getElem? hx
    have hx2 := map_get (g := encS) hx
    rw [encS_eq] at hx2
    have hlen : els.length = k := by rw [hels]; simp; omega
    have hnew : els ++ [encV (stepV x)] = (p.take (k + 1)).map (fun x => encV (stepV x)) := by rw [hels, List.take_add_one, hx]; simp
    cases hb : x.byIndex with
    | true =>
      have hi := hp x hxm hb
      obtain ⟨n, hn⟩ : ∃ n : Nat, x.index = n := ⟨x.index.toNat, by omega⟩
      have hr := int_run n (by omega)
      have hsv : stepV x = numV (numD n) := by unfold stepV; rw [if_pos hb, hn, Int.toNat_natCast]
      rw [hsv] at hnew
      rw [hb, hn] at hx2
      rw [numV_enc] at hr hnew
      cases els with
      | nil =>
        (repeat' first | simp (disch := omega) only [go_sem, hx2, List.length_map, bSl, bHp, listS, zeroS] | refine pure_of _ (hr) ?_ | (refine wantDf (fun h => ?_) (fun h => ?_) <;> try simp (disch := omega) only [go_sem, hx2, List.length_map, bSl, bHp, listS, zeroS , h]) | (refine wantDt (fun h => ?_) (fun h => ?_) <;> try simp (disch := omega) only [go_sem, hx2, List.length_map, bSl, bHp, listS, zeroS , h]) | (refine wantEf (fun h => ?_) (fun h => ?_) <;> try simp (disch := omega) only [go_sem, hx2, List.length_map, bSl, bHp, listS, zeroS , h]) | (refine wantEt (fun h => ?_) (fun h => ?_) <;> try simp (disch := omega) only [go_sem, hx2, List.length_map, bSl, bHp, listS, zeroS , h]) | (refine wantNf (fun h => ?_) (fun h => ?_) <;> try simp (disch := omega) only [go_sem, hx2, List.length_map, bSl, bHp, listS, zeroS , h]) | (refine wantNt (fun h => ?_) (fun h => ?_) <;> try simp (disch := omega) only [go_sem, hx2, List.length_map, bSl, bHp, listS, zeroS , h]) | (refine wantNBf (fun h => ?_) (fun h => ?_) <;> try simp (disch := omega) only [go_sem, hx2, List.length_map, bSl, bHp, listS, zeroS , h]) | (refine wantNBt (fun h => ?_) (fun h => ?_) <;> try simp (disch := omega) only [go_sem, hx2, List.length_map, bSl, bHp, listS, zeroS , h]) | (refine wantBf (fun h => ?_) (fun h => ?_) <;> try simp (disch := omega) only [go_sem, hx2, List.length_map, bSl, bHp, listS, zeroS , h]) | (refine wantBt (fun h => ?_) (fun h => ?_) <;> try simp (disch := omega) only [go_sem, hx2, List.length_map, bSl, bHp, listS, zeroS , h]) | (refine boolD (fun h => ?_) (fun h => ?_) <;> try simp (disch := omega) only [go_sem, hx2, List.length_map, bSl, bHp, listS, zeroS , h]) | (refine boolE (fun h => ?_) (fun h => ?_) <;> try simp (disch := omega) only [go_sem, hx2, List.length_map, bSl, bHp, listS, zeroS , h]) | (refine boolN (fun h => ?_) (fun h => ?_) <;> try simp (disch := omega) only [go_sem, hx2, List.length_map, bSl, bHp, listS, zeroS , h]) | (refine boolNB (fun h => ?_) (fun h => ?_) <;> try simp (disch := omega) only [go_sem, hx2, List.length_map, bSl, bHp, listS, zeroS , h]) | (refine boolB (fun h => ?_) (fun h => ?_) <;> try simp (disch := omega) only [go_sem, hx2, List.length_map, bSl, bHp, listS, zeroS , h]))
        refine ⟨(k + 1, (p.take (k + 1)).map (fun x => encV (stepV x))), ?_, ⟨hlt, rfl⟩, by simp only; omega⟩
        simp only [← hnew]
        rfl
      | cons y els =>
        simp only [List.length_cons] at hlen
        (repeat' first | simp (disch := omega) only [go_sem, hx2, List.length_map, bSl, bHp, listS, zeroS] | refine pure_of _ (hr) ?_ | (refine wantDf (fun h => ?_) (fun h => ?_) <;> try simp (disch := omega) only [go_sem, hx2, List.length_map, bSl, bHp, listS, zeroS , h]) | (refine wantDt (fun h => ?_) (fun h => ?_) <;> try simp (disch := omega) only [go_sem, hx2, List.length_map, bSl, bHp, listS, zeroS , h]) | (refine wantEf (fun h => ?_) (fun h => ?_) <;> try simp (disch := omega) only [go_sem, hx2, List.length_map, bSl, bHp, listS, zeroS , h]) | (refine wantEt (fun h => ?_) (fun h => ?_) <;> try simp (disch := omega) only [go_sem, hx2, List.length_map, bSl, bHp, listS, zeroS , h]) | (refine wantNf (fun h => ?_) (fun h => ?_) <;> try simp (disch := omega) only [go_sem, hx2, List.length_map, bSl, bHp, listS, zeroS , h]) | (refine wantNt (fun h => ?_) (fun h => ?_) <;> try simp (disch := omega) only [go_sem, hx2, List.length_map, bSl, bHp, listS, zeroS , h]) | (refine wantNBf (fun h => ?_) (fun h => ?_) <;> try simp (disch := omega) only [go_sem, hx2, List.length_map, bSl, bHp, listS, zeroS , h]) | (refine wantNBt (fun h => ?_) (fun h => ?_) <;> try simp (disch := omega) only [go_sem, hx2, List.length_map, bSl, bHp, listS, zeroS , h]) | (refine wantBf (fun h => ?_) (fun h => ?_) <;> try simp (disch := omega) only [go_sem, hx2, List.length_map, bSl, bHp, listS, zeroS , h]) | (refine wantBt (fun h => ?_) (fun h => ?_) <;> try simp (disch := omega) only [go_sem, hx2, List.length_map, bSl, bHp, listS, zeroS , h]) | (refine boolD (fun h => ?_) (fun h => ?_) <;> try simp (disch := omega) only [go_sem, hx2, List.length_map, bSl, bHp, listS, zeroS , h]) | (refine boolE (fun h => ?_) (fun h => ?_) <;> try simp (disch := omega) only [go_sem, hx2, List.length_map, bSl, bHp, listS, zeroS , h]) | (refine boolN (fun h => ?_) (fun h => ?_) <;> try simp (disch := omega) only [go_sem, hx2, List.length_map, bSl, bHp, listS, zeroS , h]) | (refine boolNB (fun h => ?_) (fun h => ?_) <;> try simp (disch := omega) only [go_sem, hx2, List.length_map, bSl, bHp, listS, zeroS , h]) | (refine boolB (fun h => ?_) (fun h => ?_) <;> try simp (disch := omega) only [go_sem, hx2, List.length_map, bSl, bHp, listS, zeroS , h]))
        refine ⟨(k + 1, (p.take (k + 1)).map (fun x => encV (stepV x))), ?_, ⟨hlt, rfl⟩, by simp only; omega⟩
        simp only [← hnew, List.cons_append, List.length_append, List.length_cons, List.length_nil]
        rfl
    | false =>
      have hr := text_run x.key
      have hsv : stepV x = textV x.key := by unfold stepV; rw [if_neg (by simp [hb])]
      rw [hsv] at hnew
      rw [hb] at hx2
      rw [textV_enc] at hr hnew
      cases els with
      | nil =>
        (repeat' first | simp (disch := omega) only [go_sem, hx2, List.length_map, bSl, bHp, listS, zeroS] | refine pure_of _ (hr) ?_ | (refine wantDf (fun h => ?_) (fun h => ?_) <;> try simp (disch := omega) only [go_sem, hx2, List.length_map, bSl, bHp, listS, zeroS , h]) | (refine wantDt (fun h => ?_) (fun h => ?_) <;> try simp (disch := omega) only [go_sem, hx2, List.length_map, bSl, bHp, listS, zeroS , h]) | (refine wantEf (fun h => ?_) (fun h => ?_) <;> try simp (disch := omega) only [go_sem, hx2, List.length_map, bSl, bHp, listS, zeroS , h]) | (refine wantEt (fun h => ?_) (fun h => ?_) <;> try simp (disch := omega) only [go_sem, hx2, List.length_map, bSl, bHp, listS, zeroS , h]) | (refine wantNf (fun h => ?_) (fun h => ?_) <;> try simp (disch := omega) only [go_sem, hx2, List.length_map, bSl, bHp, listS, zeroS , h]) | (refine wantNt (fun h => ?_) (fun h => ?_) <;> try simp (disch := omega) only [go_sem, hx2, List.length_map, bSl, bHp, listS, zeroS , h]) | (refine wantNBf (fun h => ?_) (fun h => ?_) <;> try simp (disch := omega) only [go_sem, hx2, List.length_map, bSl, bHp, listS, zeroS , h]) | (refine wantNBt (fun h => ?_) (fun h => ?_) <;> try simp (disch := omega) only [go_sem, hx2, List.length_map, bSl, bHp, listS, zeroS , h]) | (refine wantBf (fun h => ?_) (fun h => ?_) <;> try simp (disch := omega) only [go_sem, hx2, List.length_map, bSl, bHp, listS, zeroS , h]) | (refine wantBt (fun h => ?_) (fun h => ?_) <;> try simp (disch := omega) only [go_sem, hx2, List.length_map, bSl, bHp, listS, zeroS , h]) | (refine boolD (fun h => ?_) (fun h => ?_) <;> try simp (disch := omega) only [go_sem, hx2, List.length_map, bSl, bHp, listS, zeroS , h]) | (refine boolE (fun h => ?_) (fun h => ?_) <;> try simp (disch := omega) only [go_sem, hx2, List.length_map, bSl, bHp, listS, zeroS , h]) | (refine boolN (fun h => ?_) (fun h => ?_) <;> try simp (disch := omega) only [go_sem, hx2, List.length_map, bSl, bHp, listS, zeroS , h]) | (refine boolNB (fun h => ?_) (fun h => ?_) <;> try simp (disch := omega) only [go_sem, hx2, List.length_map, bSl, bHp, listS, zeroS , h]) | (refine boolB (fun h => ?_) (fun h => ?_) <;> try simp (disch := omega) only [go_sem, hx2, List.length_map, bSl, bHp, listS, zeroS , h]))
        refine ⟨(k + 1, (p.take (k + 1)).map (fun x => encV (stepV x))), ?_, ⟨hlt, rfl⟩, by simp only; omega⟩
        simp only [← hnew]
        rfl
      | cons y els =>
        simp only [List.length_cons] at hlen
        (repeat' first | simp (disch := omega) only [go_sem, hx2, List.length_map, bSl, bHp, listS, zeroS] | refine pure_of _ (hr) ?_ | (refine wantDf (fun h => ?_) (fun h => ?_) <;> try simp (disch := omega) only [go_sem, hx2, List.length_map, bSl, bHp, listS, zeroS , h]) | (refine wantDt (fun h => ?_) (fun h => ?_) <;> try simp (disch := omega) only [go_sem, hx2, List.length_map, bSl, bHp, listS, zeroS , h]) | (refine wantEf (fun h => ?_) (fun h => ?_) <;> try simp (disch := omega) only [go_sem, hx2, List.length_map, bSl, bHp, listS, zeroS , h]) | (refine wantEt (fun h => ?_) (fun h => ?_) <;> try simp (disch := omega) only [go_sem, hx2, List.length_map, bSl, bHp, listS, zeroS , h]) | (refine wantNf (fun h => ?_) (fun h => ?_) <;> try simp (disch := omega) only [go_sem, hx2, List.length_map, bSl, bHp, listS, zeroS , h]) | (refine wantNt (fun h => ?_) (fun h => ?_) <;> try simp (disch := omega) only [go_sem, hx2, List.length_map, bSl, bHp, listS, zeroS , h]) | (refine wantNBf (fun h => ?_) (fun h => ?_) <;> try simp (disch := omega) only [go_sem, hx2, List.length_map, bSl, bHp, listS, zeroS , h]) | (refine wantNBt (fun h => ?_) (fun h => ?_) <;> try simp (disch := omega) only [go_sem, hx2, List.length_map, bSl, bHp, listS, zeroS , h]) | (refine wantBf (fun h => ?_) (fun h => ?_) <;> try simp (disch := omega) only [go_sem, hx2, List.length_map, bSl, bHp, listS, zeroS , h]) | (refine wantBt (fun h => ?_) (fun h => ?_) <;> try simp (disch := omega) only [go_sem, hx2, List.length_map, bSl, bHp, listS, zeroS , h]) | (refine boolD (fun h => ?_) (fun h => ?_) <;> try simp (disch := omega) only [go_sem, hx2, List.length_map, bSl, bHp, listS, zeroS , h]) | (refine boolE (fun h => ?_) (fun h => ?_) <;> try simp (disch := omega) only [go_sem, hx2, List.length_map, bSl, bHp, listS, zeroS , h]) | (refine boolN (fun h => ?_) (fun h => ?_) <;> try simp (disch := omega) only [go_sem, hx2, List.length_map, bSl, bHp, listS, zeroS , h]) | (refine boolNB (fun h => ?_) (fun h => ?_) <;> try simp (disch := omega) only [go_sem, hx2, List.length_map, bSl, bHp, listS, zeroS , h]) | (refine boolB (fun h => ?_) (fun h => ?_) <;> try simp (disch := omega) only [go_sem, hx2, List.length_map, bSl, bHp, listS, zeroS , h]))
        refine ⟨(k + 1, (p.take (k + 1)).map (fun x => encV (stepV x))), ?_, ⟨hlt, rfl⟩, by simp only; omega⟩
        simp only [← hnew, List.cons_append, List.length_append, List.length_cons, List.length_nil]
        rfl
  · rw [take_len hlt hk] at hels
    rw [← hels]
    cases els with
    | nil =>
      (repeat' first | simp (disch := omega) only [go_sem, List.length_map, bSl, bHp, listS, zeroS] | (refine wantDf (fun h => ?_) (fun h => ?_) <;> try simp (disch := omega) only [go_sem, List.length_map, bSl, bHp, listS, zeroS, h]) | (refine wantDt (fun h => ?_) (fun h => ?_) <;> try simp (disch := omega) only [go_sem, List.length_map, bSl, bHp, listS, zeroS, h]) | (refine wantEf (fun h => ?_) (fun h => ?_) <;> try simp (disch := omega) only [go_sem, List.length_map, bSl, bHp, listS, zeroS, h]) | (refine wantEt (fun h => ?_) (fun h => ?_) <;> try simp (disch := omega) only [go_sem, List.length_map, bSl, bHp, listS, zeroS, h]) | (refine wantNf (fun h => ?_) (fun h => ?_) <;> try simp (disch := omega) only [go_sem, List.length_map, bSl, bHp, listS, zeroS, h]) | (refine wantNt (fun h => ?_) (fun h => ?_) <;> try simp (disch := omega) only [go_sem, List.length_map, bSl, bHp, listS, zeroS, h]) | (refine wantNBf (fun h => ?_) (fun h => ?_) <;> try simp (disch := omega) only [go_sem, List.length_map, bSl, bHp, listS, zeroS, h]) | (refine wantNBt (fun h => ?_) (fun h => ?_) <;> try simp (disch := omega) only [go_sem, List.length_map, bSl, bHp, listS, zeroS, h]) | (refine wantBf (fun h => ?_) (fun h => ?_) <;> try simp (disch := omega) only [go_sem, List.length_map, bSl, bHp, listS, zeroS, h]) | (refine wantBt (fun h => ?_) (fun h => ?_) <;> try simp (disch := omega) only [go_sem, List.length_map, bSl, bHp, listS, zeroS, h]) | (refine boolD (fun h => ?_) (fun h => ?_) <;> try simp (disch := omega) only [go_sem, List.length_map, bSl, bHp, listS, zeroS, h]) | (refine boolE (fun h => ?_) (fun h => ?_) <;> try simp (disch := omega) only [go_sem, List.length_map, bSl, bHp, listS, zeroS, h]) | (refine boolN (fun h => ?_) (fun h => ?_) <;> try simp (disch := omega) only [go_sem, List.length_map, bSl, bHp, listS, zeroS, h]) | (refine boolNB (fun h => ?_) (fun h => ?_) <;> try simp (disch := omega) only [go_sem, List.length_map, bSl, bHp, listS, zeroS, h]) | (refine boolB (fun h => ?_) (fun h => ?_) <;> try simp (disch := omega) only [go_sem, List.length_map, bSl, bHp, listS, zeroS, h]))
    | cons y els =>
      (repeat' first | simp (disch := omega) only [go_sem, List.length_map, bSl, bHp, listS, zeroS, List.take_length] | (refine wantDf (fun h => ?_) (fun h => ?_) <;> try simp (disch := omega) only [go_sem, List.length_map, bSl, bHp, listS, zeroS, List.take_length, h]) | (refine wantDt (fun h => ?_) (fun h => ?_) <;> try simp (disch := omega) only [go_sem, List.length_map, bSl, bHp, listS, zeroS, List.take_length, h]) | (refine wantEf (fun h => ?_) (fun h => ?_) <;> try simp (disch := omega) only [go_sem, List.length_map, bSl, bHp, listS, zeroS, List.take_length, h]) | (refine wantEt (fun h => ?_) (fun h => ?_) <;> try simp (disch := omega) only [go_sem, List.length_map, bSl, bHp, listS, zeroS, List.take_length, h]) | (refine wantNf (fun h => ?_) (fun h => ?_) <;> try simp (disch := omega) only [go_sem, List.length_map, bSl, bHp, listS, zeroS, List.take_length, h]) | (refine wantNt (fun h => ?_) (fun h => ?_) <;> try simp (disch := omega) only [go_sem, List.length_map, bSl, bHp, listS, zeroS, List.take_length, h]) | (refine wantNBf (fun h => ?_) (fun h => ?_) <;> try simp (disch := omega) only [go_sem, List.length_map, bSl, bHp, listS, zeroS, List.take_length, h]) | (refine wantNBt (fun h => ?_) (fun h => ?_) <;> try simp (disch := omega) only [go_sem, List.length_map, bSl, bHp, listS, zeroS, List.take_length, h]) | (refine wantBf (fun h => ?_) (fun h => ?_) <;> try simp (disch := omega) only [go_sem, List.length_map, bSl, bHp, listS, zeroS, List.take_length, h]) | (refine wantBt (fun h => ?_) (fun h => ?_) <;> try simp (disch := omega) only [go_sem, List.length_map, bSl, bHp, listS, zeroS, List.take_length, h]) | (refine boolD (fun h => ?_) (fun h => ?_) <;> try simp (disch := omega) only [go_sem, List.length_map, bSl, bHp, listS, zeroS, List.take_length, h]) | (refine boolE (fun h => ?_) (fun h => ?_) <;> try simp (disch := omega) only [go_sem, List.length_map, bSl, bHp, listS, zeroS, List.take_length, h]) | (refine boolN (fun h => ?_) (fun h => ?_) <;> try simp (disch := omega) only [go_sem, List.length_map, bSl, bHp, listS, zeroS, List.take_length, h]) | (refine boolNB (fun h => ?_) (fun h => ?_) <;> try simp (disch := omega) only [go_sem, List.length_map, bSl, bHp, listS, zeroS, List.take_length, h]) | (refine boolB (fun h => ?_) (fun h => ?_) <;> try simp (disch := omega) only [go_sem, List.length_map, bSl, bHp, listS, zeroS, List.take_length, h]))

/-! ### Back -/

theorem fold10_append (a b : List UInt8) : fold10 (a ++ b) = fold10 a * 10 ^ b.length + fold10 b := by
  unfold fold10
  rw [List.foldl_append, foldl10]
  rfl
theorem ofNat_digit (n : Nat) : (UInt8.ofNat (48 + n % 10)).toNat = 48 + n % 10 := by
  rw [UInt8.toNat_ofNat']
  omega
theorem digs_step {n : Nat} (h : n ≠ 0) : digs n = digs (n / 10) ++ [UInt8.ofNat (48 + n % 10)] := by
  unfold digs
  rw [digsR_step h, List.reverse_cons]
theorem digs_ok : ∀ (n : Nat), digits (digs n) = true ∧ fold10 (digs n) = n ∧ (n ≠ 0 → (digs n)[0]? ≠ some 48 ∧ digs n ≠ [])
  | 0 => ⟨rfl, rfl, fun h => (h rfl).elim⟩
  | n + 1 => by
    obtain ⟨h1, h2, h3⟩ := digs_ok ((n + 1) / 10)
    rw [digs_step (by omega)]
    have hd := ofNat_digit (n + 1)
    refine ⟨digits_append h1 (by simp [digits, digit, hd]; omega), ?_, fun _ => ⟨?_, by simp⟩⟩
    · rw [fold10_append, h2]
      simp only [fold10, List.foldl_cons, List.foldl_nil, List.length_cons, List.length_nil, hd]
      omega
    · by_cases h0 : (n + 1) / 10 = 0
      · rw [h0]
        have e : digs 0 = [] := rfl
        rw [e, List.nil_append, List.getElem?_cons_zero]
        intro h
        have h4 := congrArg UInt8.toNat (Option.some.inj h)
        rw [hd] at h4
        have e48 : UInt8.toNat 48 = 48 := rfl
        rw [e48] at h4
        omega
      · obtain ⟨h4, h5⟩ := h3 h0
        rw [List.getElem?_append_left (List.length_pos_iff.2 h5)]
        exact h4
termination_by n => n
decreasing_by omega

theorem zeros_split (s : List UInt8) : s.take (s.length - zeros s) ++ List.replicate (zeros s) 48 = s ∧ zeros (s.take (s.length - zeros s)) = 0 := by
  have h := List.takeWhile_append_dropWhile (p := fun x => x == (48 : UInt8)) (l := s.reverse)
  have hall : s.reverse.takeWhile (fun x => x == (48 : UInt8)) = List.replicate (zeros s) 48 := by
    refine List.eq_replicate_iff.2 ⟨rfl, fun b hb => ?_⟩
    have := List.all_eq_true.1 (List.all_takeWhile (p := fun x => x == (48 : UInt8)) (l := s.reverse)) b hb
    simpa using this
  rw [hall] at h
  have h2 : s = (s.reverse.dropWhile (fun x => x == (48 : UInt8))).reverse ++ List.replicate (zeros s) 48 := by
    have := congrArg List.reverse h
    simpa using this.symm
  have hlen : (s.reverse.dropWhile (fun x => x == (48 : UInt8))).length = s.length - zeros s := by
    have := congrArg List.length h2
    simp at this
    omega
  have ht : s.take (s.length - zeros s) = (s.reverse.dropWhile (fun x => x == (48 : UInt8))).reverse := by
    have gen : ∀ (a b : List UInt8) (m : Nat), s = a ++ b → a.length = m → s.take m = a := by
      rintro a b m rfl rfl
      simp
    exact gen _ _ _ h2 (by rw [List.length_reverse, hlen])
  refine ⟨by rw [ht]; exact h2.symm, ?_⟩
  rw [ht]
  unfold zeros
  rw [List.reverse_reverse]
  cases hd : s.reverse.dropWhile (fun x => x == (48 : UInt8)) with
  | nil => rfl
  | cons c l =>
    have hne : s.reverse.dropWhile (fun x => x == (48 : UInt8)) ≠ [] := by simp [hd]
    have := List.head_dropWhile_not (fun x => x == (48 : UInt8)) hne
    simp only [hd, List.head_cons] at this
    rw [List.takeWhile_cons_of_neg (by simpa using this)]
    rfl

theorem numD_ok {n : Nat} (hn : n ≤ 65536) : decOk (numD n) = true ∧ indexM (numD n) = ((n : Int), true) := by
  unfold numD normD
  by_cases h0 : n = 0
  · subst h0
    have e : digs 0 = [] := rfl
    rw [e, if_pos rfl]
    exact ⟨rfl, by decide⟩
  · obtain ⟨h1, h2, h3⟩ := digs_ok n
    obtain ⟨h3, h4⟩ := h3 h0
    rw [if_neg h4]
    obtain ⟨h5, h6⟩ := zeros_split (digs n)
    have hl := digs_len hn
    have hz := zeros_le (digs n)
    have hne : (digs n).take ((digs n).length - zeros (digs n)) ≠ [] := fun e => by
      rw [e, List.nil_append] at h5
      have hh := h3
      rw [← h5] at hh
      have hpos := List.length_pos_iff.2 h4
      rw [← h5, List.length_replicate] at hpos
      rw [List.getElem?_replicate, if_pos hpos] at hh
      exact hh rfl
    have h0' : ((digs n).take ((digs n).length - zeros (digs n)))[0]? ≠ some 48 := by
      have hpos := List.length_pos_iff.2 hne
      rw [List.getElem?_take_of_lt (by simp at hpos; omega)]
      exact h3
    have hlen : ((digs n).take ((digs n).length - zeros (digs n))).length = (digs n).length - zeros (digs n) := by simp
    constructor
    · unfold decOk numeral
      rw [if_neg hne]
      simp only [Bool.and_eq_true, decide_eq_true_eq, hlen]
      exact ⟨⟨⟨⟨by omega, ⟨by omega, digits_take h1 _⟩, h0'⟩, h6⟩, by omega⟩, by omega⟩
    · unfold indexM
      have e1 : ¬ (false = true ∨ ((zeros (digs n) : Nat) : Int) < 0 ∨ (5 : Int) < (((digs n).take ((digs n).length - zeros (digs n))).length : Int) + ((zeros (digs n) : Nat) : Int)) := by
        rw [hlen]
        intro h
        rcases h with h | h | h
        · cases h
        · omega
        · omega
      rw [if_neg e1]
      simp only [Int.toNat_natCast, h5, h2]
      simp
      omega

theorem stepM_stepV {s : Stp} (h : stpOk s = true) : stepM (stepV s) = (s, 0) ∧ decOk (stepV s).s.num = true := by
  obtain ⟨b, key, index⟩ := s
  unfold stpOk at h
  cases b with
  | true =>
    simp only [if_true, Bool.and_eq_true, decide_eq_true_eq, beq_iff_eq] at h
    obtain ⟨⟨rfl, h1⟩, h2⟩ := h
    obtain ⟨h3, h4⟩ := numD_ok (n := index.toNat) (by omega)
    refine ⟨?_, h3⟩
    have e : (index.toNat : Int) = index := by omega
    simp [stepM, stepV, numV, V.s, h4, e]
  | false =>
    simp only [Bool.false_eq_true, if_false, Bool.and_eq_true, decide_eq_true_eq, beq_iff_eq] at h
    obtain ⟨⟨rfl, h1⟩, h2⟩ := h
    refine ⟨?_, rfl⟩
    have : ¬ 1024 < key.length := by omega
    simp [stepM, stepV, textV, V.s, this]

theorem pathM_pathV {p : List Stp} (h : pathOk p = true) : pathM (pathV p) = (p, 0) ∧ ∀ x, x ∈ (pathV p).l → decOk x.s.num = true := by
  unfold pathOk at h
  simp only [Bool.and_eq_true, decide_eq_true_eq, List.all_eq_true] at h
  obtain ⟨hl, hs⟩ := h
  constructor
  · have e : pathM (pathV p) = pathL (p.map stepV) := by
      have : ¬ 48 < (p.map stepV).length := by simpa using hl
      simp [pathM, pathV, V.s, V.l]
      omega
    rw [e, pathL_ok (fun y hy => by
      obtain ⟨s, hs2, rfl⟩ := List.mem_map.1 hy
      rw [(stepM_stepV (hs s hs2)).1])]
    rw [List.map_map]
    congr 1
    conv => rhs; rw [← List.map_id p]
    exact List.map_congr_left fun s hs2 => by simp [(stepM_stepV (hs s hs2)).1]
  · intro x hx
    obtain ⟨s, hs2, rfl⟩ := List.mem_map.1 hx
    exact (stepM_stepV (hs s hs2)).2
end Ago
/- The law QpathBack: its run. -/
set_option linter.unusedSimpArgs false
set_option linter.unusedVariables false
set_option maxRecDepth 100000
set_option maxHeartbeats 4000000
namespace Ago
open Go (IntKind)

theorem bulks_mapLe {α : Type} {f : α → AV} {N : Nat} : ∀ (l : List α), (∀ x, x ∈ l → (f x).bulk ≤ N) → AV.bulks (l.map f) ≤ l.length * (N + 1)
  | [], _ => by simp [AV.bulks]
  | x :: l, h => by
    have h1 := bulks_mapLe l fun y hy => h y (List.mem_cons_of_mem _ hy)
    have h2 := h x List.mem_cons_self
    simp only [List.map_cons, AV.bulks, List.length_cons, Nat.add_mul, Nat.one_mul]
    omega
theorem numD_len {n : Nat} (hn : n ≤ 65536) : (numD n).digits.length ≤ 5 := by
  unfold numD normD
  split
  · simp
  · have := digs_len hn
    simp
    omega
theorem stepV_bulk {s : Stp} (h : stpOk s = true) : (encV (stepV s)).bulk ≤ 1100 := by
  obtain ⟨b, key, index⟩ := s
  unfold stpOk at h
  cases b with
  | true =>
    simp only [if_true, Bool.and_eq_true, decide_eq_true_eq, beq_iff_eq] at h
    have := numD_len (n := index.toNat) (by omega)
    have e : stepV ⟨true, key, index⟩ = numV (numD index.toNat) := rfl
    rw [e, numV_enc]
    simp [AV.bulk, AV.bulks]
    omega
  | false =>
    simp only [Bool.false_eq_true, if_false, Bool.and_eq_true, decide_eq_true_eq, beq_iff_eq] at h
    have e : stepV ⟨false, key, index⟩ = textV key := rfl
    rw [e, textV_enc]
    simp [AV.bulk, AV.bulks]
    omega
theorem pathV_bulk {p : List Stp} (h : pathOk p = true) : (pathV p).bulk ≤ 2 ^ 20 := by
  unfold pathOk at h
  simp only [Bool.and_eq_true, decide_eq_true_eq, List.all_eq_true] at h
  unfold V.bulk
  rw [pathV_enc]
  have h1 := bulks_mapLe (f := fun x => encV (stepV x)) p fun x hx => stepV_bulk (h.2 x hx)
  have h2 : p.length * (1100 + 1) ≤ 48 * 1101 := Nat.mul_le_mul_right _ h.1
  simp only [AV.bulk, AV.bulks, List.length_nil]
  omega

theorem qpathBack_run (p : List Stp) (hp : p.length < 2 ^ 20) (hk : ∀ s, s ∈ p → s.key.length < 2 ^ 30) : PRun C0 115 [.tsl 3 (p.map encS)] (.bool true) := by
  refine prun_of ac115 rfl ?_
  have hv := validPath_run p (by omega) hk
  cases hb : pathOk p with
  | false =>
    rw [hb] at hv
    (repeat' first | simp (disch := omega) only [go_sem, ac115, enter] | refine pure_of _ (hv) ?_ | (refine wantDf (fun h => ?_) (fun h => ?_) <;> try simp (disch := omega) only [go_sem, ac115, enter , h]) | (refine wantDt (fun h => ?_) (fun h => ?_) <;> try simp (disch := omega) only [go_sem, ac115, enter , h]) | (refine wantEf (fun h => ?_) (fun h => ?_) <;> try simp (disch := omega) only [go_sem, ac115, enter , h]) | (refine wantEt (fun h => ?_) (fun h => ?_) <;> try simp (disch := omega) only [go_sem, ac115, enter , h]) | (refine wantNf (fun h => ?_) (fun h => ?_) <;> try simp (disch := omega) only [go_sem, ac115, enter , h]) | (refine wantNt (fun h => ?_) (fun h => ?_) <;> try simp (disch := omega) only [go_sem, ac115, enter , h]) | (refine wantNBf (fun h => ?_) (fun h => ?_) <;> try simp (disch := omega) only [go_sem, ac115, enter , h]) | (refine wantNBt (fun h => ?_) (fun h => ?_) <;> try simp (disch := omega) only [go_sem, ac115, enter , h]) | (refine wantBf (fun h => ?_) (fun h => ?_) <;> try simp (disch := omega) only [go_sem, ac115, enter , h]) | (refine wantBt (fun h => ?_) (fun h => ?_) <;> try simp (disch := omega) only [go_sem, ac115, enter , h]) | (refine boolD (fun h => ?_) (fun h => ?_) <;> try simp (disch := omega) only [go_sem, ac115, enter , h]) | (refine boolE (fun h => ?_) (fun h => ?_) <;> try simp (disch := omega) only [go_sem, ac115, enter , h]) | (refine boolN (fun h => ?_) (fun h => ?_) <;> try simp (disch := omega) only [go_sem, ac115, enter , h]) | (refine boolNB (fun h => ?_) (fun h => ?_) <;> try simp (disch := omega) only [go_sem, ac115, enter , h]) | (refine boolB (fun h => ?_) (fun h => ?_) <;> try simp (disch := omega) only [go_sem, ac115, enter , h]))
  | true =>
    rw [hb] at hv
    obtain ⟨h1, h2⟩ := pathM_pathV hb
    have hok := hb
    unfold pathOk at hok
    simp only [Bool.and_eq_true, decide_eq_true_eq, List.all_eq_true] at hok
    have hval := value_run p hp fun s hs hbi => by
      have := hok.2 s hs
      unfold stpOk at this
      rw [if_pos hbi] at this
      simp only [Bool.and_eq_true, decide_eq_true_eq] at this
      omega
    have hpath := path_run (pathV p) (pathV_bulk hb) h2
    rw [h1] at hpath
    have he := pathEqual_run p p (by omega) (by omega)
    rw [pathV_enc] at hval hpath
    simp only [decide_true] at he
    (repeat' first | simp (disch := omega) only [go_sem, ac115, enter] | refine pure_of _ (hv) ?_ | refine pure_of _ (hval) ?_ | refine pure_of _ (hpath) ?_ | refine pure_of _ (he) ?_ | (refine wantDf (fun h => ?_) (fun h => ?_) <;> try simp (disch := omega) only [go_sem, ac115, enter , h]) | (refine wantDt (fun h => ?_) (fun h => ?_) <;> try simp (disch := omega) only [go_sem, ac115, enter , h]) | (refine wantEf (fun h => ?_) (fun h => ?_) <;> try simp (disch := omega) only [go_sem, ac115, enter , h]) | (refine wantEt (fun h => ?_) (fun h => ?_) <;> try simp (disch := omega) only [go_sem, ac115, enter , h]) | (refine wantNf (fun h => ?_) (fun h => ?_) <;> try simp (disch := omega) only [go_sem, ac115, enter , h]) | (refine wantNt (fun h => ?_) (fun h => ?_) <;> try simp (disch := omega) only [go_sem, ac115, enter , h]) | (refine wantNBf (fun h => ?_) (fun h => ?_) <;> try simp (disch := omega) only [go_sem, ac115, enter , h]) | (refine wantNBt (fun h => ?_) (fun h => ?_) <;> try simp (disch := omega) only [go_sem, ac115, enter , h]) | (refine wantBf (fun h => ?_) (fun h => ?_) <;> try simp (disch := omega) only [go_sem, ac115, enter , h]) | (refine wantBt (fun h => ?_) (fun h => ?_) <;> try simp (disch := omega) only [go_sem, ac115, enter , h]) | (refine boolD (fun h => ?_) (fun h => ?_) <;> try simp (disch := omega) only [go_sem, ac115, enter , h]) | (refine boolE (fun h => ?_) (fun h => ?_) <;> try simp (disch := omega) only [go_sem, ac115, enter , h]) | (refine boolN (fun h => ?_) (fun h => ?_) <;> try simp (disch := omega) only [go_sem, ac115, enter , h]) | (refine boolNB (fun h => ?_) (fun h => ?_) <;> try simp (disch := omega) only [go_sem, ac115, enter , h]) | (refine boolB (fun h => ?_) (fun h => ?_) <;> try simp (disch := omega) only [go_sem, ac115, enter , h]))
end Ago
