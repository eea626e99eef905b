/- Whole numbers as decimals. -/
import Derived.Test.YtglnglflcoeinaaGreatDoorRunC
import Derived.Test.YtglnglflcoeinaaGreatDoorMachE
import Derived.Test.YtglnglflcoeinaaGreatDoorRunB
set_option linter.unusedSimpArgs false
set_option linter.unusedVariables false
set_option maxRecDepth 100000
set_option maxHeartbeats 4000000
namespace Ago
open Go (IntKind)

/-- What a function that writes owes at its end. -/
def PostR (base : Nat) (res : List ResV) (v : AV) (H' : Heap) (e : Ex) (s : St) : Prop := (e = .normal ∨ e = .ret) ∧ ∃ u, results res s = some u ∧ (tidy base u s.heap).tmps.getD 0 .dead = v ∧ (tidy base u s.heap).heap = H'
theorem postR_of {base : Nat} {res : List ResV} {v : AV} {H' : Heap} {e : Ex} {s : St} (he : e = .normal ∨ e = .ret) (u : AV) (h1 : results res s = some u) (h2 : (tidy base u s.heap).tmps.getD 0 .dead = v) (h3 : (tidy base u s.heap).heap = H') : PostR base res v H' e s := ⟨he, u, h1, h2, h3⟩
theorem runR_of {C : Ctx} {f : Nat} (fn : AFn) {args : List AV} {H : Heap} {v : AV} {H' : Heap} (hf : C.code f = some fn) (h : @withStI (enter fn args H) ⟨aw (RunOf C) (PRun C) fn.body (PostR H.length fn.res v H')⟩) : RunOf C f args H v H' := by
  unfold withStI at h
  exact run_of_aw hf h

/-! ### Bytes turned round -/

/-! ### Digits of a number -/

/-! ### Noughts at the end -/

theorem zeros_eq {s : List UInt8} {k : Nat} (hk : k ≤ s.length) (hd : (s.reverse.take k).all (· == 48) = true) (h : k < s.length → ∃ c, s.reverse[k]? = some c ∧ c ≠ 48) : zeros s = k := by
  unfold zeros
  have key : ∀ (l : List UInt8) (k : Nat), (l.take k).all (· == 48) = true → (k < l.length → ∃ c, l[k]? = some c ∧ c ≠ 48) → k ≤ l.length → (l.takeWhile (· == 48)).length = k := by
    intro l
    induction l with
    | nil => intro k _ _ hk; simp at hk; simp [hk]
    | cons x l ih =>
      intro k h1 h2 h3
      cases k with
      | zero =>
        obtain ⟨c, h4, h5⟩ := h2 (by simp)
        simp at h4
        subst h4
        rw [List.takeWhile_cons_of_neg (by simpa using h5)]
        rfl
      | succ k =>
        simp only [List.take_succ_cons, List.all_cons, Bool.and_eq_true] at h1
        rw [List.takeWhile_cons_of_pos (by simpa using h1.1)]
        simp only [List.length_cons, Nat.add_right_cancel_iff]
        exact ih k h1.2 (fun h => by simpa using h2 (by simpa using h)) (by simpa using h3)
  exact key s.reverse k hd (fun h2 => h (by simpa using h2)) (by simpa using hk)
theorem zeros_le (s : List UInt8) : zeros s ≤ s.length := by
  unfold zeros
  have := (List.takeWhile_sublist (fun x => x == (48 : UInt8)) (l := s.reverse)).length_le
  simpa using this

theorem trimByte_run (s : List UInt8) (hs : s.length < 2 ^ 31) : PRun C0 155 [.str s, .int .u8 48] (.str (s.take (s.length - zeros s))) := by
  refine prun_of ac155 rfl ?_
  simp (disch := omega) only [go_sem, ac155, enter]
  refine loop_of (α := Nat) (fun k => { tmps := slots 23 [(0, .str (s.take (s.length - k))), (1, .int .u8 48)], heap := [], base := 0 }) (fun k => k ≤ s.length ∧ (s.reverse.take k).all (· == 48) = true) (fun k => s.length - k) 0 (by rw [Nat.sub_zero, List.take_length]; rfl) ⟨Nat.zero_le _, rfl⟩ ?_
  rintro k ⟨hk, hd⟩
  have hlen : (s.take (s.length - k)).length = s.length - k := by simp
  by_cases hlt : k < s.length
  · obtain ⟨c, hc⟩ := get_some (s := s) (k := s.length - 1 - k) (by omega)
    have e : (((s.length - k : Nat) : Int) - 1).toNat = s.length - 1 - k := by omega
    have hc2 : (s.take (s.length - k))[s.length - 1 - k]? = some c := by rw [List.getElem?_take_of_lt (by omega)]; exact hc
    have hr : s.reverse[k]? = some c := by rw [List.getElem?_reverse hlt, ← hc]
    have htt : List.take (s.length - 1 - k) (s.take (s.length - k)) = s.take (s.length - (k + 1)) := by rw [List.take_take]; congr 1; omega
    by_cases h48 : c = 48
    · have h48i : (c.toNat : Int) = 48 := (zero48 c).2 h48
      (repeat' first | simp (disch := omega) only [go_sem, hlen, e, hc2, h48i, htt] | ((apply spl) <;> intro h <;> try simp (disch := omega) only [go_sem, hlen, e, hc2, h48i, htt, h]))
      refine ⟨k + 1, rfl, ⟨hlt, take_succ_all hr hd (by simpa using h48)⟩, by omega⟩
    · have h48i : ¬ (c.toNat : Int) = 48 := fun e => h48 ((zero48 c).1 e)
      rw [zeros_eq hk hd (fun _ => ⟨c, hr, h48⟩)]
      (repeat' first | simp (disch := omega) only [go_sem, hlen, e, hc2, h48i, htt] | ((apply spl) <;> intro h <;> try simp (disch := omega) only [go_sem, hlen, e, hc2, h48i, htt, h]))
  · rw [zeros_eq hk hd (fun h => absurd h hlt)]
    (repeat' first | simp (disch := omega) only [go_sem, hlen] | ((apply spl) <;> intro h <;> try simp (disch := omega) only [go_sem, hlen, h]))

theorem trimRight_run (s : List UInt8) (hs : s.length < 2 ^ 31) : PRun C0 148 [.str s, .str [48]] (.str (s.take (s.length - zeros s))) := by
  refine prun_of ac148 rfl ?_
  by_cases h0 : s = []
  · subst h0
    (repeat' first | simp (disch := omega) only [go_sem, ac148, enter] | ((apply spl) <;> intro h <;> try simp (disch := omega) only [go_sem, ac148, enter, h]))
    all_goals rfl
  · have hb : (s == ([] : List UInt8)) = false := by simp [h0]
    have hr := trimByte_run s hs
    have e48 : ((UInt8.toNat 48 : Nat) : Int) = 48 := rfl
    have en : (([48] : List UInt8) == []) = false := rfl
    (repeat' first | simp (disch := omega) only [go_sem, ac148, enter, hb, e48, en] | refine pure_of _ (hr) ?_ | ((apply spl) <;> intro h <;> try simp (disch := omega) only [go_sem, ac148, enter, hb, e48, en , h]))
end Ago
/- The program's own looks at decimals and times. -/
set_option maxRecDepth 100000
set_option maxHeartbeats 4000000
namespace Ago
open Go (IntKind)
theorem allI_run (s : List UInt8) (hs : s.length < 2 ^ 31) : PRun C0 158 [.str s] (.bool (digits s)) := by
  refine prun_of ac158 rfl ?_
  simp (disch := omega) only [go_sem, ac158, enter]
  refine loop_of (α := Nat) (fun k => { tmps := slots 20 [(0, .str s), (5, .int .i64 s.length), (6, .int .i64 k)], heap := [], base := 0 }) (fun k => k ≤ s.length ∧ (s.take k).all digit = true) (fun k => s.length - k) 0 rfl ⟨Nat.zero_le _, rfl⟩ ?_
  rintro k ⟨hk, hd⟩
  by_cases hlt : k < s.length
  · obtain ⟨c, hc⟩ := get_some hlt
    by_cases h : 48 ≤ c.toNat ∧ c.toNat ≤ 57
    · (repeat' first | simp (disch := omega) only [go_sem, hc] | ((apply spl) <;> intro h <;> try simp (disch := omega) only [go_sem, hc, h]))
      exact ⟨k + 1, rfl, ⟨hlt, take_succ_all hc hd (by simp [digit, h])⟩, by omega⟩
    · have hn : digits s = false := not_all hc (by simp [digit]; omega)
      rw [hn]
      (repeat' first | simp (disch := omega) only [go_sem, hc] | ((apply spl) <;> intro h <;> try simp (disch := omega) only [go_sem, hc, h]))
  · rw [take_len hlt hk] at hd
    have hn : digits s = true := hd
    rw [hn]
    (repeat' first | simp (disch := omega) only [go_sem] | ((apply spl) <;> intro h <;> try simp (disch := omega) only [go_sem, h]))
theorem validD_run (s : List UInt8) (hs : s.length < 2 ^ 31) : PRun C0 149 [.str s] (.bool (numeral s)) := by
  have ha := allI_run s hs
  refine prun_of ac149 rfl ?_
  unfold numeral
  cases s with
  | nil =>
    (repeat' first | simp (disch := omega) only [go_sem, ac149, enter] | refine pure_of _ (ha) ?_ | ((apply spl) <;> intro h <;> try simp (disch := omega) only [go_sem, ac149, enter , h]))
    all_goals rfl
  | cons c s =>
    have hb : (c :: s == ([] : List UInt8)) = false := rfl
    have hc := zero48 c
    simp only [List.length_cons] at hs
    by_cases hl : (c :: s).length ≤ 600
    · cases hd : digits (c :: s) with
      | true =>
        rw [hd] at ha
        by_cases h0 : c = 48
        · have h0' := hc.2 h0
          (repeat' first | simp (disch := omega) only [go_sem, ac149, enter, hb, h0', hl] | refine pure_of _ (ha) ?_ | ((apply spl) <;> intro h <;> try simp (disch := omega) only [go_sem, ac149, enter, hb, h0', hl , h]))
          all_goals (first | omega | simp_all)
          all_goals omega
        · have h0' : ¬ (c.toNat : Int) = 48 := fun e => h0 (hc.1 e)
          (repeat' first | simp (disch := omega) only [go_sem, ac149, enter, hb, h0', hl] | refine pure_of _ (ha) ?_ | ((apply spl) <;> intro h <;> try simp (disch := omega) only [go_sem, ac149, enter, hb, h0', hl , h]))
          all_goals (first | omega | simp_all)
          all_goals omega
      | false =>
        rw [hd] at ha
        (repeat' first | simp (disch := omega) only [go_sem, ac149, enter, hb, hl] | refine pure_of _ (ha) ?_ | ((apply spl) <;> intro h <;> try simp (disch := omega) only [go_sem, ac149, enter, hb, hl , h]))
        all_goals simp_all
    · have hl2 : 600 < s.length + 1 := by simp at hl; omega
      (repeat' first | simp (disch := omega) only [go_sem, ac149, enter, hb, hl] | refine pure_of _ (ha) ?_ | ((apply spl) <;> intro h <;> try simp (disch := omega) only [go_sem, ac149, enter, hb, hl , h]))
      all_goals (first | omega | simp_all)
      all_goals (intros; omega)
theorem zerosI_run (s : List UInt8) (hs : s.length < 2 ^ 31) : PRun C0 150 [.str s] (.int .i64 (zeros s)) := by
  have hr := trimRight_run s hs
  have hz := zeros_le s
  have hlen : (s.take (s.length - zeros s)).length = s.length - zeros s := by simp
  have e1 : ((s.length : Int) - ((s.length - zeros s : Nat) : Int)) = zeros s := by omega
  refine prun_of ac150 rfl ?_
  (repeat' first | simp (disch := omega) only [go_sem, ac150, enter, hlen, e1] | refine pure_of _ (hr) ?_ | ((apply spl) <;> intro h <;> try simp (disch := omega) only [go_sem, ac150, enter, hlen, e1 , h]))
theorem decOkI_run (d : Dec) (hs : d.digits.length < 2 ^ 31) : PRun C0 140 [encDec d] (.bool (decOk d)) := by
  refine prun_of ac140 rfl ?_
  obtain ⟨neg, ds, exp⟩ := d
  simp only [encDec] at *
  by_cases h0 : ds = []
  · subst h0
    (repeat' first | simp (disch := omega) only [go_sem, ac140, enter] | ((apply spl) <;> intro h <;> try simp (disch := omega) only [go_sem, ac140, enter, h]))
    all_goals simp [decOk]
  · have hb : (ds == ([] : List UInt8)) = false := by simp [h0]
    have hz := zerosI_run ds hs
    have hv := validD_run ds hs
    (repeat' first | simp (disch := omega) only [go_sem, ac140, enter, hb] | refine pure_of _ (hv) ?_ | refine pure_of _ (hz) ?_ | ((apply spl) <;> intro h <;> try simp (disch := omega) only [go_sem, ac140, enter, hb , h]))
    all_goals simp [decOk, h0]
    all_goals first | omega | (intros; omega) | (simp_all; done) | skip
    all_goals (have : (zeros ds : Int) = 0 ↔ zeros ds = 0 := by omega)
    all_goals simp_all
    all_goals omega
end Ago
namespace Ago
open Go (IntKind)
/-- R05.Valid -/
def tmIn (t : Tm) : Bool := decide (1 ≤ t.kind ∧ t.kind ≤ 4 ∧ 0 ≤ t.day ∧ t.day ≤ 3652058 ∧ 0 ≤ t.nano ∧ t.nano ≤ 86399999999999 ∧ -1439 ≤ t.off ∧ t.off ≤ 1439)
def tmOk (t : Tm) : Bool := tmIn t && decide (t.kind = 2 → t.day = 0) && decide (t.kind = 1 → t.nano = 0) && decide (t.kind = 4 ∨ t.off = 0)
def encTm (t : Tm) : AV := .agg [.int .i64 t.kind, .int .i64 t.day, .int .i64 t.nano, .int .i64 t.off]
theorem tm_false {t : Tm} (h : ¬ (1 ≤ t.kind ∧ t.kind ≤ 4 ∧ 0 ≤ t.day ∧ t.day ≤ 3652058 ∧ 0 ≤ t.nano ∧ t.nano ≤ 86399999999999 ∧ -1439 ≤ t.off ∧ t.off ≤ 1439)) : tmOk t = false := by
  unfold tmOk tmIn
  rw [decide_eq_false h]
  rfl
theorem tmI_run (t : Tm) : PRun C0 141 [encTm t] (.bool (tmOk t)) := by
  refine prun_of ac141 rfl ?_
  unfold encTm
  (repeat' first | simp (disch := omega) only [go_sem, ac141, enter] | ((apply spl) <;> intro h <;> try simp (disch := omega) only [go_sem, ac141, enter, h]))
  all_goals first
    | (rw [tm_false (by omega)]; done)
    | (simp [tmOk, tmIn]; omega)
    | (have e : tmOk t = (t.off == 0) := by
         rw [Bool.eq_iff_iff]
         simp [tmOk, tmIn]
         omega
       rw [e])
end Ago
/- The reference's look at times; whether a value has only what its kind has. -/
set_option maxRecDepth 100000
set_option maxHeartbeats 4000000
namespace Ago
open Go (IntKind)
theorem dated_run (t : Int) : PRun C0 91 [.int .i64 t] (.bool (decide (t = 1 ∨ t = 3 ∨ t = 4))) := by
  refine prun_of ac91 rfl ?_
  (repeat' first | simp (disch := omega) only [go_sem, ac91, enter] | ((apply spl) <;> intro h <;> try simp (disch := omega) only [go_sem, ac91, enter, h]))
  all_goals first
    | (simp; omega)
    | (congr 2; rw [Bool.eq_iff_iff]; simp; omega)
    | (simp_all; done)
theorem clocked_run (t : Int) : PRun C0 92 [.int .i64 t] (.bool (decide (t = 2 ∨ t = 3 ∨ t = 4))) := by
  refine prun_of ac92 rfl ?_
  (repeat' first | simp (disch := omega) only [go_sem, ac92, enter] | ((apply spl) <;> intro h <;> try simp (disch := omega) only [go_sem, ac92, enter, h]))
  all_goals first
    | (simp; omega)
    | (congr 2; rw [Bool.eq_iff_iff]; simp; omega)
    | (simp_all; done)
theorem tm_run (t : Tm) : PRun C0 80 [encTm t] (.bool (tmOk t)) := by
  have h1 := dated_run t.kind
  have h2 := clocked_run t.kind
  refine prun_of ac80 rfl ?_
  unfold encTm
  (repeat' first | simp (disch := omega) only [go_sem, ac80, enter] | refine pure_of _ (h1) ?_ | refine pure_of _ (h2) ?_ | ((apply spl) <;> intro h <;> try simp (disch := omega) only [go_sem, ac80, enter , h]))
  all_goals first
    | (rw [tm_false (by omega)]; done)
    | (simp [tmOk, tmIn]; omega)
    | (have e : tmOk t = (t.off == 0) := by
         rw [Bool.eq_iff_iff]
         simp [tmOk, tmIn]
         omega
       rw [e])

def numZ (d : Dec) : Bool := d.neg == false && (d.digits == [] && d.exp == 0)
def tmZ (t : Tm) : Bool := t.kind == 0 && (t.day == 0 && (t.nano == 0 && t.off == 0))
/-- Has the value only what its kind has? -/
def ownM (v : V) : Bool :=
  decide (0 ≤ v.s.kind ∧ v.s.kind ≤ 7) && (v.s.kind == 1 || v.s.bool == false) && (v.s.kind == 2 || numZ v.s.num) && (v.s.kind == 3 || tmZ v.s.time) &&
  (v.s.kind == 4 || v.s.text == []) && (v.s.kind == 5 || (v.s.bytes.length : Int) == 0) && (v.s.kind == 6 || (v.l.length : Int) == 0) && (v.s.kind == 7 || (v.f.length : Int) == 0)
theorem own_run (v : V) : PRun C0 78 [encV v] (.bool (ownM v)) := by
  refine prun_of ac78 rfl ?_
  rw [encV_eq]
  (repeat' first | simp (disch := omega) only [go_sem, ac78, enter, List.length_map, encB_len] | ((apply spl) <;> intro h <;> try simp (disch := omega) only [go_sem, ac78, enter, List.length_map, encB_len, h]))
  all_goals (congr 2; unfold ownM numZ tmZ; simp_all)
  all_goals omega
end Ago
/- What is wrong with the keys of fields, exactly. -/
set_option maxRecDepth 100000
set_option maxHeartbeats 4000000
namespace Ago
open Go (IntKind)
def keysGo : List (List UInt8) → List (List UInt8) → Int
  | _, [] => 0
  | pre, x :: l => if utf x = false then 5 else if 1024 < x.length then 10 else if pre.contains x then 8 else keysGo (pre ++ [x]) l
def keysM (l : List (List UInt8)) : Int := keysGo [] l
theorem keysM_step {l : List (List UInt8)} {i : Nat} {x : List UInt8} (h : l[i]? = some x) : keysGo (l.take i) (l.drop i) = if utf x = false then 5 else if 1024 < x.length then 10 else if (l.take i).contains x then 8 else keysGo (l.take (i + 1)) (l.drop (i + 1)) := by
  have hl := (List.getElem?_eq_some_iff.1 h)
  obtain ⟨hlt, hx⟩ := hl
  rw [List.drop_eq_getElem_cons hlt, hx]
  conv => lhs; unfold keysGo
  rw [List.take_add_one, h]
  rfl
theorem keys_run (f : List (List UInt8 × V)) (hf : f.length < 2 ^ 30) (hk : ∀ x, x ∈ f → x.1.length < 2 ^ 30) : PRun C0 81 [.tsl 14 (f.map encFd)] (.int .i64 (keysM (f.map (·.1)))) := by
  refine prun_of ac81 rfl ?_
  (repeat' first | simp (disch := omega) only [go_sem, ac81, enter] | ((apply spl) <;> intro h <;> try simp (disch := omega) only [go_sem, ac81, enter, h]))
  refine loop_of (α := Nat) (fun i => { tmps := slots 41 [(0, .tsl 14 (f.map encFd)), (3, .int .i64 i)], heap := [], base := 0 }) (fun i => i ≤ f.length ∧ keysM (f.map (·.1)) = keysGo ((f.map (·.1)).take i) ((f.map (·.1)).drop i)) (fun i => f.length - i) 0 rfl ⟨Nat.zero_le _, rfl⟩ ?_
  rintro i ⟨hi, hm⟩
  by_cases hlt : i < f.length
  · obtain ⟨x, hx⟩ := get_some hlt
    have hx2 := map_get (g := encFd) hx
    have hx3 := map_get (g := fun y : List UInt8 × V => y.1) hx
    rw [encFd_eq] at hx2
    have hu := utf_run x.1 (hk x (List.mem_of_getElem? hx))
    rw [keysM_step hx3] at hm
    cases hux : utf x.1 with
    | false =>
      rw [hux] at hu hm
      rw [if_pos rfl] at hm
      rw [hm]
      (repeat' first | simp (disch := omega) only [go_sem, hx2, List.length_map] | refine pure_of _ (hu) ?_ | ((apply spl) <;> intro h <;> try simp (disch := omega) only [go_sem, hx2, List.length_map , h]))
    | true =>
      rw [hux] at hu hm
      rw [if_neg (by simp)] at hm
      by_cases h1 : 1024 < x.1.length
      · rw [if_pos h1] at hm
        rw [hm]
        (repeat' first | simp (disch := omega) only [go_sem, hx2, List.length_map] | refine pure_of _ (hu) ?_ | ((apply spl) <;> intro h <;> try simp (disch := omega) only [go_sem, hx2, List.length_map , h]))
      · rw [if_neg h1] at hm
        (repeat' first | simp (disch := omega) only [go_sem, hx2, List.length_map] | refine pure_of _ (hu) ?_ | ((apply spl) <;> intro h <;> try simp (disch := omega) only [go_sem, hx2, List.length_map , h]))
        refine loop_of (α := Nat) (fun j => { tmps := slots 41 [(0, .tsl 14 (f.map encFd)), (3, .int .i64 i), (4, .int .i64 j)], heap := [], base := 0 }) (fun j => j ≤ i ∧ ∀ y, y ∈ (f.map (·.1)).take j → y ≠ x.1) (fun j => i - j) 0 rfl ⟨Nat.zero_le _, by simp⟩ ?_
        rintro j ⟨hj, hne⟩
        by_cases hlt2 : j < i
        · obtain ⟨y, hy⟩ := get_some (s := f) (k := j) (by omega)
          have hy2 := map_get (g := encFd) hy
          have hy3 := map_get (g := fun y : List UInt8 × V => y.1) hy
          rw [encFd_eq] at hy2
          by_cases he : y.1 = x.1
          · have hc : ((f.map (·.1)).take i).contains x.1 = true := by
              rw [List.contains_iff_mem]
              refine List.mem_of_getElem? (i := j) ?_
              rw [List.getElem?_take_of_lt hlt2, hy3, he]
            rw [if_pos hc] at hm
            rw [hm]
            have he2 : (y.1 == x.1) = true := by simpa using he
            (repeat' first | simp (disch := omega) only [go_sem, hx2, hy2, he2, List.length_map] | ((apply spl) <;> intro h <;> try simp (disch := omega) only [go_sem, hx2, hy2, he2, List.length_map, h]))
          · have he2 : (y.1 == x.1) = false := by simpa using he
            (repeat' first | simp (disch := omega) only [go_sem, hx2, hy2, he2, List.length_map] | ((apply spl) <;> intro h <;> try simp (disch := omega) only [go_sem, hx2, hy2, he2, List.length_map, h]))
            refine ⟨j + 1, rfl, ⟨hlt2, fun z hz => ?_⟩, by omega⟩
            rw [List.take_add_one, hy3] at hz
            rcases List.mem_append.1 hz with hz | hz
            · exact hne z hz
            · have : z = y.1 := by simpa using hz
              rw [this]
              exact he
        · have hji : j = i := by omega
          subst hji
          have hc : ((f.map (·.1)).take j).contains x.1 = false := by
            rw [Bool.eq_false_iff]
            intro h
            rw [List.contains_iff_mem] at h
            exact hne _ h rfl
          rw [if_neg (by rw [hc]; simp)] at hm
          (repeat' first | simp (disch := omega) only [go_sem, hx2, List.length_map] | ((apply spl) <;> intro h <;> try simp (disch := omega) only [go_sem, hx2, List.length_map, h]))
          exact ⟨j + 1, rfl, ⟨hlt, hm⟩, by omega⟩
  · have e : keysM (f.map (·.1)) = 0 := by
      rw [hm, List.drop_of_length_le (by simp; omega)]
      unfold keysGo
      rfl
    rw [e]
    (repeat' first | simp (disch := omega) only [go_sem, List.length_map] | ((apply spl) <;> intro h <;> try simp (disch := omega) only [go_sem, List.length_map, h]))
end Ago
/- What is wrong with one value, exactly. -/
set_option maxRecDepth 100000
set_option maxHeartbeats 4000000
namespace Ago
open Go (IntKind)
def oneM (v : V) : Int :=
  if ownM v = false then 6
  else if decOk v.s.num = false ∨ v.s.kind = 3 ∧ tmOk v.s.time = false then 2
  else if utf v.s.text = false then 5
  else if 65536 < v.s.text.length ∨ 65536 < v.s.bytes.length then 10
  else keysM (v.f.map (·.1))
theorem one_run (v : V) (hv : v.bulk ≤ 2 ^ 24) : PRun C0 57 [encV v] (.int .i64 (oneM v)) := by
  have L := V.lens hv
  have h1 := own_run v
  have h2 := decOk_run v.s.num (by have := L.digits; omega)
  have h3 := utf_run v.s.text (by have := L.text; omega)
  have h4 := tm_run v.s.time
  have h5 := keys_run v.f (by have := L.fields; omega) (fun x hx => by have := (L.fkids x hx).2; omega)
  unfold encTm at h4
  unfold encDec at h2
  rw [encV_eq] at h1 ⊢
  refine prun_of ac57 rfl ?_
  unfold oneM
  cases hb1 : ownM v with
  | false =>
    rw [hb1] at h1
    (repeat' first | simp (disch := omega) only [go_sem, ac57, enter, List.length_map, encB_len] | refine pure_of _ (h1) ?_ | refine pure_of _ (h2) ?_ | refine pure_of _ (h3) ?_ | refine pure_of _ (h4) ?_ | refine pure_of _ (h5) ?_ | ((apply spl) <;> intro h <;> try simp (disch := omega) only [go_sem, ac57, enter, List.length_map, encB_len , h]))
  | true =>
    rw [hb1] at h1
    rw [if_neg (by simp)]
    cases hb2 : decOk v.s.num with
    | false =>
      rw [hb2] at h2
      rw [if_pos (.inl rfl)]
      (repeat' first | simp (disch := omega) only [go_sem, ac57, enter, List.length_map, encB_len] | refine pure_of _ (h1) ?_ | refine pure_of _ (h2) ?_ | refine pure_of _ (h3) ?_ | refine pure_of _ (h4) ?_ | refine pure_of _ (h5) ?_ | ((apply spl) <;> intro h <;> try simp (disch := omega) only [go_sem, ac57, enter, List.length_map, encB_len , h]))
    | true =>
      rw [hb2] at h2
      by_cases hb4 : v.s.kind = 3 ∧ tmOk v.s.time = false
      · rw [if_pos (.inr hb4)]
        rw [hb4.2] at h4
        have hk := hb4.1
        rw [hk] at h1
        (repeat' first | simp (disch := omega) only [go_sem, ac57, enter, List.length_map, encB_len, hk] | refine pure_of _ (h1) ?_ | refine pure_of _ (h2) ?_ | refine pure_of _ (h3) ?_ | refine pure_of _ (h4) ?_ | refine pure_of _ (h5) ?_ | ((apply spl) <;> intro h <;> try simp (disch := omega) only [go_sem, ac57, enter, List.length_map, encB_len, hk , h]))
      · rw [if_neg (by simpa using hb4)]
        have hkt : v.s.kind = 3 → tmOk v.s.time = true := fun h => by
          cases ht : tmOk v.s.time with
          | true => rfl
          | false => exact (hb4 ⟨h, ht⟩).elim
        cases hb3 : utf v.s.text with
        | false =>
          rw [hb3] at h3
          rw [if_pos rfl]
          by_cases hk : v.s.kind = 3
          · rw [hkt hk] at h4; rw [hk] at h1
            (repeat' first | simp (disch := omega) only [go_sem, ac57, enter, List.length_map, encB_len, hk] | refine pure_of _ (h1) ?_ | refine pure_of _ (h2) ?_ | refine pure_of _ (h3) ?_ | refine pure_of _ (h4) ?_ | refine pure_of _ (h5) ?_ | ((apply spl) <;> intro h <;> try simp (disch := omega) only [go_sem, ac57, enter, List.length_map, encB_len, hk , h]))
          · (repeat' first | simp (disch := omega) only [go_sem, ac57, enter, List.length_map, encB_len, hk] | refine pure_of _ (h1) ?_ | refine pure_of _ (h2) ?_ | refine pure_of _ (h3) ?_ | refine pure_of _ (h4) ?_ | refine pure_of _ (h5) ?_ | ((apply spl) <;> intro h <;> try simp (disch := omega) only [go_sem, ac57, enter, List.length_map, encB_len, hk , h]))
        | true =>
          rw [hb3] at h3
          rw [if_neg (by simp)]
          by_cases hs : 65536 < v.s.text.length ∨ 65536 < v.s.bytes.length
          · rw [if_pos hs]
            by_cases hk : v.s.kind = 3
            · rw [hkt hk] at h4; rw [hk] at h1
              (repeat' first | simp (disch := omega) only [go_sem, ac57, enter, List.length_map, encB_len, hk] | refine pure_of _ (h1) ?_ | refine pure_of _ (h2) ?_ | refine pure_of _ (h3) ?_ | refine pure_of _ (h4) ?_ | refine pure_of _ (h5) ?_ | ((apply spl) <;> intro h <;> try simp (disch := omega) only [go_sem, ac57, enter, List.length_map, encB_len, hk , h]))
              all_goals first | omega | rfl
            · (repeat' first | simp (disch := omega) only [go_sem, ac57, enter, List.length_map, encB_len, hk] | refine pure_of _ (h1) ?_ | refine pure_of _ (h2) ?_ | refine pure_of _ (h3) ?_ | refine pure_of _ (h4) ?_ | refine pure_of _ (h5) ?_ | ((apply spl) <;> intro h <;> try simp (disch := omega) only [go_sem, ac57, enter, List.length_map, encB_len, hk , h]))
              all_goals first | omega | rfl
          · rw [if_neg hs]
            by_cases hk : v.s.kind = 3
            · rw [hkt hk] at h4; rw [hk] at h1
              (repeat' first | simp (disch := omega) only [go_sem, ac57, enter, List.length_map, encB_len, hk] | refine pure_of _ (h1) ?_ | refine pure_of _ (h2) ?_ | refine pure_of _ (h3) ?_ | refine pure_of _ (h4) ?_ | refine pure_of _ (h5) ?_ | ((apply spl) <;> intro h <;> try simp (disch := omega) only [go_sem, ac57, enter, List.length_map, encB_len, hk , h]))
              all_goals first | omega | rfl
            · (repeat' first | simp (disch := omega) only [go_sem, ac57, enter, List.length_map, encB_len, hk] | refine pure_of _ (h1) ?_ | refine pure_of _ (h2) ?_ | refine pure_of _ (h3) ?_ | refine pure_of _ (h4) ?_ | refine pure_of _ (h5) ?_ | ((apply spl) <;> intro h <;> try simp (disch := omega) only [go_sem, ac57, enter, List.length_map, encB_len, hk , h]))
              all_goals first | omega | rfl
end Ago
/- The reference's Check, exactly. -/
set_option maxRecDepth 100000
set_option maxHeartbeats 4000000
namespace Ago
open Go (IntKind)
/-- One look after the other, up to the first fault. -/
def seqL (f : V → Int → Int × Int) : List V → Int → Int × Int
  | [], seen => (seen, 0)
  | x :: l, seen => if (f x seen).2 = 0 then seqL f l (f x seen).1 else f x seen
/-- R07.look: how many have been visited, and what is wrong. -/
def lookM : Nat → V → Int → Int → Int × Int
  | 0, _, _, seen => (seen, 9)
  | k + 1, v, d, seen => if 48 < d then (seen, 9) else if 65536 ≤ seen then (seen, 10) else if oneM v ≠ 0 then (seen, oneM v) else seqL (fun x s => lookM k x (d + 1) s) v.kids (seen + 1)
theorem seqL_step {f : V → Int → Int × Int} {l : List V} {x : V} {seen : Int} : seqL f (x :: l) seen = if (f x seen).2 = 0 then seqL f l (f x seen).1 else f x seen := rfl
theorem seqL_range {f : V → Int → Int × Int} (hf : ∀ x s, 0 ≤ s → s ≤ 65536 → 0 ≤ (f x s).1 ∧ (f x s).1 ≤ 65536) : ∀ (l : List V) (s : Int), 0 ≤ s → s ≤ 65536 → 0 ≤ (seqL f l s).1 ∧ (seqL f l s).1 ≤ 65536
  | [], s, h1, h2 => ⟨h1, h2⟩
  | x :: l, s, h1, h2 => by
    have h := hf x s h1 h2
    rw [seqL_step]
    split
    · exact seqL_range hf l _ h.1 h.2
    · exact h
theorem lookM_range : ∀ (k : Nat) (v : V) (d s : Int), 0 ≤ s → s ≤ 65536 → 0 ≤ (lookM k v d s).1 ∧ (lookM k v d s).1 ≤ 65536
  | 0, v, d, s, h1, h2 => ⟨h1, h2⟩
  | k + 1, v, d, s, h1, h2 => by
    unfold lookM
    split
    · exact ⟨h1, h2⟩
    · split
      · exact ⟨h1, h2⟩
      · split
        · exact ⟨h1, h2⟩
        · exact seqL_range (fun x s h1 h2 => lookM_range k x (d + 1) s h1 h2) _ _ (by omega) (by omega)
theorem look_run : ∀ (n : Nat) (v : V), v.bulk ≤ n → n ≤ 2 ^ 24 → ∀ (f : Nat) (d seen : Int), 0 ≤ d → 49 < d + f → d ≤ 49 → 0 < f → 0 ≤ seen → seen ≤ 65536 → PRun C0 39 [encV v, .int .i64 d, .int .i64 seen] (.tup [.int .i64 (lookM f v d seen).1, .int .i64 (lookM f v d seen).2]) := by
  intro n
  induction n with
  | zero =>
    intro v hv
    have : 1 ≤ v.bulk := bulk_one _
    omega
  | succ n ih =>
    intro v hv hn f d seen hd1 hdf hd2 hf0 hs1 hs2
    obtain ⟨f, rfl⟩ : ∃ g, f = g + 1 := ⟨f - 1, by omega⟩
    have h1 := one_run v (by omega)
    have h2 := kids_run v (by omega)
    obtain ⟨kb1, kb2⟩ := kids_bulk (v := v) (by omega)
    rw [encV_eq] at h1 h2 ⊢
    rw [show lookM (f + 1) v d seen = if 48 < d then (seen, 9) else if 65536 ≤ seen then (seen, 10) else if oneM v ≠ 0 then (seen, oneM v) else seqL (fun x s => lookM f x (d + 1) s) v.kids (seen + 1) from rfl]
    refine prun_of ac39 rfl ?_
    by_cases g1 : 48 < d
    · rw [if_pos g1]
      (repeat' first | simp (disch := omega) only [go_sem, ac39, enter, List.length_map] | refine pure_of _ (h1) ?_ | refine pure_of _ (h2) ?_ | ((apply spl) <;> intro h <;> try simp (disch := omega) only [go_sem, ac39, enter, List.length_map , h]))
    · rw [if_neg g1]
      by_cases g2 : 65536 ≤ seen
      · rw [if_pos g2]
        (repeat' first | simp (disch := omega) only [go_sem, ac39, enter, List.length_map] | refine pure_of _ (h1) ?_ | refine pure_of _ (h2) ?_ | ((apply spl) <;> intro h <;> try simp (disch := omega) only [go_sem, ac39, enter, List.length_map , h]))
      · rw [if_neg g2]
        by_cases g3 : oneM v = 0
        · rw [if_neg (by simpa using g3)]
          rw [g3] at h1
          (repeat' first | simp (disch := omega) only [go_sem, ac39, enter, List.length_map] | refine pure_of _ (h1) ?_ | refine pure_of _ (h2) ?_ | ((apply spl) <;> intro h <;> try simp (disch := omega) only [go_sem, ac39, enter, List.length_map , h]))
          refine loop_of (α := Nat × Int) (fun a => { tmps := slots 50 [(1, .int .i64 d), (2, .int .i64 a.2), (9, .tsl 13 (v.kids.map encV)), (10, .int .i64 a.1)], heap := [], base := 0 }) (fun a => a.1 ≤ v.kids.length ∧ seqL (fun x s => lookM f x (d + 1) s) v.kids (seen + 1) = seqL (fun x s => lookM f x (d + 1) s) (v.kids.drop a.1) a.2 ∧ 0 ≤ a.2 ∧ a.2 ≤ 65536) (fun a => v.kids.length - a.1) (0, seen + 1) rfl ⟨Nat.zero_le _, rfl, by simp only; omega, by simp only; omega⟩ ?_
          rintro ⟨k, sn⟩ ⟨hk, hm, hs3, hs4⟩
          simp only at hk hm hs3 hs4
          by_cases hlt : k < v.kids.length
          · obtain ⟨x, hx⟩ := get_some hlt
            have hxm := List.mem_of_getElem? hx
            have hx2 := map_get (g := encV) hx
            have hdr : v.kids.drop k = x :: v.kids.drop (k + 1) := by
              obtain ⟨h3, h4⟩ := List.getElem?_eq_some_iff.1 hx
              rw [List.drop_eq_getElem_cons h3, h4]
            have hr := ih x (by have := kb1 x hxm; omega) (by omega) f (d + 1) sn (by omega) (by omega) (by omega) (by omega) (by omega) (by omega)
            have hrg := lookM_range f x (d + 1) sn hs3 hs4
            rw [hdr, seqL_step] at hm
            generalize lookM f x (d + 1) sn = r at hr hm hrg
            rw [encV_eq] at hx2 hr
            by_cases he : r.2 = 0
            · rw [if_pos he] at hm
              rw [he] at hr
              (repeat' first | simp (disch := omega) only [go_sem, hx2, List.length_map] | refine pure_of _ (hr) ?_ | ((apply spl) <;> intro h <;> try simp (disch := omega) only [go_sem, hx2, List.length_map , h]))
              exact ⟨(k + 1, r.1), rfl, ⟨hlt, hm, hrg.1, hrg.2⟩, by simp only; omega⟩
            · rw [if_neg he] at hm
              rw [hm]
              (repeat' first | simp (disch := omega) only [go_sem, hx2, List.length_map, he] | refine pure_of _ (hr) ?_ | ((apply spl) <;> intro h <;> try simp (disch := omega) only [go_sem, hx2, List.length_map, he , h]))
          · rw [List.drop_of_length_le (by omega)] at hm
            rw [hm]
            (repeat' first | simp (disch := omega) only [go_sem, List.length_map] | ((apply spl) <;> intro h <;> try simp (disch := omega) only [go_sem, List.length_map, h]))
            rfl
        · rw [if_pos g3]
          (repeat' first | simp (disch := omega) only [go_sem, ac39, enter, List.length_map, g3] | refine pure_of _ (h1) ?_ | refine pure_of _ (h2) ?_ | ((apply spl) <;> intro h <;> try simp (disch := omega) only [go_sem, ac39, enter, List.length_map, g3 , h]))
/-- R07.Check -/
def checkM (v : V) : Int := (lookM 49 v 1 0).2
theorem check_run (v : V) (hv : v.bulk ≤ 2 ^ 24) : PRun C0 19 [encV v] (.int .i64 (checkM v)) := by
  have h1 := look_run _ v (Nat.le_refl _) hv 49 1 0 (by omega) (by omega) (by omega) (by omega) (by omega) (by omega)
  rw [encV_eq] at h1 ⊢
  refine prun_of ac19 rfl ?_
  (repeat' first | simp (disch := omega) only [go_sem, ac19, enter] | refine pure_of _ (h1) ?_ | ((apply spl) <;> intro h <;> try simp (disch := omega) only [go_sem, ac19, enter , h]))
  all_goals rfl
end Ago
/- The program's own look at a value. -/
set_option maxRecDepth 100000
set_option maxHeartbeats 4000000
namespace Ago
open Go (IntKind)
def keyM (k : List UInt8) : Int := if utf k = false then 5 else if 1024 < k.length then 10 else 0
theorem keyI_run (k : List UInt8) (hk : k.length < 2 ^ 30) : PRun C0 151 [.str k] (.int .i64 (keyM k)) := by
  have hu := utfI_run k hk
  refine prun_of ac151 rfl ?_
  unfold keyM
  cases hb : utf k with
  | false =>
    rw [hb] at hu
    rw [if_pos rfl]
    (repeat' first | simp (disch := omega) only [go_sem, ac151, enter] | refine pure_of _ (hu) ?_ | ((apply spl) <;> intro h <;> try simp (disch := omega) only [go_sem, ac151, enter , h]))
  | true =>
    rw [hb] at hu
    rw [if_neg (by simp)]
    by_cases h : 1024 < k.length
    · rw [if_pos h]
      (repeat' first | simp (disch := omega) only [go_sem, ac151, enter] | refine pure_of _ (hu) ?_ | ((apply spl) <;> intro h <;> try simp (disch := omega) only [go_sem, ac151, enter , h]))
    · rw [if_neg h]
      (repeat' first | simp (disch := omega) only [go_sem, ac151, enter] | refine pure_of _ (hu) ?_ | ((apply spl) <;> intro h <;> try simp (disch := omega) only [go_sem, ac151, enter , h]))
end Ago
/- value.extra. -/
set_option maxRecDepth 100000
set_option maxHeartbeats 4000000
namespace Ago
open Go (IntKind)
/-- Has the value what its kind does not have? -/
def extraM (v : V) : Bool :=
  (!(v.s.kind == 1) && v.s.bool) || (!(v.s.kind == 2) && !numZ v.s.num) || (!(v.s.kind == 3) && !tmZ v.s.time) ||
  (!(v.s.kind == 4) && !(v.s.text == [])) || (!(v.s.kind == 5) && decide (0 < v.s.bytes.length)) || (!(v.s.kind == 6) && decide (0 < v.l.length)) || (!(v.s.kind == 7) && decide (0 < v.f.length))
theorem len_zero_bool {α : Type} (l : List α) : ((l.length : Int) == 0) = !decide (0 < l.length) := by
  cases l with
  | nil => rfl
  | cons x l => simp; omega
theorem own_extra (v : V) : ownM v = (decide (0 ≤ v.s.kind ∧ v.s.kind ≤ 7) && !extraM v) := by
  unfold ownM extraM
  simp only [len_zero_bool, Bool.not_or, Bool.not_and, Bool.not_not, Bool.and_assoc, Bool.not_eq_eq_eq_not, beq_false]
theorem extra_run (v : V) : PRun C0 139 [encV v] (.bool (extraM v)) := by
  refine prun_of ac139 rfl ?_
  rw [encV_eq]
  (repeat' first | simp (disch := omega) only [go_sem, ac139, enter, List.length_map, encB_len] | ((apply spl) <;> intro h <;> try simp (disch := omega) only [go_sem, ac139, enter, List.length_map, encB_len, h]))
  all_goals (congr 2; unfold extraM numZ tmZ; simp_all [List.length_pos_iff])
  all_goals grind
end Ago
/- The head of a loop, where no block has a reference: what is kept can be computed though maps are not told. -/
namespace Ago
def Blk.refam (g : Nat → Nat) : Blk → Blk
  | .row n els ro fl fam => .row n els ro fl (g fam)
  | b => b
def Blk.isRo : Blk → Bool
  | .row _ _ ro _ _ => ro
  | _ => false
/-- A block without references, whatever it holds. -/
def Calm (b : Blk) : Prop := b.refs = [] ∧ (∀ f g, Blk.ren f g b = Blk.refam g b) ∧ b.isRo = false
def Calms (H : Heap) : Prop := ∀ b, b ∈ H → Calm b
theorem calm_row (n : Nat) (els : List AV) (fam : Nat) : Calm (.row n els false true fam) := ⟨rfl, fun _ _ => rfl, rfl⟩
theorem calm_gone : Calm .gone := ⟨rfl, fun _ _ => rfl, rfl⟩
/-- Values that 'ren' leaves alone. -/
def Still (x : AV) : Prop := AV.refsN 6 x = [] ∧ ∀ f, AV.renN f 6 x = x
theorem calm_map {es : List (AV × AV)} (h : ∀ x, x ∈ es → Still x.1 ∧ Still x.2) : Calm (.map es) := by
  refine ⟨?_, fun f g => ?_, rfl⟩
  · show es.flatMap (fun x => AV.refsN 6 x.1 ++ AV.refsN 6 x.2) = []
    rw [List.flatMap_eq_nil_iff]
    intro x hx
    obtain ⟨h1, h2⟩ := h x hx
    rw [h1.1, h2.1]
    rfl
  · show Blk.map (es.map fun x => (AV.renN f 6 x.1, AV.renN f 6 x.2)) = .map es
    congr 1
    rw [List.map_congr_left (g := id) (fun x hx => by rw [(h x hx).1.2, (h x hx).2.2]; rfl), List.map_id]
theorem Calms.nil : Calms [] := fun b h => by cases h
theorem Calms.cons {b : Blk} {H : Heap} (h1 : Calm b) (h2 : Calms H) : Calms (b :: H) := fun x h => by
  rcases List.mem_cons.1 h with rfl | h
  · exact h1
  · exact h2 x h
theorem still_str (s : List UInt8) : Still (.str s) := ⟨rfl, fun _ => rfl⟩
theorem still_bool (b : Bool) : Still (.bool b) := ⟨rfl, fun _ => rfl⟩
theorem still_int (k : Go.IntKind) (n : Int) : Still (.int k n) := ⟨rfl, fun _ => rfl⟩
def reachP (n base : Nat) : Nat → List Nat → List Nat → List Nat
  | 0, _, seen => seen
  | _ + 1, [], seen => seen
  | k + 1, r :: todo, seen =>
    if r < base then reachP n base k todo seen
    else if seen.contains r then reachP n base k todo seen
    else if r < n then reachP n base k todo (seen ++ [r])
    else reachP n base k todo seen
theorem reach_calm {H : Heap} (hH : Calms H) (base : Nat) : ∀ (k : Nat) (todo seen : List Nat), reach H base k todo seen = reachP H.length base k todo seen
  | 0, _, _ => rfl
  | _ + 1, [], _ => rfl
  | k + 1, r :: todo, seen => by
    unfold reach reachP
    split
    · exact reach_calm hH base k todo seen
    · split
      · exact reach_calm hH base k todo seen
      · by_cases hlt : r < H.length
        · rw [if_pos hlt, List.getElem?_eq_getElem hlt]
          simp only
          rw [(hH _ (List.getElem_mem hlt)).1, List.nil_append]
          exact reach_calm hH base k todo (seen ++ [r])
        · rw [if_neg hlt, List.getElem?_eq_none (by omega)]
          exact reach_calm hH base k todo seen
theorem dropped_calm (ks : List Nat) : ∀ (E : Heap) (j : Nat), Calms E → droppedGo ks E j = []
  | [], _, _ => rfl
  | b :: E, j, h => by
    have ih := dropped_calm ks E (j + 1) fun x hx => h x (by simp [hx])
    have hb := (h b (by simp)).2.2
    cases b with
    | row n els ro fl fam =>
      simp only [Blk.isRo] at hb
      subst hb
      exact ih
    | _ => exact ih
def normC (live : List Nat) (tm : List AV) (H : Heap) (m : Nat) : St :=
  let L := keepLive live 0 tm
  let ks := reachP H.length m 4000 (L.flatMap (AV.refsN 6)) []
  { tmps := L.map (AV.renN (renOf m ks) 6), heap := (H.take m ++ ks.map fun r => H.getD r .gone).map (Blk.refam (famRen H m ks)), base := m, rb := 0 }
theorem norm_calm {live : List Nat} {tm : List AV} {H : Heap} {m rb : Nat} (hH : Calms H) : St.norm live ⟨tm, H, m, rb⟩ = normC live tm H m := by
  unfold St.norm St.normTm normC
  have hT : Calms (H.take m) := fun b hb => hH b (List.mem_of_mem_take hb)
  have hr : (H.take m).flatMap Blk.refs = [] := by
    rw [List.flatMap_eq_nil_iff]
    exact fun b hb => (hT b hb).1
  simp only [hr, List.append_nil]
  rw [reach_calm hH]
  generalize reachP H.length m 4000 ((keepLive live 0 tm).flatMap (AV.refsN 6)) [] = ks
  unfold St.normBy
  simp only
  rw [dropped_calm ks (H.drop m) m fun b hb => hH b (List.mem_of_mem_drop hb)]
  have hK : Calms (H.take m ++ ks.map fun r => H.getD r .gone) := fun b hb => by
    rcases List.mem_append.1 hb with hb | hb
    · exact hT b hb
    · obtain ⟨r, _, rfl⟩ := List.mem_map.1 hb
      rw [List.getD_eq_getElem?_getD]
      cases hx : H[r]? with
      | none => exact calm_gone
      | some x => exact hH x (List.mem_of_getElem? hx)
  have hc : closedBy (renOf m ks) (H.take m ++ ks.map fun r => H.getD r .gone) = true := by
    unfold closedBy
    rw [List.all_eq_true]
    intro b hb
    rw [(hK b hb).1]
    rfl
  simp only [hc, roFit, roMark, Bool.and_self, normIf]
  congr 1
  exact List.map_congr_left fun b hb => (hK b hb).2.1 _ _
end Ago
/- value.keys: the map of the keys that were seen. -/
set_option maxRecDepth 100000
set_option maxHeartbeats 4000000
namespace Ago
open Go (IntKind)
/-- A set of strings, as a map. -/
def setMap (l : List (List UInt8)) : List (AV × AV) := l.map fun x => (.str x, .bool true)
theorem calm_set (l : List (List UInt8)) : Calm (.map (setMap l)) := calm_map fun x hx => by
  unfold setMap at hx
  obtain ⟨y, _, rfl⟩ := List.mem_map.1 hx
  exact ⟨still_str y, still_bool true⟩
theorem findKey_set (k : List UInt8) : ∀ (l : List (List UInt8)) (i : Nat), (l.contains k = false → findKey (.one .str) (.str k) (setMap l) i = some none) ∧ (l.contains k = true → ∃ j, findKey (.one .str) (.str k) (setMap l) i = some (some (j, .bool true)))
  | [], i => ⟨fun _ => rfl, fun h => by simp at h⟩
  | x :: l, i => by
    obtain ⟨h1, h2⟩ := findKey_set k l (i + 1)
    by_cases he : k = x
    · subst he
      refine ⟨fun h => by simp at h, fun _ => ⟨i, ?_⟩⟩
      simp [setMap, findKey, keyEq, cellEq]
    · have e : findKey (.one .str) (.str k) (setMap (x :: l)) i = findKey (.one .str) (.str k) (setMap l) (i + 1) := by
        have : (k == x) = false := by simpa using he
        simp [setMap, findKey, keyEq, cellEq, this]
      rw [e]
      have hc : (x :: l).contains k = l.contains k := by
        have : (k == x) = false := by simpa using he
        rw [List.contains_cons, this, Bool.false_or]
      rw [hc]
      exact ⟨h1, h2⟩
theorem keysI_run (f : List (List UInt8 × V)) (hf : f.length < 2 ^ 30) (hk : ∀ x, x ∈ f → x.1.length < 2 ^ 30) : PRun C0 142 [.tsl 14 (f.map encFd)] (.int .i64 (keysM (f.map (·.1)))) := by
  refine prun_of ac142 rfl ?_
  (repeat' first | simp (disch := omega) only [go_sem, ac142, enter] | ((apply spl) <;> intro h <;> try simp (disch := omega) only [go_sem, ac142, enter, h]))
  refine loop_of (α := Nat) (fun i => { tmps := slots 28 [(3, .mref 0), (8, .tsl 14 (f.map encFd)), (9, .int .i64 f.length), (10, .int .i64 i)], heap := [.map (setMap ((f.map (·.1)).take i))], base := 0 })
    (fun i => i ≤ f.length ∧ keysM (f.map (·.1)) = keysGo ((f.map (·.1)).take i) ((f.map (·.1)).drop i)) (fun i => f.length - i) 0 (by first | rfl | (simp only [List.length_map]; rfl)) ⟨Nat.zero_le _, rfl⟩ ?_
  rintro i ⟨hi, hm⟩
  by_cases hlt : i < f.length
  · obtain ⟨x, hx⟩ := get_some hlt
    have hx2 := map_get (g := encFd) hx
    have hx3 := map_get (g := fun y : List UInt8 × V => y.1) hx
    rw [encFd_eq] at hx2
    have hu := keyI_run x.1 (hk x (List.mem_of_getElem? hx))
    rw [keysM_step hx3] at hm
    unfold keyM at hu
    cases hux : utf x.1 with
    | false =>
      rw [if_pos hux] at hu
      rw [if_pos hux] at hm
      rw [hm]
      (repeat' first | simp (disch := omega) only [go_sem, hx2, List.length_map] | refine pure_of _ (hu) ?_ | ((apply spl) <;> intro h <;> try simp (disch := omega) only [go_sem, hx2, List.length_map , h]))
    | true =>
      rw [if_neg (by rw [hux]; simp)] at hu hm
      by_cases h1 : 1024 < x.1.length
      · rw [if_pos h1] at hm hu
        rw [hm]
        (repeat' first | simp (disch := omega) only [go_sem, hx2, List.length_map] | refine pure_of _ (hu) ?_ | ((apply spl) <;> intro h <;> try simp (disch := omega) only [go_sem, hx2, List.length_map , h]))
      · rw [if_neg h1] at hm hu
        obtain ⟨hf1, hf2⟩ := findKey_set x.1 ((f.map (·.1)).take i) 0
        cases hc : ((f.map (·.1)).take i).contains x.1 with
        | true =>
          obtain ⟨j, hj⟩ := hf2 hc
          rw [if_pos hc] at hm
          rw [hm]
          (repeat' first | simp (disch := omega) only [go_sem, hx2, List.length_map, hj] | refine pure_of _ (hu) ?_ | ((apply spl) <;> intro h <;> try simp (disch := omega) only [go_sem, hx2, List.length_map, hj , h]))
        | false =>
          have hj := hf1 hc
          rw [if_neg (by rw [hc]; simp)] at hm
          (repeat' first | simp (disch := omega) only [go_sem, hx2, List.length_map, hj] | refine pure_of _ (hu) ?_ | ((apply spl) <;> intro h <;> try simp (disch := omega) only [go_sem, hx2, List.length_map, hj , h]))
          have e : setMap ((f.map (·.1)).take i) ++ [(.str x.1, .bool true)] = setMap ((f.map (·.1)).take (i + 1)) := by
            rw [List.take_add_one, hx3]
            simp [setMap]
          rw [e]
          exact ⟨i + 1, (norm_calm (.cons (calm_set _) (.cons (calm_row _ _ _) .nil))).trans rfl, ⟨hlt, hm⟩, by omega⟩
  · have e : keysM (f.map (·.1)) = 0 := by
      rw [hm, List.drop_of_length_le (by simp; omega)]
      unfold keysGo
      rfl
    rw [e]
    (repeat' first | simp (disch := omega) only [go_sem, List.length_map] | ((apply spl) <;> intro h <;> try simp (disch := omega) only [go_sem, List.length_map, h]))
end Ago
/- Heaps of rows that have no references, of a length that is not told. -/
set_option maxRecDepth 100000
set_option maxHeartbeats 4000000
namespace Ago
open Go (IntKind)

/-- Every block is a row of its own, and no element has a reference. -/
def Flat (H : Heap) : Prop := ∀ j b, H[j]? = some b → ∃ n els, b = Blk.row n els false true j
theorem Flat.nil : Flat [] := fun j b h => by simp at h
theorem Flat.push {H : Heap} (h : Flat H) (n : Nat) (els : List AV) : Flat (H ++ [.row n els false true H.length]) := fun j b hj => by
  by_cases hlt : j < H.length
  · rw [List.getElem?_append_left hlt] at hj
    exact h j b hj
  · rw [List.getElem?_append_right (by omega)] at hj
    have e : j - H.length = 0 := by
      have := (List.getElem?_eq_some_iff.1 hj).1
      simp at this
      omega
    rw [e] at hj
    obtain rfl : j = H.length := by omega
    cases hj
    exact ⟨n, els, rfl⟩
theorem Flat.push' {H : Heap} {k : Nat} (h : Flat H) (n : Nat) (els : List AV) (hk : k = H.length) : Flat (H ++ [.row n els false true k]) := by
  subst hk
  exact h.push n els
theorem Flat.set {H : Heap} (h : Flat H) (r n : Nat) (els : List AV) : Flat (H.set r (.row n els false true r)) := fun j b hj => by
  rw [List.getElem?_set] at hj
  split at hj
  · rename_i e
    subst e
    split at hj
    · cases hj
      exact ⟨n, els, rfl⟩
    · cases hj
  · exact h j b hj
theorem strikeGo_flat (r k : Nat) : ∀ (H : Heap) (i : Nat), (∀ j b, H[j]? = some b → ∃ n els, b = Blk.row n els false true (i + j)) → strikeGo r r k H i = some H
  | [], _, _ => rfl
  | b :: H, i, h => by
    have ih := strikeGo_flat r k H (i + 1) fun j b hj => by
      obtain ⟨n, els, e⟩ := h (j + 1) b (by simpa using hj)
      exact ⟨n, els, by rw [e]; congr 1; omega⟩
    obtain ⟨n, els, rfl⟩ := h 0 b (by simp)
    unfold strikeGo
    rw [ih]
    simp only [Nat.add_zero]
    rw [if_neg (by omega)]
theorem Flat.strike {H : Heap} (h : Flat H) (r k : Nat) : strikeGo r r k H 0 = some H := strikeGo_flat r k H 0 fun j b hj => by
  rw [Nat.zero_add]
  exact h j b hj
theorem Flat.refs {H : Heap} (h : Flat H) : H.flatMap Blk.refs = [] := by
  rw [List.flatMap_eq_nil_iff]
  intro b hb
  obtain ⟨j, hj⟩ := List.getElem?_of_mem hb
  obtain ⟨n, els, rfl⟩ := h j b hj
  rfl
theorem Flat.left {H E : Heap} (h : Flat (H ++ E)) : Flat H := fun j b hj => h j b (by
  rw [List.getElem?_append_left (List.getElem?_eq_some_iff.1 hj).1]
  exact hj)

theorem getP0 {H l : Heap} {b : Blk} {m : Nat} (h : m = H.length) : (H ++ b :: l)[m]? = some b := by
  subst h
  rw [List.getElem?_append_right (Nat.le_refl _), Nat.sub_self]
  rfl
theorem getP1 {H l : Heap} {a b : Blk} {m : Nat} (h : m = H.length + 1) : (H ++ a :: b :: l)[m]? = some b := by
  subst h
  rw [List.getElem?_append_right (by omega), Nat.add_sub_cancel_left]
  rfl
theorem setP0 {H l : Heap} {b x : Blk} {m : Nat} (h : m = H.length) : (H ++ b :: l).set m x = H ++ x :: l := by
  subst h
  rw [List.set_append_right _ _ (Nat.le_refl _), Nat.sub_self]
  rfl
theorem setP1 {H l : Heap} {a b x : Blk} {m : Nat} (h : m = H.length + 1) : (H ++ a :: b :: l).set m x = H ++ a :: x :: l := by
  subst h
  rw [List.set_append_right _ _ (by omega), Nat.add_sub_cancel_left]
  rfl
theorem getL {H l : Heap} {m : Nat} (h : m < H.length) : (H ++ l)[m]? = H[m]? := List.getElem?_append_left h
theorem setL {H l : Heap} {m : Nat} {x : Blk} (h : m < H.length) : (H ++ l).set m x = H.set m x ++ l := List.set_append_left _ _ h

/-! ### What the head of a loop keeps -/

theorem dropped_flat (ks : List Nat) : ∀ (E : Heap) (j : Nat), (∀ b, b ∈ E → ∃ n els fam, b = Blk.row n els false true fam) → droppedGo ks E j = []
  | [], _, _ => rfl
  | b :: E, j, h => by
    obtain ⟨n, els, fam, rfl⟩ := h b (by simp)
    unfold droppedGo
    exact dropped_flat ks E (j + 1) fun b hb => h b (by simp [hb])
theorem Flat.mem {H : Heap} (h : Flat H) : ∀ b, b ∈ H → ∃ n els fam, b = Blk.row n els false true fam := fun b hb => by
  obtain ⟨j, hj⟩ := List.getElem?_of_mem hb
  obtain ⟨n, els, rfl⟩ := h j b hj
  exact ⟨n, els, j, rfl⟩
theorem ren_flat {H : Heap} {f : Nat → Option Nat} {g : Nat → Nat} {m : Nat} (hg : ∀ j, j < m → g j = j) : ∀ (H : Heap) (i : Nat), (∀ j b, H[j]? = some b → ∃ n els, b = Blk.row n els false true (i + j)) → i + H.length ≤ m → H.map (Blk.ren f g) = H
  | [], _, _, _ => rfl
  | b :: H, i, h, hm => by
    have ih := ren_flat (H := H) (f := f) hg H (i + 1) (fun j b hj => by
      obtain ⟨n, els, e⟩ := h (j + 1) b (by simpa using hj)
      exact ⟨n, els, by rw [e]; congr 1; omega⟩) (by simp at hm; omega)
    obtain ⟨n, els, rfl⟩ := h 0 b (by simp)
    rw [List.map_cons, ih]
    simp only [Blk.ren, if_true, Nat.add_zero]
    rw [hg i (by simp at hm; omega)]

theorem reach_low (H : Heap) (base : Nat) : ∀ (k : Nat) (todo seen : List Nat), (∀ r, r ∈ todo → r < base) → reach H base k todo seen = seen
  | 0, _, _, _ => rfl
  | _ + 1, [], _, _ => rfl
  | k + 1, r :: todo, seen, h => by
    unfold reach
    rw [if_pos (h r (by simp))]
    exact reach_low H base k todo seen fun x hx => h x (by simp [hx])

/-- Nothing of the call's own rows is kept. -/
theorem norm_none {live : List Nat} {tm : List AV} {H E : Heap} {rb m : Nat} (hm : m = H.length) (hF : Flat (H ++ E)) {L : List AV} (hL : keepLive live 0 tm = L) (hr : ∀ r, r ∈ L.flatMap (AV.refsN 6) → r < m) (hi : L.map (AV.renN (renOf m []) 6) = L) :
    St.norm live ⟨tm, H ++ E, m, rb⟩ = ⟨L, H, m, 0⟩ := by
  subst hm
  unfold St.norm St.normTm
  rw [hL]
  have h1 : ((H ++ E).take H.length) = H := by simp
  have h2 : ((H ++ E).drop H.length) = E := by simp
  simp only [h1]
  rw [hF.left.refs, List.append_nil, reach_low _ _ _ _ _ hr]
  unfold St.normBy
  simp only [h1, h2, List.map_nil, List.append_nil]
  rw [dropped_flat [] E _ fun b hb => hF.mem b (by simp [hb])]
  have hc : closedBy (renOf H.length []) H = true := by
    unfold closedBy
    rw [List.all_eq_true]
    intro b hb
    obtain ⟨n, els, fam, rfl⟩ := hF.left.mem b hb
    rfl
  simp only [hc, roFit, roMark, Bool.and_self, normIf]
  rw [hi, ren_flat (m := H.length) (H := H) (fun j hj => by unfold famRen; rw [if_pos hj]) H 0 (fun j b hj => by rw [Nat.zero_add]; exact hF.left j b hj) (by omega)]

/-- The first of the call's own rows is kept. -/
theorem norm_first {live : List Nat} {tm : List AV} {H E : Heap} {rb m n : Nat} {els : List AV} (hm : m = H.length) (hF : Flat (H ++ .row n els false true m :: E)) {L : List AV} (hL : keepLive live 0 tm = L)
    (hr : reach (H ++ .row n els false true m :: E) m 4000 (L.flatMap (AV.refsN 6)) [] = [m]) (hi : L.map (AV.renN (renOf m [m]) 6) = L) :
    St.norm live ⟨tm, H ++ .row n els false true m :: E, m, rb⟩ = ⟨L, H ++ [.row n els false true m], m, 0⟩ := by
  subst hm
  unfold St.norm St.normTm
  rw [hL]
  have h1 : ((H ++ .row n els false true H.length :: E).take H.length) = H := by simp
  have h2 : ((H ++ .row n els false true H.length :: E).drop H.length) = .row n els false true H.length :: E := by simp
  have hFl : Flat H := hF.left
  simp only [h1]
  rw [hFl.refs, List.append_nil, hr]
  unfold St.normBy
  have h3 : (H ++ .row n els false true H.length :: E).getD H.length .gone = .row n els false true H.length := by
    rw [List.getD_eq_getElem?_getD, getP0 rfl]
    rfl
  simp only [h1, h2, List.map_cons, List.map_nil, h3]
  rw [dropped_flat [H.length] (.row n els false true H.length :: E) _ fun b hb => hF.mem b (by simp at hb ⊢; exact .inr hb)]
  have hF1 := hFl.push n els
  have hc : closedBy (renOf H.length [H.length]) (H ++ [.row n els false true H.length]) = true := by
    unfold closedBy
    rw [List.all_eq_true]
    intro b hb
    obtain ⟨n, els, fam, rfl⟩ := hF1.mem b hb
    rfl
  simp only [hc, roFit, roMark, Bool.and_self, normIf]
  have hg : ∀ j, j < H.length + 1 → famRen (H ++ Blk.row n els false true H.length :: E) H.length [H.length] j = j := fun j hj => by
    unfold famRen
    by_cases hlt : j < H.length
    · rw [if_pos hlt]
    · rw [if_neg hlt]
      have : j = H.length := by omega
      subst this
      rw [List.findIdx_cons, h3]
      simp [Blk.famOf]
  have hren := ren_flat (m := H.length + 1) (H := H) (f := renOf H.length [H.length]) hg (H ++ [Blk.row n els false true H.length]) 0 (fun j b hj => by rw [Nat.zero_add]; exact hF1 j b hj) (by simp)
  rw [hi, hren]
end Ago
