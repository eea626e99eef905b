/- The reference's Decode, exactly. -/
import Derived.Test.YtglnglflcoeinaaGreatDoorRunA
set_option linter.unusedSimpArgs false
set_option linter.unusedVariables false
set_option maxRecDepth 100000
set_option maxHeartbeats 4000000
namespace Ago
open Go (IntKind)
def pick4 (a b c d : Int) (i : Nat) : Int := if i = 1 then a else if i = 2 then b else if i = 3 then c else d
theorem c1' : ((1 : Nat) : Int) = 1 := rfl
theorem c2' : ((2 : Nat) : Int) = 2 := rfl
theorem c3' : ((3 : Nat) : Int) = 3 := rfl
theorem c4' : ((4 : Nat) : Int) = 4 := rfl
theorem decode_run (s : List UInt8) (k : Nat) (hs : s.length < 2 ^ 31) (hk : k < s.length) : PRun C0 60 [.str s, .int .i64 k] (.tup [.int .i64 (decM s k).1, .int .i64 (decM s k).2]) := by
  obtain ⟨b, hb⟩ := get_some hk
  have hbt := b.toNat_lt
  have hdm : decM s k = decB s k b := by unfold decM; rw [hb]
  have hkn : (k : Int).toNat = k := rfl
  rw [hdm]
  refine prun_of ac60 rfl ?_
  by_cases h1 : b.toNat < 192
  · have hi1 : (b.toNat : Int) < 192 := by omega
    (repeat' first | simp (disch := omega) only [go_sem, ac60, enter, hb, hkn] | ((apply spl) <;> intro h <;> try simp (disch := omega) only [go_sem, ac60, enter, hb, hkn, h]))
    refine loop_of (α := Unit) (fun _ => { tmps := slots 80 [(0, .str s), (1, .int .i64 k), (7, .int .i64 1), (8, .int .i64 b.toNat), (9, .int .i64 1)], heap := [], base := 0 }) (fun _ => True) (fun _ => 0) () rfl trivial ?_
    rintro _ _
    obtain ⟨r, hr⟩ : ∃ r : Int, r = (b.toNat : Int) := ⟨_, rfl⟩
    obtain ⟨l, hl⟩ : ∃ l : List UInt8, l = [b] := ⟨_, rfl⟩
    have hsl := drop_take1 hb
    have hkn2 : ((k : Int) + 1).toNat = k + 1 := by omega
    have hfin : decB s k b = refFin r l 1 := by
      rw [hr, hl, fin1]
      unfold decB
      repeat' split
      all_goals first | rfl | omega
    unfold refFin at hfin
    have he := encode_run r
    rw [← hr]
    generalize encM r = te at he hfin
    obtain ⟨t, e0⟩ := te
    simp only at he hfin
    by_cases h1 : e0 = 0
    · by_cases h2 : t = l
      · have hb2 : (t == l) = true := by simpa using h2
        subst h1
        rw [if_pos ⟨rfl, h2⟩] at hfin
        rw [hfin]
        rw [hl] at hb2
        (repeat' first | simp (disch := omega) only [go_sem, hkn, hkn2, hsl, hb2] | refine pure_of _ (he) ?_ | ((apply spl) <;> intro h <;> try simp (disch := omega) only [go_sem, hkn, hkn2, hsl, hb2 , h]))
      · have hb2 : (t == l) = false := by simpa using h2
        subst h1
        rw [if_neg (fun h => h2 h.2)] at hfin
        rw [hfin]
        rw [hl] at hb2
        (repeat' first | simp (disch := omega) only [go_sem, hkn, hkn2, hsl, hb2] | refine pure_of _ (he) ?_ | ((apply spl) <;> intro h <;> try simp (disch := omega) only [go_sem, hkn, hkn2, hsl, hb2 , h]))
    · rw [if_neg (fun h => h1 h.1)] at hfin
      rw [hfin]
      (repeat' first | simp (disch := omega) only [go_sem, hkn, h1] | refine pure_of _ (he) ?_ | ((apply spl) <;> intro h <;> try simp (disch := omega) only [go_sem, hkn, h1 , h]))
  by_cases g2 : 192 ≤ b.toNat ∧ b.toNat < 224
  · obtain ⟨g1, g2⟩ := g2
    have gi1 : 192 ≤ (b.toNat : Int) := by omega
    have gi2 : (b.toNat : Int) < 224 := by omega
    by_cases hlen : s.length < k + 2
    · have hnone : s[k + 1]? = none := List.getElem?_eq_none (by omega)
      have hdec : decB s k b = (0, 0) := by
        unfold decB
        repeat' split
        all_goals first | rfl | omega | (rw [hnone]; first | rfl | (cases s[k + 1]? <;> first | rfl | (cases s[k + 2]? <;> rfl)))
      rw [hdec]
      (repeat' first | simp (disch := omega) only [go_sem, ac60, enter, hb, hkn, and7, and15, and31] | ((apply spl) <;> intro h <;> try simp (disch := omega) only [go_sem, ac60, enter, hb, hkn, and7, and15, and31, h]))
    · obtain ⟨c, hc⟩ := get_some (s := s) (k := k + 1) (by omega)
      have ct := c.toNat_lt
      have kn1 : ((k : Int) + 1).toNat = k + 1 := by omega
      (repeat' first | simp (disch := omega) only [go_sem, ac60, enter, hb, hkn, and7, and15, and31] | ((apply spl) <;> intro h <;> try simp (disch := omega) only [go_sem, ac60, enter, hb, hkn, and7, and15, and31, h]))
      refine loop_of (α := Nat) (fun i => { tmps := slots 80 [(0, .str s), (1, .int .i64 k), (7, .int .i64 2), (8, .int .i64 (pick4 ((b.toNat : Int) % 32) (((b.toNat : Int) % 32) * 64 + (c.toNat : Int) % 64) 0 0 i)), (9, .int .i64 i)], heap := [], base := 0 }) (fun i => 1 ≤ i ∧ i ≤ 2) (fun i => 2 - i) 1 rfl (by omega) ?_
      rintro i ⟨hi1, hi2⟩
      rcases (by omega : i = 1 ∨ i = 2) with rfl | rfl
      · have hp : pick4 ((b.toNat : Int) % 32) (((b.toNat : Int) % 32) * 64 + (c.toNat : Int) % 64) 0 0 1 = ((b.toNat : Int) % 32) := rfl
        have hq : pick4 ((b.toNat : Int) % 32) (((b.toNat : Int) % 32) * 64 + (c.toNat : Int) % 64) 0 0 2 = (((b.toNat : Int) % 32) * 64 + (c.toNat : Int) % 64) := rfl
        rw [hp]
        (repeat' first | simp (disch := omega) only [go_sem, hkn, kn1, hc, pw6, and63, or64, c1', c2', c3', c4'] | ((apply spl) <;> intro h <;> try simp (disch := omega) only [go_sem, hkn, kn1, hc, pw6, and63, or64, c1', c2', c3', c4', h]))
        exact ⟨2, by rw [hq]; rfl, by omega, by omega⟩
      · have hp : pick4 ((b.toNat : Int) % 32) (((b.toNat : Int) % 32) * 64 + (c.toNat : Int) % 64) 0 0 2 = (((b.toNat : Int) % 32) * 64 + (c.toNat : Int) % 64) := rfl
        rw [hp]
        obtain ⟨r, hr⟩ : ∃ r : Int, r = (((b.toNat : Int) % 32) * 64 + (c.toNat : Int) % 64) := ⟨_, rfl⟩
        obtain ⟨l, hl⟩ : ∃ l : List UInt8, l = [b, c] := ⟨_, rfl⟩
        have hsl := drop_take2 hb hc
        have hkn2 : ((k : Int) + 2).toNat = k + 2 := by omega
        have hfin : decB s k b = refFin r l 2 := by
          rw [hr, hl]
          rw [fin2 g1 g2]
          unfold decB
          repeat' split
          all_goals first | omega | (rw [hc])
        unfold refFin at hfin
        have he := encode_run r
        rw [← hr]
        generalize encM r = te at he hfin
        obtain ⟨t, e0⟩ := te
        simp only at he hfin
        by_cases h1 : e0 = 0
        · by_cases h2 : t = l
          · have hb2 : (t == l) = true := by simpa using h2
            subst h1
            rw [if_pos ⟨rfl, h2⟩] at hfin
            rw [hfin]
            rw [hl] at hb2
            (repeat' first | simp (disch := omega) only [go_sem, hkn, hkn2, hsl, hb2] | refine pure_of _ (he) ?_ | ((apply spl) <;> intro h <;> try simp (disch := omega) only [go_sem, hkn, hkn2, hsl, hb2 , h]))
          · have hb2 : (t == l) = false := by simpa using h2
            subst h1
            rw [if_neg (fun h => h2 h.2)] at hfin
            rw [hfin]
            rw [hl] at hb2
            (repeat' first | simp (disch := omega) only [go_sem, hkn, hkn2, hsl, hb2] | refine pure_of _ (he) ?_ | ((apply spl) <;> intro h <;> try simp (disch := omega) only [go_sem, hkn, hkn2, hsl, hb2 , h]))
        · rw [if_neg (fun h => h1 h.1)] at hfin
          rw [hfin]
          (repeat' first | simp (disch := omega) only [go_sem, hkn, h1] | refine pure_of _ (he) ?_ | ((apply spl) <;> intro h <;> try simp (disch := omega) only [go_sem, hkn, h1 , h]))
  by_cases g3 : 224 ≤ b.toNat ∧ b.toNat < 240
  · obtain ⟨g1, g2⟩ := g3
    have gi1 : 224 ≤ (b.toNat : Int) := by omega
    have gi2 : (b.toNat : Int) < 240 := by omega
    by_cases hlen : s.length < k + 3
    · have hnone : s[k + 2]? = none := List.getElem?_eq_none (by omega)
      have hdec : decB s k b = (0, 0) := by
        unfold decB
        repeat' split
        all_goals first | rfl | omega | (rw [hnone]; first | rfl | (cases s[k + 1]? <;> first | rfl | (cases s[k + 2]? <;> rfl)))
      rw [hdec]
      (repeat' first | simp (disch := omega) only [go_sem, ac60, enter, hb, hkn, and7, and15, and31] | ((apply spl) <;> intro h <;> try simp (disch := omega) only [go_sem, ac60, enter, hb, hkn, and7, and15, and31, h]))
    · obtain ⟨c, hc⟩ := get_some (s := s) (k := k + 1) (by omega)
      have ct := c.toNat_lt
      have kn1 : ((k : Int) + 1).toNat = k + 1 := by omega
      obtain ⟨d, hd⟩ := get_some (s := s) (k := k + 2) (by omega)
      have dt := d.toNat_lt
      have kn2 : ((k : Int) + 2).toNat = k + 2 := by omega
      (repeat' first | simp (disch := omega) only [go_sem, ac60, enter, hb, hkn, and7, and15, and31] | ((apply spl) <;> intro h <;> try simp (disch := omega) only [go_sem, ac60, enter, hb, hkn, and7, and15, and31, h]))
      refine loop_of (α := Nat) (fun i => { tmps := slots 80 [(0, .str s), (1, .int .i64 k), (7, .int .i64 3), (8, .int .i64 (pick4 ((b.toNat : Int) % 16) (((b.toNat : Int) % 16) * 64 + (c.toNat : Int) % 64) ((((b.toNat : Int) % 16) * 64 + (c.toNat : Int) % 64) * 64 + (d.toNat : Int) % 64) 0 i)), (9, .int .i64 i)], heap := [], base := 0 }) (fun i => 1 ≤ i ∧ i ≤ 3) (fun i => 3 - i) 1 rfl (by omega) ?_
      rintro i ⟨hi1, hi2⟩
      rcases (by omega : i = 1 ∨ i = 2 ∨ i = 3) with rfl | rfl | rfl
      · have hp : pick4 ((b.toNat : Int) % 16) (((b.toNat : Int) % 16) * 64 + (c.toNat : Int) % 64) ((((b.toNat : Int) % 16) * 64 + (c.toNat : Int) % 64) * 64 + (d.toNat : Int) % 64) 0 1 = ((b.toNat : Int) % 16) := rfl
        have hq : pick4 ((b.toNat : Int) % 16) (((b.toNat : Int) % 16) * 64 + (c.toNat : Int) % 64) ((((b.toNat : Int) % 16) * 64 + (c.toNat : Int) % 64) * 64 + (d.toNat : Int) % 64) 0 2 = (((b.toNat : Int) % 16) * 64 + (c.toNat : Int) % 64) := rfl
        rw [hp]
        (repeat' first | simp (disch := omega) only [go_sem, hkn, kn1, hc, pw6, and63, or64, c1', c2', c3', c4'] | ((apply spl) <;> intro h <;> try simp (disch := omega) only [go_sem, hkn, kn1, hc, pw6, and63, or64, c1', c2', c3', c4', h]))
        exact ⟨2, by rw [hq]; rfl, by omega, by omega⟩
      · have hp : pick4 ((b.toNat : Int) % 16) (((b.toNat : Int) % 16) * 64 + (c.toNat : Int) % 64) ((((b.toNat : Int) % 16) * 64 + (c.toNat : Int) % 64) * 64 + (d.toNat : Int) % 64) 0 2 = (((b.toNat : Int) % 16) * 64 + (c.toNat : Int) % 64) := rfl
        have hq : pick4 ((b.toNat : Int) % 16) (((b.toNat : Int) % 16) * 64 + (c.toNat : Int) % 64) ((((b.toNat : Int) % 16) * 64 + (c.toNat : Int) % 64) * 64 + (d.toNat : Int) % 64) 0 3 = ((((b.toNat : Int) % 16) * 64 + (c.toNat : Int) % 64) * 64 + (d.toNat : Int) % 64) := rfl
        rw [hp]
        (repeat' first | simp (disch := omega) only [go_sem, hkn, kn2, hd, pw6, and63, or64, c1', c2', c3', c4'] | ((apply spl) <;> intro h <;> try simp (disch := omega) only [go_sem, hkn, kn2, hd, pw6, and63, or64, c1', c2', c3', c4', h]))
        exact ⟨3, by rw [hq]; rfl, by omega, by omega⟩
      · have hp : pick4 ((b.toNat : Int) % 16) (((b.toNat : Int) % 16) * 64 + (c.toNat : Int) % 64) ((((b.toNat : Int) % 16) * 64 + (c.toNat : Int) % 64) * 64 + (d.toNat : Int) % 64) 0 3 = ((((b.toNat : Int) % 16) * 64 + (c.toNat : Int) % 64) * 64 + (d.toNat : Int) % 64) := rfl
        rw [hp]
        obtain ⟨r, hr⟩ : ∃ r : Int, r = ((((b.toNat : Int) % 16) * 64 + (c.toNat : Int) % 64) * 64 + (d.toNat : Int) % 64) := ⟨_, rfl⟩
        obtain ⟨l, hl⟩ : ∃ l : List UInt8, l = [b, c, d] := ⟨_, rfl⟩
        have hsl := drop_take3 hb hc hd
        have hkn2 : ((k : Int) + 3).toNat = k + 3 := by omega
        have hfin : decB s k b = refFin r l 3 := by
          rw [hr, hl]
          rw [fin3 g1 g2]
          unfold decB
          repeat' split
          all_goals first | omega | (rw [hc, hd])
        unfold refFin at hfin
        have he := encode_run r
        rw [← hr]
        generalize encM r = te at he hfin
        obtain ⟨t, e0⟩ := te
        simp only at he hfin
        by_cases h1 : e0 = 0
        · by_cases h2 : t = l
          · have hb2 : (t == l) = true := by simpa using h2
            subst h1
            rw [if_pos ⟨rfl, h2⟩] at hfin
            rw [hfin]
            rw [hl] at hb2
            (repeat' first | simp (disch := omega) only [go_sem, hkn, hkn2, hsl, hb2] | refine pure_of _ (he) ?_ | ((apply spl) <;> intro h <;> try simp (disch := omega) only [go_sem, hkn, hkn2, hsl, hb2 , h]))
          · have hb2 : (t == l) = false := by simpa using h2
            subst h1
            rw [if_neg (fun h => h2 h.2)] at hfin
            rw [hfin]
            rw [hl] at hb2
            (repeat' first | simp (disch := omega) only [go_sem, hkn, hkn2, hsl, hb2] | refine pure_of _ (he) ?_ | ((apply spl) <;> intro h <;> try simp (disch := omega) only [go_sem, hkn, hkn2, hsl, hb2 , h]))
        · rw [if_neg (fun h => h1 h.1)] at hfin
          rw [hfin]
          (repeat' first | simp (disch := omega) only [go_sem, hkn, h1] | refine pure_of _ (he) ?_ | ((apply spl) <;> intro h <;> try simp (disch := omega) only [go_sem, hkn, h1 , h]))
  by_cases g4 : 240 ≤ b.toNat ∧ b.toNat < 256
  · obtain ⟨g1, g2⟩ := g4
    have gi1 : 240 ≤ (b.toNat : Int) := by omega
    have gi2 : (b.toNat : Int) < 256 := by omega
    by_cases hlen : s.length < k + 4
    · have hnone : s[k + 3]? = none := List.getElem?_eq_none (by omega)
      have hdec : decB s k b = (0, 0) := by
        unfold decB
        repeat' split
        all_goals first | rfl | omega | (rw [hnone]; first | rfl | (cases s[k + 1]? <;> first | rfl | (cases s[k + 2]? <;> rfl)))
      rw [hdec]
      (repeat' first | simp (disch := omega) only [go_sem, ac60, enter, hb, hkn, and7, and15, and31] | ((apply spl) <;> intro h <;> try simp (disch := omega) only [go_sem, ac60, enter, hb, hkn, and7, and15, and31, h]))
    · obtain ⟨c, hc⟩ := get_some (s := s) (k := k + 1) (by omega)
      have ct := c.toNat_lt
      have kn1 : ((k : Int) + 1).toNat = k + 1 := by omega
      obtain ⟨d, hd⟩ := get_some (s := s) (k := k + 2) (by omega)
      have dt := d.toNat_lt
      have kn2 : ((k : Int) + 2).toNat = k + 2 := by omega
      obtain ⟨e, he⟩ := get_some (s := s) (k := k + 3) (by omega)
      have et := e.toNat_lt
      have kn3 : ((k : Int) + 3).toNat = k + 3 := by omega
      (repeat' first | simp (disch := omega) only [go_sem, ac60, enter, hb, hkn, and7, and15, and31] | ((apply spl) <;> intro h <;> try simp (disch := omega) only [go_sem, ac60, enter, hb, hkn, and7, and15, and31, h]))
      refine loop_of (α := Nat) (fun i => { tmps := slots 80 [(0, .str s), (1, .int .i64 k), (7, .int .i64 4), (8, .int .i64 (pick4 ((b.toNat : Int) % 8) (((b.toNat : Int) % 8) * 64 + (c.toNat : Int) % 64) ((((b.toNat : Int) % 8) * 64 + (c.toNat : Int) % 64) * 64 + (d.toNat : Int) % 64) (((((b.toNat : Int) % 8) * 64 + (c.toNat : Int) % 64) * 64 + (d.toNat : Int) % 64) * 64 + (e.toNat : Int) % 64) i)), (9, .int .i64 i)], heap := [], base := 0 }) (fun i => 1 ≤ i ∧ i ≤ 4) (fun i => 4 - i) 1 rfl (by omega) ?_
      rintro i ⟨hi1, hi2⟩
      rcases (by omega : i = 1 ∨ i = 2 ∨ i = 3 ∨ i = 4) with rfl | rfl | rfl | rfl
      · have hp : pick4 ((b.toNat : Int) % 8) (((b.toNat : Int) % 8) * 64 + (c.toNat : Int) % 64) ((((b.toNat : Int) % 8) * 64 + (c.toNat : Int) % 64) * 64 + (d.toNat : Int) % 64) (((((b.toNat : Int) % 8) * 64 + (c.toNat : Int) % 64) * 64 + (d.toNat : Int) % 64) * 64 + (e.toNat : Int) % 64) 1 = ((b.toNat : Int) % 8) := rfl
        have hq : pick4 ((b.toNat : Int) % 8) (((b.toNat : Int) % 8) * 64 + (c.toNat : Int) % 64) ((((b.toNat : Int) % 8) * 64 + (c.toNat : Int) % 64) * 64 + (d.toNat : Int) % 64) (((((b.toNat : Int) % 8) * 64 + (c.toNat : Int) % 64) * 64 + (d.toNat : Int) % 64) * 64 + (e.toNat : Int) % 64) 2 = (((b.toNat : Int) % 8) * 64 + (c.toNat : Int) % 64) := rfl
        rw [hp]
        (repeat' first | simp (disch := omega) only [go_sem, hkn, kn1, hc, pw6, and63, or64, c1', c2', c3', c4'] | ((apply spl) <;> intro h <;> try simp (disch := omega) only [go_sem, hkn, kn1, hc, pw6, and63, or64, c1', c2', c3', c4', h]))
        exact ⟨2, by rw [hq]; rfl, by omega, by omega⟩
      · have hp : pick4 ((b.toNat : Int) % 8) (((b.toNat : Int) % 8) * 64 + (c.toNat : Int) % 64) ((((b.toNat : Int) % 8) * 64 + (c.toNat : Int) % 64) * 64 + (d.toNat : Int) % 64) (((((b.toNat : Int) % 8) * 64 + (c.toNat : Int) % 64) * 64 + (d.toNat : Int) % 64) * 64 + (e.toNat : Int) % 64) 2 = (((b.toNat : Int) % 8) * 64 + (c.toNat : Int) % 64) := rfl
        have hq : pick4 ((b.toNat : Int) % 8) (((b.toNat : Int) % 8) * 64 + (c.toNat : Int) % 64) ((((b.toNat : Int) % 8) * 64 + (c.toNat : Int) % 64) * 64 + (d.toNat : Int) % 64) (((((b.toNat : Int) % 8) * 64 + (c.toNat : Int) % 64) * 64 + (d.toNat : Int) % 64) * 64 + (e.toNat : Int) % 64) 3 = ((((b.toNat : Int) % 8) * 64 + (c.toNat : Int) % 64) * 64 + (d.toNat : Int) % 64) := rfl
        rw [hp]
        (repeat' first | simp (disch := omega) only [go_sem, hkn, kn2, hd, pw6, and63, or64, c1', c2', c3', c4'] | ((apply spl) <;> intro h <;> try simp (disch := omega) only [go_sem, hkn, kn2, hd, pw6, and63, or64, c1', c2', c3', c4', h]))
        exact ⟨3, by rw [hq]; rfl, by omega, by omega⟩
      · have hp : pick4 ((b.toNat : Int) % 8) (((b.toNat : Int) % 8) * 64 + (c.toNat : Int) % 64) ((((b.toNat : Int) % 8) * 64 + (c.toNat : Int) % 64) * 64 + (d.toNat : Int) % 64) (((((b.toNat : Int) % 8) * 64 + (c.toNat : Int) % 64) * 64 + (d.toNat : Int) % 64) * 64 + (e.toNat : Int) % 64) 3 = ((((b.toNat : Int) % 8) * 64 + (c.toNat : Int) % 64) * 64 + (d.toNat : Int) % 64) := rfl
        have hq : pick4 ((b.toNat : Int) % 8) (((b.toNat : Int) % 8) * 64 + (c.toNat : Int) % 64) ((((b.toNat : Int) % 8) * 64 + (c.toNat : Int) % 64) * 64 + (d.toNat : Int) % 64) (((((b.toNat : Int) % 8) * 64 + (c.toNat : Int) % 64) * 64 + (d.toNat : Int) % 64) * 64 + (e.toNat : Int) % 64) 4 = (((((b.toNat : Int) % 8) * 64 + (c.toNat : Int) % 64) * 64 + (d.toNat : Int) % 64) * 64 + (e.toNat : Int) % 64) := rfl
        rw [hp]
        (repeat' first | simp (disch := omega) only [go_sem, hkn, kn3, he, pw6, and63, or64, c1', c2', c3', c4'] | ((apply spl) <;> intro h <;> try simp (disch := omega) only [go_sem, hkn, kn3, he, pw6, and63, or64, c1', c2', c3', c4', h]))
        exact ⟨4, by rw [hq]; rfl, by omega, by omega⟩
      · have hp : pick4 ((b.toNat : Int) % 8) (((b.toNat : Int) % 8) * 64 + (c.toNat : Int) % 64) ((((b.toNat : Int) % 8) * 64 + (c.toNat : Int) % 64) * 64 + (d.toNat : Int) % 64) (((((b.toNat : Int) % 8) * 64 + (c.toNat : Int) % 64) * 64 + (d.toNat : Int) % 64) * 64 + (e.toNat : Int) % 64) 4 = (((((b.toNat : Int) % 8) * 64 + (c.toNat : Int) % 64) * 64 + (d.toNat : Int) % 64) * 64 + (e.toNat : Int) % 64) := rfl
        rw [hp]
        obtain ⟨r, hr⟩ : ∃ r : Int, r = (((((b.toNat : Int) % 8) * 64 + (c.toNat : Int) % 64) * 64 + (d.toNat : Int) % 64) * 64 + (e.toNat : Int) % 64) := ⟨_, rfl⟩
        obtain ⟨l, hl⟩ : ∃ l : List UInt8, l = [b, c, d, e] := ⟨_, rfl⟩
        have hsl := drop_take4 hb hc hd he
        have hkn2 : ((k : Int) + 4).toNat = k + 4 := by omega
        have hfin : decB s k b = refFin r l 4 := by
          rw [hr, hl]
          by_cases g5 : b.toNat < 248
          · rw [fin4 g1 g5]
            unfold decB
            repeat' split
            all_goals first | omega | (rw [hc, hd, he])
          · rw [fin5 (by omega) _ (by omega) (by omega)]
            unfold decB
            repeat' split
            all_goals first | omega | rfl
        unfold refFin at hfin
        have he := encode_run r
        rw [← hr]
        generalize encM r = te at he hfin
        obtain ⟨t, e0⟩ := te
        simp only at he hfin
        by_cases h1 : e0 = 0
        · by_cases h2 : t = l
          · have hb2 : (t == l) = true := by simpa using h2
            subst h1
            rw [if_pos ⟨rfl, h2⟩] at hfin
            rw [hfin]
            rw [hl] at hb2
            (repeat' first | simp (disch := omega) only [go_sem, hkn, hkn2, hsl, hb2] | refine pure_of _ (he) ?_ | ((apply spl) <;> intro h <;> try simp (disch := omega) only [go_sem, hkn, hkn2, hsl, hb2 , h]))
          · have hb2 : (t == l) = false := by simpa using h2
            subst h1
            rw [if_neg (fun h => h2 h.2)] at hfin
            rw [hfin]
            rw [hl] at hb2
            (repeat' first | simp (disch := omega) only [go_sem, hkn, hkn2, hsl, hb2] | refine pure_of _ (he) ?_ | ((apply spl) <;> intro h <;> try simp (disch := omega) only [go_sem, hkn, hkn2, hsl, hb2 , h]))
        · rw [if_neg (fun h => h1 h.1)] at hfin
          rw [hfin]
          (repeat' first | simp (disch := omega) only [go_sem, hkn, h1] | refine pure_of _ (he) ?_ | ((apply spl) <;> intro h <;> try simp (disch := omega) only [go_sem, hkn, h1 , h]))
  omega
end Ago
/- Layer 3 of the references, continued: is it text? -/
set_option maxRecDepth 100000
set_option maxHeartbeats 4000000
namespace Ago
open Go (IntKind)
theorem decFin_size {r : Int} {n : Nat} : (decFin r n).2 = 0 ∨ (decFin r n).2 = n := by
  unfold decFin
  split
  · exact .inr rfl
  · exact .inl rfl
theorem decM_size (s : List UInt8) (k : Nat) : ∃ n : Nat, (decM s k).2 = n ∧ (n = 0 ∨ k + n ≤ s.length) := by
  have get_lt : ∀ {j : Nat} {c : UInt8}, s[j]? = some c → j < s.length := fun h => (List.getElem?_eq_some_iff.1 h).1
  have zero : ∃ n : Nat, (((0, 0) : Int × Int)).2 = n ∧ (n = 0 ∨ k + n ≤ s.length) := ⟨0, rfl, .inl rfl⟩
  have fin : ∀ (r : Int) (m : Nat), k + m ≤ s.length → ∃ n : Nat, (decFin r m).2 = n ∧ (n = 0 ∨ k + n ≤ s.length) := fun r m h => by
    rcases decFin_size (r := r) (n := m) with e | e
    · exact ⟨0, e, .inl rfl⟩
    · exact ⟨m, e, .inr h⟩
  unfold decM
  cases hb : s[k]? with
  | none => exact zero
  | some b =>
    have := get_lt hb
    simp only
    unfold decB
    split
    · exact ⟨1, rfl, .inr (by omega)⟩
    · split
      · exact zero
      · split
        · cases hc : s[k + 1]? with
          | none => exact zero
          | some c =>
            have := get_lt hc
            rw [dec2_some]
            split
            · exact fin _ _ (by omega)
            · exact zero
        · split
          · cases hc : s[k + 1]? with
            | none => exact zero
            | some c =>
              cases hd : s[k + 2]? with
              | none => exact zero
              | some d =>
                have := get_lt hd
                rw [dec3_some]
                split
                · exact fin _ _ (by omega)
                · exact zero
          · split
            · cases hc : s[k + 1]? with
              | none => exact zero
              | some c =>
                cases hd : s[k + 2]? with
                | none => exact zero
                | some d =>
                  cases he : s[k + 3]? with
                  | none => exact zero
                  | some e =>
                    have := get_lt he
                    rw [dec4_some]
                    split
                    · exact fin _ _ (by omega)
                    · exact zero
            · exact zero

/-- From an offset on: encodings to the end. -/
def walkU (s : List UInt8) : Nat → Nat → Bool
  | 0, _ => true
  | f + 1, k => if s.length ≤ k then true else if (decM s k).2 = 0 then false else walkU s f (k + (decM s k).2.toNat)
/-- Is it text? (R03.Valid, utf.Valid) -/
def utf (s : List UInt8) : Bool := walkU s (s.length + 1) 0
theorem walkU_fuel (s : List UInt8) : ∀ (f g k : Nat), s.length - k < f → s.length - k < g → walkU s f k = walkU s g k
  | 0, _, _, h, _ => by omega
  | _, 0, _, _, h => by omega
  | f + 1, g + 1, k, h1, h2 => by
    obtain ⟨n, hn, h⟩ := decM_size s k
    simp only [walkU]
    split
    · rfl
    · split
      · rfl
      · exact walkU_fuel s f g _ (by omega) (by omega)
theorem walk_end {s : List UInt8} {k : Nat} (h : s.length ≤ k) : walkU s (s.length - k + 1) k = true := by
  simp only [walkU]
  rw [if_pos h]
theorem walk_stop {s : List UInt8} {k : Nat} (h : k < s.length) (h0 : (decM s k).2 = 0) : walkU s (s.length - k + 1) k = false := by
  simp only [walkU]
  rw [if_neg (by omega), if_pos h0]
theorem walk_step {s : List UInt8} {k n : Nat} (h : k < s.length) (hn : (decM s k).2 = n) (h0 : n ≠ 0) : walkU s (s.length - k + 1) k = walkU s (s.length - (k + n) + 1) (k + n) := by
  conv => lhs; simp only [walkU]
  rw [if_neg (by omega), if_neg (by omega), hn]
  exact walkU_fuel s _ _ _ (by simp; omega) (by simp)

theorem boundaries_ex (s : List UInt8) (hs : s.length < 2 ^ 30) : ∃ l, PRun C0 42 [.str s] (.tup [.tsl 1 l, .bool (utf s)]) := by
  have h := prunE_of (C := C0) (f := 42) (ts := [.str s]) (k := fun v => ∃ l, v = .tup [.tsl 1 l, .bool (utf s)]) ac42 rfl (by
    (repeat' first | simp (disch := omega) only [go_sem, ac42, enter] | ((apply spl) <;> intro h <;> try simp (disch := omega) only [go_sem, ac42, enter, h]))
    refine loop_of (α := Nat × List AV) (fun a => { tmps := slots 30 [(0, .str s), (4, .sref 1 0 0 a.2.length), (5, .int .i64 a.1)], heap := [.row 1 a.2 false true 0], base := 0 }) (fun a => a.1 ≤ s.length ∧ a.2.length ≤ a.1 + 1 ∧ utf s = walkU s (s.length - a.1 + 1) a.1) (fun a => s.length - a.1) (0, [.int .i64 0]) rfl ⟨by simp, by simp, rfl⟩ ?_
    rintro ⟨k, els⟩ ⟨hk, hl, hw⟩
    simp only at hk hl hw
    by_cases hlt : k < s.length
    · have hd := decode_run s k (by omega) hlt
      obtain ⟨m, hm, hsz⟩ := decM_size s k
      rw [hm] at hd
      by_cases h0 : m = 0
      · subst h0
        rw [walk_stop hlt hm] at hw
        rw [hw]
        (repeat' first | simp (disch := omega) only [go_sem] | refine pure_of _ (hd) ?_ | ((apply spl) <;> intro h <;> try simp (disch := omega) only [go_sem, h]))
        exact ⟨_, rfl⟩
      · rw [walk_step hlt hm h0] at hw
        (repeat' first | simp (disch := omega) only [go_sem] | refine pure_of _ (hd) ?_ | ((apply spl) <;> intro h <;> try simp (disch := omega) only [go_sem, h]))
        have e : (els ++ [AV.int .i64 ((k : Int) + m)]).length = els.length + 1 := by simp
        refine ⟨(k + m, els ++ [.int .i64 ((k : Int) + m)]), ?_, ⟨by simp only; omega, by simp only [e]; omega, hw⟩, by simp only; omega⟩
        simp only [e]
        rfl
    · rw [walk_end (by omega)] at hw
      rw [hw]
      (repeat' first | simp (disch := omega) only [go_sem] | ((apply spl) <;> intro h <;> try simp (disch := omega) only [go_sem, h]))
      exact ⟨_, rfl⟩)
  obtain ⟨v, h1, l, rfl⟩ := h
  exact ⟨l, h1⟩

theorem utf_run (s : List UInt8) (hs : s.length < 2 ^ 30) : PRun C0 24 [.str s] (.bool (utf s)) := by
  obtain ⟨l, hb⟩ := boundaries_ex s hs
  refine prun_of ac24 rfl ?_
  (repeat' first | simp (disch := omega) only [go_sem, ac24, enter] | refine pure_of _ (hb) ?_ | ((apply spl) <;> intro h <;> try simp (disch := omega) only [go_sem, ac24, enter , h]))
end Ago
/- The program's own look at text: the same. -/
set_option maxRecDepth 100000
set_option maxHeartbeats 4000000
namespace Ago
open Go (IntKind)
theorem u8and (m : Nat) (a : Nat) (h : a < 256) (hm : m < 256) : IntKind.wrap .u8 ((BitVec.ofInt (IntKind.bits .u8) (a : Int) &&& BitVec.ofInt (IntKind.bits .u8) (m : Int)).toNat : Int) = ((a &&& m : Nat) : Int) := by
  have e : IntKind.bits .u8 = 8 := rfl
  rw [e, BitVec.toNat_and, BitVec.toNat_ofInt, BitVec.toNat_ofInt]
  have h1 : ((a : Int) % ((2 ^ 8 : Nat) : Int)).toNat = a := by omega
  have h2 : ((m : Int) % ((2 ^ 8 : Nat) : Int)).toNat = m := by omega
  rw [h1, h2]
  have h3 : a &&& m ≤ a := Nat.and_le_left
  exact w8 (by omega) (by omega)
theorem b7 (c : UInt8) : IntKind.wrap .u8 ((BitVec.ofInt (IntKind.bits .u8) (c.toNat : Int) &&& BitVec.ofInt (IntKind.bits .u8) 7).toNat : Int) = (c.toNat : Int) % 8 := by
  have := u8and 7 c.toNat c.toNat_lt (by omega)
  rw [show ((7 : Nat) : Int) = 7 from rfl] at this
  rw [this, show (7 : Nat) = 2 ^ 3 - 1 from rfl, Nat.and_two_pow_sub_one_eq_mod]
  omega
theorem b15 (c : UInt8) : IntKind.wrap .u8 ((BitVec.ofInt (IntKind.bits .u8) (c.toNat : Int) &&& BitVec.ofInt (IntKind.bits .u8) 15).toNat : Int) = (c.toNat : Int) % 16 := by
  have := u8and 15 c.toNat c.toNat_lt (by omega)
  rw [show ((15 : Nat) : Int) = 15 from rfl] at this
  rw [this, show (15 : Nat) = 2 ^ 4 - 1 from rfl, Nat.and_two_pow_sub_one_eq_mod]
  omega
theorem b31 (c : UInt8) : IntKind.wrap .u8 ((BitVec.ofInt (IntKind.bits .u8) (c.toNat : Int) &&& BitVec.ofInt (IntKind.bits .u8) 31).toNat : Int) = (c.toNat : Int) % 32 := by
  have := u8and 31 c.toNat c.toNat_lt (by omega)
  rw [show ((31 : Nat) : Int) = 31 from rfl] at this
  rw [this, show (31 : Nat) = 2 ^ 5 - 1 from rfl, Nat.and_two_pow_sub_one_eq_mod]
  omega
theorem b63 (c : UInt8) : IntKind.wrap .u8 ((BitVec.ofInt (IntKind.bits .u8) (c.toNat : Int) &&& BitVec.ofInt (IntKind.bits .u8) 63).toNat : Int) = (c.toNat : Int) % 64 := by
  have := u8and 63 c.toNat c.toNat_lt (by omega)
  rw [show ((63 : Nat) : Int) = 63 from rfl] at this
  rw [this, show (63 : Nat) = 2 ^ 6 - 1 from rfl, Nat.and_two_pow_sub_one_eq_mod]
  omega
theorem and192 : ∀ n : Fin 256, n.val &&& 192 = n.val / 64 * 64 := by decide
theorem b192 (c : UInt8) : IntKind.wrap .u8 ((BitVec.ofInt (IntKind.bits .u8) (c.toNat : Int) &&& BitVec.ofInt (IntKind.bits .u8) 192).toNat : Int) = (c.toNat : Int) / 64 * 64 := by
  have := u8and 192 c.toNat c.toNat_lt (by omega)
  rw [show ((192 : Nat) : Int) = 192 from rfl] at this
  have h := and192 ⟨c.toNat, c.toNat_lt⟩
  simp only at h
  rw [this, h]
  omega
def headM (b : UInt8) : Int × Int :=
  if b.toNat < 128 then (1, b.toNat) else if b.toNat < 192 then (0, 0) else if b.toNat < 224 then (2, (b.toNat : Int) % 32) else if b.toNat < 240 then (3, (b.toNat : Int) % 16) else if b.toNat < 248 then (4, (b.toNat : Int) % 8) else (0, 0)
theorem head_run (b : UInt8) : PRun C0 94 [.int .u8 b.toNat] (.tup [.int .i64 (headM b).1, .int .i64 (headM b).2]) := by
  have hb := b.toNat_lt
  refine prun_of ac94 rfl ?_
  unfold headM
  by_cases h1 : b.toNat < 128
  · rw [if_pos h1]
    (repeat' first | simp (disch := omega) only [go_sem, ac94, enter, b7, b15, b31] | ((apply spl) <;> intro h <;> try simp (disch := omega) only [go_sem, ac94, enter, b7, b15, b31, h]))
  · rw [if_neg h1]
    by_cases h2 : b.toNat < 192
    · rw [if_pos h2]
      (repeat' first | simp (disch := omega) only [go_sem, ac94, enter, b7, b15, b31] | ((apply spl) <;> intro h <;> try simp (disch := omega) only [go_sem, ac94, enter, b7, b15, b31, h]))
    · rw [if_neg h2]
      by_cases h3 : b.toNat < 224
      · rw [if_pos h3]
        (repeat' first | simp (disch := omega) only [go_sem, ac94, enter, b7, b15, b31] | ((apply spl) <;> intro h <;> try simp (disch := omega) only [go_sem, ac94, enter, b7, b15, b31, h]))
      · rw [if_neg h3]
        by_cases h4 : b.toNat < 240
        · rw [if_pos h4]
          (repeat' first | simp (disch := omega) only [go_sem, ac94, enter, b7, b15, b31] | ((apply spl) <;> intro h <;> try simp (disch := omega) only [go_sem, ac94, enter, b7, b15, b31, h]))
        · rw [if_neg h4]
          by_cases h5 : b.toNat < 248
          · rw [if_pos h5]
            (repeat' first | simp (disch := omega) only [go_sem, ac94, enter, b7, b15, b31] | ((apply spl) <;> intro h <;> try simp (disch := omega) only [go_sem, ac94, enter, b7, b15, b31, h]))
          · rw [if_neg h5]
            (repeat' first | simp (disch := omega) only [go_sem, ac94, enter, b7, b15, b31] | ((apply spl) <;> intro h <;> try simp (disch := omega) only [go_sem, ac94, enter, b7, b15, b31, h]))
theorem scalar_run (r : Int) : PRun C0 95 [.int .i64 r] (.bool (charM r)) := by
  refine prun_of ac95 rfl ?_
  unfold charM
  (repeat' first | simp (disch := omega) only [go_sem, ac95, enter] | ((apply spl) <;> intro h <;> try simp (disch := omega) only [go_sem, ac95, enter, h]))
  all_goals rfl
theorem width_run (r : Int) : PRun C0 96 [.int .i64 r] (.int .i64 (widM r)) := by
  refine prun_of ac96 rfl ?_
  unfold widM
  by_cases h1 : r < 128
  · rw [if_pos h1]
    (repeat' first | simp (disch := omega) only [go_sem, ac96, enter] | ((apply spl) <;> intro h <;> try simp (disch := omega) only [go_sem, ac96, enter, h]))
  · rw [if_neg h1]
    by_cases h2 : r < 2048
    · rw [if_pos h2]
      (repeat' first | simp (disch := omega) only [go_sem, ac96, enter] | ((apply spl) <;> intro h <;> try simp (disch := omega) only [go_sem, ac96, enter, h]))
    · rw [if_neg h2]
      by_cases h3 : r < 65536
      · rw [if_pos h3]
        (repeat' first | simp (disch := omega) only [go_sem, ac96, enter] | ((apply spl) <;> intro h <;> try simp (disch := omega) only [go_sem, ac96, enter, h]))
      · rw [if_neg h3]
        (repeat' first | simp (disch := omega) only [go_sem, ac96, enter] | ((apply spl) <;> intro h <;> try simp (disch := omega) only [go_sem, ac96, enter, h]))
theorem contI {c : UInt8} (h : contM c = true) : (c.toNat : Int) / 64 * 64 = 128 := by have := contM_iff.1 h; omega
theorem contN {c : UInt8} (h : contM c = false) : ¬ (c.toNat : Int) / 64 * 64 = 128 := fun e => by
  have h2 : contM c = true := contM_iff.2 (by omega)
  rw [h] at h2
  cases h2
theorem decodeI_run (s : List UInt8) (k : Nat) (hs : s.length < 2 ^ 31) (hk : k < s.length) : PRun C0 84 [.str s, .int .i64 k] (.tup [.int .i64 (decM s k).1, .int .i64 (decM s k).2]) := by
  obtain ⟨b, hb⟩ := get_some hk
  have hbt := b.toNat_lt
  have hdm : decM s k = decB s k b := by unfold decM; rw [hb]
  have hkn : (k : Int).toNat = k := rfl
  have hh := head_run b
  rw [hdm]
  refine prun_of ac84 rfl ?_
  by_cases g0 : headM b = (0, 0)
  · have hdec : decB s k b = (0, 0) := by
      unfold headM at g0
      unfold decB
      repeat' split
      all_goals first | rfl | omega | (simp_all; done)
    rw [g0] at hh
    rw [hdec]
    (repeat' first | simp (disch := omega) only [go_sem, ac84, enter, hb, hkn] | refine pure_of _ (hh) ?_ | ((apply spl) <;> intro h <;> try simp (disch := omega) only [go_sem, ac84, enter, hb, hkn , h]))
  by_cases g1 : b.toNat < 128
  · have hhm : headM b = (1, (b.toNat : Int)) := by unfold headM; rw [if_pos g1]
    rw [hhm] at hh
    (repeat' first | simp (disch := omega) only [go_sem, ac84, enter, hb, hkn] | refine pure_of _ (hh) ?_ | ((apply spl) <;> intro h <;> try simp (disch := omega) only [go_sem, ac84, enter, hb, hkn , h]))
    refine loop_of (α := Unit) (fun _ => { tmps := slots 64 [(0, .str s), (1, .int .i64 k), (4, .int .i64 b.toNat), (6, .int .i64 1), (7, .int .i64 1)], heap := [], base := 0 }) (fun _ => True) (fun _ => 0) () rfl trivial ?_
    rintro _ _
    obtain ⟨r, hr⟩ : ∃ r : Int, r = (b.toNat : Int) := ⟨_, rfl⟩
    have hfin : decB s k b = decFin r 1 := by
      have hc : charM r = true := by unfold charM; simp; omega
      have hw : widM r = 1 := by unfold widM; rw [if_pos (by omega)]
      unfold decB decFin
      rw [if_pos g1, hc, hw, hr]
      rfl
    rw [← hr]
    have hs1 := scalar_run r
    have hw1 := width_run r
    unfold decFin at hfin
    cases hc : charM r with
    | false =>
      rw [hc] at hs1 hfin
      simp only [Bool.false_and, Bool.false_eq_true, if_false] at hfin
      rw [hfin]
      (repeat' first | simp (disch := omega) only [go_sem] | refine pure_of _ (hs1) ?_ | refine pure_of _ (hw1) ?_ | ((apply spl) <;> intro h <;> try simp (disch := omega) only [go_sem, h]))
    | true =>
      rw [hc] at hs1 hfin
      simp only [Bool.true_and] at hfin
      by_cases hw : widM r = 1
      · rw [hw] at hw1
        rw [hw, if_pos (by simp)] at hfin
        rw [hfin]
        (repeat' first | simp (disch := omega) only [go_sem] | refine pure_of _ (hs1) ?_ | refine pure_of _ (hw1) ?_ | ((apply spl) <;> intro h <;> try simp (disch := omega) only [go_sem, h]))
      · have hw2 : (widM r == 1) = false := by simpa using hw
        have hw3 : ¬ (widM r : Int) = 1 := by omega
        rw [hw2] at hfin
        simp only [Bool.false_eq_true, if_false] at hfin
        rw [hfin]
        (repeat' first | simp (disch := omega) only [go_sem, hw3] | refine pure_of _ (hs1) ?_ | refine pure_of _ (hw1) ?_ | ((apply spl) <;> intro h <;> try simp (disch := omega) only [go_sem, hw3 , h]))
  by_cases g2 : 192 ≤ b.toNat ∧ b.toNat < 224
  · obtain ⟨g1', g2'⟩ := g2
    have hhm : headM b = (2, (b.toNat : Int) % 32) := by
      unfold headM
      repeat' split
      all_goals first | rfl | omega
    rw [hhm] at hh
    by_cases hlen : s.length < k + 2
    · have hnone : s[k + 1]? = none := List.getElem?_eq_none (by omega)
      have hdec : decB s k b = (0, 0) := by
        unfold decB
        repeat' split
        all_goals first | rfl | omega | (rw [hnone]; first | rfl | (cases s[k + 1]? <;> first | rfl | (cases s[k + 2]? <;> rfl)))
      rw [hdec]
      (repeat' first | simp (disch := omega) only [go_sem, ac84, enter, hb, hkn] | refine pure_of _ (hh) ?_ | ((apply spl) <;> intro h <;> try simp (disch := omega) only [go_sem, ac84, enter, hb, hkn , h]))
    · have hd0 : True := trivial
      obtain ⟨c, hc⟩ := get_some (s := s) (k := k + 1) (by omega)
      have ct := c.toNat_lt
      have kn1 : ((k : Int) + 1).toNat = k + 1 := by omega
      have hdec : decB s k b = dec2 b (some c) := by
        unfold decB
        repeat' split
        all_goals first | omega | (rw [hc])
      rw [dec2_some] at hdec
      (repeat' first | simp (disch := omega) only [go_sem, ac84, enter, hb, hkn] | refine pure_of _ (hh) ?_ | ((apply spl) <;> intro h <;> try simp (disch := omega) only [go_sem, ac84, enter, hb, hkn , h]))
      refine loop_of (α := Nat) (fun i => { tmps := slots 64 [(0, .str s), (1, .int .i64 k), (4, .int .i64 (pick4 ((b.toNat : Int) % 32) (((b.toNat : Int) % 32) * 64 + (c.toNat : Int) % 64) 0 0 i)), (6, .int .i64 2), (7, .int .i64 i)], heap := [], base := 0 }) (fun i => 1 ≤ i ∧ i ≤ 2 ∧ (1 < i → contM c = true)) (fun i => 2 - i) 1 rfl (by refine ⟨by omega, by omega, fun h => by omega⟩) ?_
      rintro i ⟨hi1, hi2, ic⟩
      rcases (by omega : i = 1 ∨ i = 2) with rfl | rfl
      · have hp : pick4 ((b.toNat : Int) % 32) (((b.toNat : Int) % 32) * 64 + (c.toNat : Int) % 64) 0 0 1 = ((b.toNat : Int) % 32) := rfl
        have hq : pick4 ((b.toNat : Int) % 32) (((b.toNat : Int) % 32) * 64 + (c.toNat : Int) % 64) 0 0 2 = (((b.toNat : Int) % 32) * 64 + (c.toNat : Int) % 64) := rfl
        rw [hp]
        cases hcc : contM c with
        | false =>
          have hno := contN hcc
          have hdec0 : decB s k b = (0, 0) := by rw [hdec]; simp [hcc]
          rw [hdec0]
          (repeat' first | simp (disch := omega) only [go_sem, hkn, kn1, hc, b192, hno, c1', c2', c3', c4'] | ((apply spl) <;> intro h <;> try simp (disch := omega) only [go_sem, hkn, kn1, hc, b192, hno, c1', c2', c3', c4', h]))
        | true =>
          have hyes := contI hcc
          (repeat' first | simp (disch := omega) only [go_sem, hkn, kn1, hc, b192, b63, hyes, pw6, or64, c1', c2', c3', c4'] | ((apply spl) <;> intro h <;> try simp (disch := omega) only [go_sem, hkn, kn1, hc, b192, b63, hyes, pw6, or64, c1', c2', c3', c4', h]))
          exact ⟨2, by rw [hq]; rfl, ⟨by omega, by omega, fun _ => by first | exact hcc | trivial⟩, by omega⟩
      · have hp : pick4 ((b.toNat : Int) % 32) (((b.toNat : Int) % 32) * 64 + (c.toNat : Int) % 64) 0 0 2 = (((b.toNat : Int) % 32) * 64 + (c.toNat : Int) % 64) := rfl
        rw [hp]
        have hcc := ic (by omega)
        have hcc' := contM_iff.1 hcc
        obtain ⟨r, hr⟩ : ∃ r : Int, r = (((b.toNat : Int) % 32) * 64 + (c.toNat : Int) % 64) := ⟨_, rfl⟩
        have er : (((b.toNat : Int) - 192) * 64 + ((c.toNat : Int) - 128)) = r := by omega
        have hfin : decB s k b = decFin r 2 := by
          rw [hdec, er]
          simp [hcc]
        rw [← hr]
        have hs1 := scalar_run r
        have hw1 := width_run r
        unfold decFin at hfin
        cases hc : charM r with
        | false =>
          rw [hc] at hs1 hfin
          simp only [Bool.false_and, Bool.false_eq_true, if_false] at hfin
          rw [hfin]
          (repeat' first | simp (disch := omega) only [go_sem] | refine pure_of _ (hs1) ?_ | refine pure_of _ (hw1) ?_ | ((apply spl) <;> intro h <;> try simp (disch := omega) only [go_sem, h]))
        | true =>
          rw [hc] at hs1 hfin
          simp only [Bool.true_and] at hfin
          by_cases hw : widM r = 2
          · rw [hw] at hw1
            rw [hw, if_pos (by simp)] at hfin
            rw [hfin]
            (repeat' first | simp (disch := omega) only [go_sem] | refine pure_of _ (hs1) ?_ | refine pure_of _ (hw1) ?_ | ((apply spl) <;> intro h <;> try simp (disch := omega) only [go_sem, h]))
          · have hw2 : (widM r == 2) = false := by simpa using hw
            have hw3 : ¬ (widM r : Int) = 2 := by omega
            rw [hw2] at hfin
            simp only [Bool.false_eq_true, if_false] at hfin
            rw [hfin]
            (repeat' first | simp (disch := omega) only [go_sem, hw3] | refine pure_of _ (hs1) ?_ | refine pure_of _ (hw1) ?_ | ((apply spl) <;> intro h <;> try simp (disch := omega) only [go_sem, hw3 , h]))
  by_cases g3 : 224 ≤ b.toNat ∧ b.toNat < 240
  · obtain ⟨g1', g2'⟩ := g3
    have hhm : headM b = (3, (b.toNat : Int) % 16) := by
      unfold headM
      repeat' split
      all_goals first | rfl | omega
    rw [hhm] at hh
    by_cases hlen : s.length < k + 3
    · have hnone : s[k + 2]? = none := List.getElem?_eq_none (by omega)
      have hdec : decB s k b = (0, 0) := by
        unfold decB
        repeat' split
        all_goals first | rfl | omega | (rw [hnone]; first | rfl | (cases s[k + 1]? <;> first | rfl | (cases s[k + 2]? <;> rfl)))
      rw [hdec]
      (repeat' first | simp (disch := omega) only [go_sem, ac84, enter, hb, hkn] | refine pure_of _ (hh) ?_ | ((apply spl) <;> intro h <;> try simp (disch := omega) only [go_sem, ac84, enter, hb, hkn , h]))
    · have hd0 : True := trivial
      obtain ⟨c, hc⟩ := get_some (s := s) (k := k + 1) (by omega)
      have ct := c.toNat_lt
      have kn1 : ((k : Int) + 1).toNat = k + 1 := by omega
      obtain ⟨d, hd⟩ := get_some (s := s) (k := k + 2) (by omega)
      have dt := d.toNat_lt
      have kn2 : ((k : Int) + 2).toNat = k + 2 := by omega
      have hdec : decB s k b = dec3 b (some c) (some d) := by
        unfold decB
        repeat' split
        all_goals first | omega | (rw [hc, hd])
      rw [dec3_some] at hdec
      (repeat' first | simp (disch := omega) only [go_sem, ac84, enter, hb, hkn] | refine pure_of _ (hh) ?_ | ((apply spl) <;> intro h <;> try simp (disch := omega) only [go_sem, ac84, enter, hb, hkn , h]))
      refine loop_of (α := Nat) (fun i => { tmps := slots 64 [(0, .str s), (1, .int .i64 k), (4, .int .i64 (pick4 ((b.toNat : Int) % 16) (((b.toNat : Int) % 16) * 64 + (c.toNat : Int) % 64) ((((b.toNat : Int) % 16) * 64 + (c.toNat : Int) % 64) * 64 + (d.toNat : Int) % 64) 0 i)), (6, .int .i64 3), (7, .int .i64 i)], heap := [], base := 0 }) (fun i => 1 ≤ i ∧ i ≤ 3 ∧ (1 < i → contM c = true) ∧ (2 < i → contM d = true)) (fun i => 3 - i) 1 rfl (by refine ⟨by omega, by omega, fun h => by omega, fun h => by omega⟩) ?_
      rintro i ⟨hi1, hi2, ic, id⟩
      rcases (by omega : i = 1 ∨ i = 2 ∨ i = 3) with rfl | rfl | rfl
      · have hp : pick4 ((b.toNat : Int) % 16) (((b.toNat : Int) % 16) * 64 + (c.toNat : Int) % 64) ((((b.toNat : Int) % 16) * 64 + (c.toNat : Int) % 64) * 64 + (d.toNat : Int) % 64) 0 1 = ((b.toNat : Int) % 16) := rfl
        have hq : pick4 ((b.toNat : Int) % 16) (((b.toNat : Int) % 16) * 64 + (c.toNat : Int) % 64) ((((b.toNat : Int) % 16) * 64 + (c.toNat : Int) % 64) * 64 + (d.toNat : Int) % 64) 0 2 = (((b.toNat : Int) % 16) * 64 + (c.toNat : Int) % 64) := rfl
        rw [hp]
        cases hcc : contM c with
        | false =>
          have hno := contN hcc
          have hdec0 : decB s k b = (0, 0) := by rw [hdec]; simp [hcc]
          rw [hdec0]
          (repeat' first | simp (disch := omega) only [go_sem, hkn, kn1, hc, b192, hno, c1', c2', c3', c4'] | ((apply spl) <;> intro h <;> try simp (disch := omega) only [go_sem, hkn, kn1, hc, b192, hno, c1', c2', c3', c4', h]))
        | true =>
          have hyes := contI hcc
          (repeat' first | simp (disch := omega) only [go_sem, hkn, kn1, hc, b192, b63, hyes, pw6, or64, c1', c2', c3', c4'] | ((apply spl) <;> intro h <;> try simp (disch := omega) only [go_sem, hkn, kn1, hc, b192, b63, hyes, pw6, or64, c1', c2', c3', c4', h]))
          exact ⟨2, by rw [hq]; rfl, ⟨by omega, by omega, fun _ => by first | exact hcc | trivial, fun h => by omega⟩, by omega⟩
      · have hp : pick4 ((b.toNat : Int) % 16) (((b.toNat : Int) % 16) * 64 + (c.toNat : Int) % 64) ((((b.toNat : Int) % 16) * 64 + (c.toNat : Int) % 64) * 64 + (d.toNat : Int) % 64) 0 2 = (((b.toNat : Int) % 16) * 64 + (c.toNat : Int) % 64) := rfl
        have hq : pick4 ((b.toNat : Int) % 16) (((b.toNat : Int) % 16) * 64 + (c.toNat : Int) % 64) ((((b.toNat : Int) % 16) * 64 + (c.toNat : Int) % 64) * 64 + (d.toNat : Int) % 64) 0 3 = ((((b.toNat : Int) % 16) * 64 + (c.toNat : Int) % 64) * 64 + (d.toNat : Int) % 64) := rfl
        rw [hp]
        cases hdc : contM d with
        | false =>
          have hno := contN hdc
          have hdec0 : decB s k b = (0, 0) := by rw [hdec]; simp [hdc]
          rw [hdec0]
          (repeat' first | simp (disch := omega) only [go_sem, hkn, kn2, hd, b192, hno, c1', c2', c3', c4'] | ((apply spl) <;> intro h <;> try simp (disch := omega) only [go_sem, hkn, kn2, hd, b192, hno, c1', c2', c3', c4', h]))
        | true =>
          have hyes := contI hdc
          (repeat' first | simp (disch := omega) only [go_sem, hkn, kn2, hd, b192, b63, hyes, pw6, or64, c1', c2', c3', c4'] | ((apply spl) <;> intro h <;> try simp (disch := omega) only [go_sem, hkn, kn2, hd, b192, b63, hyes, pw6, or64, c1', c2', c3', c4', h]))
          exact ⟨3, by rw [hq]; rfl, ⟨by omega, by omega, fun h => ic (by omega), fun _ => by first | exact hdc | trivial⟩, by omega⟩
      · have hp : pick4 ((b.toNat : Int) % 16) (((b.toNat : Int) % 16) * 64 + (c.toNat : Int) % 64) ((((b.toNat : Int) % 16) * 64 + (c.toNat : Int) % 64) * 64 + (d.toNat : Int) % 64) 0 3 = ((((b.toNat : Int) % 16) * 64 + (c.toNat : Int) % 64) * 64 + (d.toNat : Int) % 64) := rfl
        rw [hp]
        have hcc := ic (by omega)
        have hcc' := contM_iff.1 hcc
        have hdc := id (by omega)
        have hdc' := contM_iff.1 hdc
        obtain ⟨r, hr⟩ : ∃ r : Int, r = ((((b.toNat : Int) % 16) * 64 + (c.toNat : Int) % 64) * 64 + (d.toNat : Int) % 64) := ⟨_, rfl⟩
        have er : ((((b.toNat : Int) - 224) * 64 + ((c.toNat : Int) - 128)) * 64 + ((d.toNat : Int) - 128)) = r := by omega
        have hfin : decB s k b = decFin r 3 := by
          rw [hdec, er]
          simp [hcc, hdc]
        rw [← hr]
        have hs1 := scalar_run r
        have hw1 := width_run r
        unfold decFin at hfin
        cases hc : charM r with
        | false =>
          rw [hc] at hs1 hfin
          simp only [Bool.false_and, Bool.false_eq_true, if_false] at hfin
          rw [hfin]
          (repeat' first | simp (disch := omega) only [go_sem] | refine pure_of _ (hs1) ?_ | refine pure_of _ (hw1) ?_ | ((apply spl) <;> intro h <;> try simp (disch := omega) only [go_sem, h]))
        | true =>
          rw [hc] at hs1 hfin
          simp only [Bool.true_and] at hfin
          by_cases hw : widM r = 3
          · rw [hw] at hw1
            rw [hw, if_pos (by simp)] at hfin
            rw [hfin]
            (repeat' first | simp (disch := omega) only [go_sem] | refine pure_of _ (hs1) ?_ | refine pure_of _ (hw1) ?_ | ((apply spl) <;> intro h <;> try simp (disch := omega) only [go_sem, h]))
          · have hw2 : (widM r == 3) = false := by simpa using hw
            have hw3 : ¬ (widM r : Int) = 3 := by omega
            rw [hw2] at hfin
            simp only [Bool.false_eq_true, if_false] at hfin
            rw [hfin]
            (repeat' first | simp (disch := omega) only [go_sem, hw3] | refine pure_of _ (hs1) ?_ | refine pure_of _ (hw1) ?_ | ((apply spl) <;> intro h <;> try simp (disch := omega) only [go_sem, hw3 , h]))
  by_cases g4 : 240 ≤ b.toNat ∧ b.toNat < 248
  · obtain ⟨g1', g2'⟩ := g4
    have hhm : headM b = (4, (b.toNat : Int) % 8) := by
      unfold headM
      repeat' split
      all_goals first | rfl | omega
    rw [hhm] at hh
    by_cases hlen : s.length < k + 4
    · have hnone : s[k + 3]? = none := List.getElem?_eq_none (by omega)
      have hdec : decB s k b = (0, 0) := by
        unfold decB
        repeat' split
        all_goals first | rfl | omega | (rw [hnone]; first | rfl | (cases s[k + 1]? <;> first | rfl | (cases s[k + 2]? <;> rfl)))
      rw [hdec]
      (repeat' first | simp (disch := omega) only [go_sem, ac84, enter, hb, hkn] | refine pure_of _ (hh) ?_ | ((apply spl) <;> intro h <;> try simp (disch := omega) only [go_sem, ac84, enter, hb, hkn , h]))
    · have hd0 : True := trivial
      obtain ⟨c, hc⟩ := get_some (s := s) (k := k + 1) (by omega)
      have ct := c.toNat_lt
      have kn1 : ((k : Int) + 1).toNat = k + 1 := by omega
      obtain ⟨d, hd⟩ := get_some (s := s) (k := k + 2) (by omega)
      have dt := d.toNat_lt
      have kn2 : ((k : Int) + 2).toNat = k + 2 := by omega
      obtain ⟨e, he⟩ := get_some (s := s) (k := k + 3) (by omega)
      have et := e.toNat_lt
      have kn3 : ((k : Int) + 3).toNat = k + 3 := by omega
      have hdec : decB s k b = dec4 b (some c) (some d) (some e) := by
        unfold decB
        repeat' split
        all_goals first | omega | (rw [hc, hd, he])
      rw [dec4_some] at hdec
      (repeat' first | simp (disch := omega) only [go_sem, ac84, enter, hb, hkn] | refine pure_of _ (hh) ?_ | ((apply spl) <;> intro h <;> try simp (disch := omega) only [go_sem, ac84, enter, hb, hkn , h]))
      refine loop_of (α := Nat) (fun i => { tmps := slots 64 [(0, .str s), (1, .int .i64 k), (4, .int .i64 (pick4 ((b.toNat : Int) % 8) (((b.toNat : Int) % 8) * 64 + (c.toNat : Int) % 64) ((((b.toNat : Int) % 8) * 64 + (c.toNat : Int) % 64) * 64 + (d.toNat : Int) % 64) (((((b.toNat : Int) % 8) * 64 + (c.toNat : Int) % 64) * 64 + (d.toNat : Int) % 64) * 64 + (e.toNat : Int) % 64) i)), (6, .int .i64 4), (7, .int .i64 i)], heap := [], base := 0 }) (fun i => 1 ≤ i ∧ i ≤ 4 ∧ (1 < i → contM c = true) ∧ (2 < i → contM d = true) ∧ (3 < i → contM e = true)) (fun i => 4 - i) 1 rfl (by refine ⟨by omega, by omega, fun h => by omega, fun h => by omega, fun h => by omega⟩) ?_
      rintro i ⟨hi1, hi2, ic, id, ie⟩
      rcases (by omega : i = 1 ∨ i = 2 ∨ i = 3 ∨ i = 4) with rfl | rfl | rfl | rfl
      · have hp : pick4 ((b.toNat : Int) % 8) (((b.toNat : Int) % 8) * 64 + (c.toNat : Int) % 64) ((((b.toNat : Int) % 8) * 64 + (c.toNat : Int) % 64) * 64 + (d.toNat : Int) % 64) (((((b.toNat : Int) % 8) * 64 + (c.toNat : Int) % 64) * 64 + (d.toNat : Int) % 64) * 64 + (e.toNat : Int) % 64) 1 = ((b.toNat : Int) % 8) := rfl
        have hq : pick4 ((b.toNat : Int) % 8) (((b.toNat : Int) % 8) * 64 + (c.toNat : Int) % 64) ((((b.toNat : Int) % 8) * 64 + (c.toNat : Int) % 64) * 64 + (d.toNat : Int) % 64) (((((b.toNat : Int) % 8) * 64 + (c.toNat : Int) % 64) * 64 + (d.toNat : Int) % 64) * 64 + (e.toNat : Int) % 64) 2 = (((b.toNat : Int) % 8) * 64 + (c.toNat : Int) % 64) := rfl
        rw [hp]
        cases hcc : contM c with
        | false =>
          have hno := contN hcc
          have hdec0 : decB s k b = (0, 0) := by rw [hdec]; simp [hcc]
          rw [hdec0]
          (repeat' first | simp (disch := omega) only [go_sem, hkn, kn1, hc, b192, hno, c1', c2', c3', c4'] | ((apply spl) <;> intro h <;> try simp (disch := omega) only [go_sem, hkn, kn1, hc, b192, hno, c1', c2', c3', c4', h]))
        | true =>
          have hyes := contI hcc
          (repeat' first | simp (disch := omega) only [go_sem, hkn, kn1, hc, b192, b63, hyes, pw6, or64, c1', c2', c3', c4'] | ((apply spl) <;> intro h <;> try simp (disch := omega) only [go_sem, hkn, kn1, hc, b192, b63, hyes, pw6, or64, c1', c2', c3', c4', h]))
          exact ⟨2, by rw [hq]; rfl, ⟨by omega, by omega, fun _ => by first | exact hcc | trivial, fun h => by omega, fun h => by omega⟩, by omega⟩
      · have hp : pick4 ((b.toNat : Int) % 8) (((b.toNat : Int) % 8) * 64 + (c.toNat : Int) % 64) ((((b.toNat : Int) % 8) * 64 + (c.toNat : Int) % 64) * 64 + (d.toNat : Int) % 64) (((((b.toNat : Int) % 8) * 64 + (c.toNat : Int) % 64) * 64 + (d.toNat : Int) % 64) * 64 + (e.toNat : Int) % 64) 2 = (((b.toNat : Int) % 8) * 64 + (c.toNat : Int) % 64) := rfl
        have hq : pick4 ((b.toNat : Int) % 8) (((b.toNat : Int) % 8) * 64 + (c.toNat : Int) % 64) ((((b.toNat : Int) % 8) * 64 + (c.toNat : Int) % 64) * 64 + (d.toNat : Int) % 64) (((((b.toNat : Int) % 8) * 64 + (c.toNat : Int) % 64) * 64 + (d.toNat : Int) % 64) * 64 + (e.toNat : Int) % 64) 3 = ((((b.toNat : Int) % 8) * 64 + (c.toNat : Int) % 64) * 64 + (d.toNat : Int) % 64) := rfl
        rw [hp]
        cases hdc : contM d with
        | false =>
          have hno := contN hdc
          have hdec0 : decB s k b = (0, 0) := by rw [hdec]; simp [hdc]
          rw [hdec0]
          (repeat' first | simp (disch := omega) only [go_sem, hkn, kn2, hd, b192, hno, c1', c2', c3', c4'] | ((apply spl) <;> intro h <;> try simp (disch := omega) only [go_sem, hkn, kn2, hd, b192, hno, c1', c2', c3', c4', h]))
        | true =>
          have hyes := contI hdc
          (repeat' first | simp (disch := omega) only [go_sem, hkn, kn2, hd, b192, b63, hyes, pw6, or64, c1', c2', c3', c4'] | ((apply spl) <;> intro h <;> try simp (disch := omega) only [go_sem, hkn, kn2, hd, b192, b63, hyes, pw6, or64, c1', c2', c3', c4', h]))
          exact ⟨3, by rw [hq]; rfl, ⟨by omega, by omega, fun h => ic (by omega), fun _ => by first | exact hdc | trivial, fun h => by omega⟩, by omega⟩
      · have hp : pick4 ((b.toNat : Int) % 8) (((b.toNat : Int) % 8) * 64 + (c.toNat : Int) % 64) ((((b.toNat : Int) % 8) * 64 + (c.toNat : Int) % 64) * 64 + (d.toNat : Int) % 64) (((((b.toNat : Int) % 8) * 64 + (c.toNat : Int) % 64) * 64 + (d.toNat : Int) % 64) * 64 + (e.toNat : Int) % 64) 3 = ((((b.toNat : Int) % 8) * 64 + (c.toNat : Int) % 64) * 64 + (d.toNat : Int) % 64) := rfl
        have hq : pick4 ((b.toNat : Int) % 8) (((b.toNat : Int) % 8) * 64 + (c.toNat : Int) % 64) ((((b.toNat : Int) % 8) * 64 + (c.toNat : Int) % 64) * 64 + (d.toNat : Int) % 64) (((((b.toNat : Int) % 8) * 64 + (c.toNat : Int) % 64) * 64 + (d.toNat : Int) % 64) * 64 + (e.toNat : Int) % 64) 4 = (((((b.toNat : Int) % 8) * 64 + (c.toNat : Int) % 64) * 64 + (d.toNat : Int) % 64) * 64 + (e.toNat : Int) % 64) := rfl
        rw [hp]
        cases hec : contM e with
        | false =>
          have hno := contN hec
          have hdec0 : decB s k b = (0, 0) := by rw [hdec]; simp [hec]
          rw [hdec0]
          (repeat' first | simp (disch := omega) only [go_sem, hkn, kn3, he, b192, hno, c1', c2', c3', c4'] | ((apply spl) <;> intro h <;> try simp (disch := omega) only [go_sem, hkn, kn3, he, b192, hno, c1', c2', c3', c4', h]))
        | true =>
          have hyes := contI hec
          (repeat' first | simp (disch := omega) only [go_sem, hkn, kn3, he, b192, b63, hyes, pw6, or64, c1', c2', c3', c4'] | ((apply spl) <;> intro h <;> try simp (disch := omega) only [go_sem, hkn, kn3, he, b192, b63, hyes, pw6, or64, c1', c2', c3', c4', h]))
          exact ⟨4, by rw [hq]; rfl, ⟨by omega, by omega, fun h => ic (by omega), fun h => id (by omega), fun _ => by first | exact hec | trivial⟩, by omega⟩
      · have hp : pick4 ((b.toNat : Int) % 8) (((b.toNat : Int) % 8) * 64 + (c.toNat : Int) % 64) ((((b.toNat : Int) % 8) * 64 + (c.toNat : Int) % 64) * 64 + (d.toNat : Int) % 64) (((((b.toNat : Int) % 8) * 64 + (c.toNat : Int) % 64) * 64 + (d.toNat : Int) % 64) * 64 + (e.toNat : Int) % 64) 4 = (((((b.toNat : Int) % 8) * 64 + (c.toNat : Int) % 64) * 64 + (d.toNat : Int) % 64) * 64 + (e.toNat : Int) % 64) := rfl
        rw [hp]
        have hcc := ic (by omega)
        have hcc' := contM_iff.1 hcc
        have hdc := id (by omega)
        have hdc' := contM_iff.1 hdc
        have hec := ie (by omega)
        have hec' := contM_iff.1 hec
        obtain ⟨r, hr⟩ : ∃ r : Int, r = (((((b.toNat : Int) % 8) * 64 + (c.toNat : Int) % 64) * 64 + (d.toNat : Int) % 64) * 64 + (e.toNat : Int) % 64) := ⟨_, rfl⟩
        have er : (((((b.toNat : Int) - 240) * 64 + ((c.toNat : Int) - 128)) * 64 + ((d.toNat : Int) - 128)) * 64 + ((e.toNat : Int) - 128)) = r := by omega
        have hfin : decB s k b = decFin r 4 := by
          rw [hdec, er]
          simp [hcc, hdc, hec]
        rw [← hr]
        have hs1 := scalar_run r
        have hw1 := width_run r
        unfold decFin at hfin
        cases hc : charM r with
        | false =>
          rw [hc] at hs1 hfin
          simp only [Bool.false_and, Bool.false_eq_true, if_false] at hfin
          rw [hfin]
          (repeat' first | simp (disch := omega) only [go_sem] | refine pure_of _ (hs1) ?_ | refine pure_of _ (hw1) ?_ | ((apply spl) <;> intro h <;> try simp (disch := omega) only [go_sem, h]))
        | true =>
          rw [hc] at hs1 hfin
          simp only [Bool.true_and] at hfin
          by_cases hw : widM r = 4
          · rw [hw] at hw1
            rw [hw, if_pos (by simp)] at hfin
            rw [hfin]
            (repeat' first | simp (disch := omega) only [go_sem] | refine pure_of _ (hs1) ?_ | refine pure_of _ (hw1) ?_ | ((apply spl) <;> intro h <;> try simp (disch := omega) only [go_sem, h]))
          · have hw2 : (widM r == 4) = false := by simpa using hw
            have hw3 : ¬ (widM r : Int) = 4 := by omega
            rw [hw2] at hfin
            simp only [Bool.false_eq_true, if_false] at hfin
            rw [hfin]
            (repeat' first | simp (disch := omega) only [go_sem, hw3] | refine pure_of _ (hs1) ?_ | refine pure_of _ (hw1) ?_ | ((apply spl) <;> intro h <;> try simp (disch := omega) only [go_sem, hw3 , h]))
  exfalso
  apply g0
  unfold headM
  repeat' split
  all_goals first | rfl | omega
end Ago
/- utf.Valid: is it text? -/
set_option maxRecDepth 100000
set_option maxHeartbeats 4000000
namespace Ago
open Go (IntKind)
theorem lenI_ex (s : List UInt8) (hs : s.length < 2 ^ 30) : ∃ n : Int, PRun C0 63 [.str s] (.tup [.int .i64 n, .int .i64 (if utf s then 0 else 5)]) := by
  have h := prunE_of (C := C0) (f := 63) (ts := [.str s]) (k := fun v => ∃ n : Int, v = .tup [.int .i64 n, .int .i64 (if utf s then 0 else 5)]) ac63 rfl (by
    (repeat' first | simp (disch := omega) only [go_sem, ac63, enter] | ((apply spl) <;> intro h <;> try simp (disch := omega) only [go_sem, ac63, enter, h]))
    refine loop_of (α := Nat × Nat) (fun a => { tmps := slots 26 [(0, .str s), (4, .int .i64 a.2), (5, .int .i64 a.1)], heap := [], base := 0 }) (fun a => a.1 ≤ s.length ∧ a.2 ≤ a.1 ∧ utf s = walkU s (s.length - a.1 + 1) a.1) (fun a => s.length - a.1) (0, 0) rfl ⟨by simp, by simp, rfl⟩ ?_
    rintro ⟨k, j⟩ ⟨hk, hl, hw⟩
    simp only at hk hl hw
    by_cases hlt : k < s.length
    · have hd := decodeI_run s k (by omega) hlt
      obtain ⟨m, hm, hsz⟩ := decM_size s k
      rw [hm] at hd
      by_cases h0 : m = 0
      · subst h0
        rw [walk_stop hlt hm] at hw
        rw [hw]
        (repeat' first | simp (disch := omega) only [go_sem] | refine pure_of _ (hd) ?_ | ((apply spl) <;> intro h <;> try simp (disch := omega) only [go_sem, h]))
        exact ⟨_, rfl⟩
      · rw [walk_step hlt hm h0] at hw
        (repeat' first | simp (disch := omega) only [go_sem] | refine pure_of _ (hd) ?_ | ((apply spl) <;> intro h <;> try simp (disch := omega) only [go_sem, h]))
        exact ⟨(k + m, j + 1), rfl, ⟨by simp only; omega, by simp only; omega, hw⟩, by simp only; omega⟩
    · rw [walk_end (by omega)] at hw
      rw [hw]
      (repeat' first | simp (disch := omega) only [go_sem] | ((apply spl) <;> intro h <;> try simp (disch := omega) only [go_sem, h]))
      exact ⟨_, rfl⟩)
  obtain ⟨v, h1, n, rfl⟩ := h
  exact ⟨n, h1⟩
theorem utfI_run (s : List UInt8) (hs : s.length < 2 ^ 30) : PRun C0 46 [.str s] (.bool (utf s)) := by
  obtain ⟨n, hb⟩ := lenI_ex s hs
  refine prun_of ac46 rfl ?_
  cases hu : utf s with
  | true =>
    rw [hu] at hb
    simp only [if_true] at hb
    (repeat' first | simp (disch := omega) only [go_sem, ac46, enter] | refine pure_of _ (hb) ?_ | ((apply spl) <;> intro h <;> try simp (disch := omega) only [go_sem, ac46, enter , h]))
  | false =>
    rw [hu] at hb
    simp only [Bool.false_eq_true, if_false] at hb
    (repeat' first | simp (disch := omega) only [go_sem, ac46, enter] | refine pure_of _ (hb) ?_ | ((apply spl) <;> intro h <;> try simp (disch := omega) only [go_sem, ac46, enter , h]))
end Ago
