/- Layers 1 and 2 of the references: numerals and decimals. -/
import Derived.Test.YtglnglflcoeinaaGreatDoorCode
set_option linter.unusedSimpArgs false
set_option linter.unusedVariables false
set_option maxRecDepth 100000
namespace Ago
def digit (b : UInt8) : Bool := decide (48 ≤ b.toNat ∧ b.toNat ≤ 57)
def digits (s : List UInt8) : Bool := s.all digit
theorem take_succ_all {α : Type} {s : List α} {k : Nat} {c : α} {p : α → Bool} (hc : s[k]? = some c) (h : (s.take k).all p = true) (hp : p c = true) : (s.take (k + 1)).all p = true := by
  rw [List.take_add_one, hc]
  simp_all
theorem not_all {α : Type} {s : List α} {k : Nat} {c : α} {p : α → Bool} (hc : s[k]? = some c) (hp : p c = false) : s.all p = false := by
  rw [List.all_eq_false]
  exact ⟨c, List.mem_of_getElem? hc, by simp [hp]⟩
theorem get_some {α : Type} {s : List α} {k : Nat} (h : k < s.length) : ∃ c, s[k]? = some c := ⟨_, List.getElem?_eq_getElem h⟩

theorem digits_run (s : List UInt8) (hs : s.length < 2 ^ 31) : PRun C0 82 [.str s] (.bool (digits s)) := by
  refine prun_of ac82 rfl ?_
  simp (disch := omega) only [go_sem, ac82, enter]
  refine loop_of (α := Nat) (fun k => { tmps := slots 20 [(0, .str s), (3, .int .i64 k)], heap := [], base := 0 }) (fun k => k ≤ s.length ∧ (s.take k).all digit = true) (fun k => s.length - k) 0 rfl ⟨Nat.zero_le _, rfl⟩ ?_
  rintro k ⟨hk, hd⟩
  by_cases hlt : k < s.length
  · obtain ⟨c, hc⟩ := get_some hlt
    (repeat' first | simp (disch := omega) only [go_sem, hc] | ((apply spl) <;> intro h <;> try simp (disch := omega) only [go_sem, hc, h]))
    · rw [digits, not_all hc (by simp [digit]; omega)]
    · exact ⟨k + 1, rfl, ⟨hlt, take_succ_all hc hd (by simp [digit]; omega)⟩, by omega⟩
    · rw [digits, not_all hc (by simp [digit]; omega)]
  · (repeat' first | simp (disch := omega) only [go_sem] | ((apply spl) <;> intro h <;> try simp (disch := omega) only [go_sem, h]))
    have : k = s.length := by omega
    subst this
    simpa [digits] using hd

/-- R01.Valid -/
def numeral (s : List UInt8) : Bool := decide (s.length ≤ 600) && digits s && decide (s[0]? ≠ some 48)

theorem zero48 (c : UInt8) : (c.toNat : Int) = 48 ↔ c = 48 := by
  constructor
  · intro h
    have : c.toNat = 48 := by omega
    exact UInt8.toNat_inj.1 this
  · rintro rfl; rfl

theorem e00 : (0 : Int).toNat = 0 := (rfl)
theorem valid01_run (s : List UInt8) (hs : s.length < 2 ^ 31) : PRun C0 59 [.str s] (.bool (numeral s)) := by
  refine prun_of ac59 rfl ?_
  by_cases h0 : s.length = 0
  · have hn : s = [] := List.eq_nil_of_length_eq_zero h0
    (repeat' first | simp (disch := omega) only [go_sem, ac59, enter, h0] | refine pure_of _ (digits_run _ hs) ?_ | ((apply spl) <;> intro h <;> try simp (disch := omega) only [go_sem, ac59, enter, h0 , h]))
    all_goals simp_all [numeral]
  · obtain ⟨c, hc⟩ := get_some (s := s) (k := 0) (by omega)
    (repeat' first | simp (disch := omega) only [go_sem, ac59, enter, hc, e00] | refine pure_of _ (digits_run _ hs) ?_ | ((apply spl) <;> intro h <;> try simp (disch := omega) only [go_sem, ac59, enter, hc, e00 , h]))
    all_goals simp_all [numeral, bne, zero48, bne_dec, beq_dec]
    all_goals omega

def encB (l : List UInt8) : List AV := l.map fun c => .int .u8 c.toNat
theorem omap_encB : ∀ l, omap byteOf (encB l) = some l
  | [] => rfl
  | c :: l => by simp [encB, omap, byteOf] at *; have := omap_encB l; simp [encB] at this; simp [this]

/-- R01.Zeros -/
def zeros (s : List UInt8) : Nat := (s.reverse.takeWhile (· == 48)).length

theorem zeros_run (s : List UInt8) (hs : s.length < 2 ^ 31) : PRun C0 90 [.str s] (.int .i64 (zeros s)) := by
  refine prun_of ac90 rfl ?_
  simp (disch := omega) only [go_sem, ac90, enter]
  refine loop_of (α := Nat) (fun k => { tmps := slots 21 [(0, .str s), (3, .int .i64 k)], heap := [], base := 0 }) (fun k => k ≤ s.length ∧ (s.reverse.take k).all (· == 48) = true) (fun k => s.length - k) 0 rfl ⟨Nat.zero_le _, rfl⟩ ?_
  rintro k ⟨hk, hd⟩
  have fin : (k < s.length → ∃ c, s.reverse[k]? = some c ∧ c ≠ 48) → zeros s = k := fun h => by
    unfold zeros
    have key : ∀ (l : List UInt8) (k : Nat), (l.take k).all (· == 48) = true → (k < l.length → ∃ c, l[k]? = some c ∧ c ≠ 48) → k ≤ l.length → (l.takeWhile (· == 48)).length = k := by
      intro l
      induction l with
      | nil => intro k _ _ hk; simp at hk; simp [hk]
      | cons x l ih =>
        intro k h1 h2 h3
        cases k with
        | zero =>
          obtain ⟨c, h4, h5⟩ := h2 (by simp)
          simp at h4
          subst h4
          rw [List.takeWhile_cons_of_neg (by simpa using h5)]
          rfl
        | succ k =>
          simp only [List.take_succ_cons, List.all_cons, Bool.and_eq_true] at h1
          rw [List.takeWhile_cons_of_pos (by simpa using h1.1)]
          simp only [List.length_cons, Nat.add_right_cancel_iff]
          exact ih k h1.2 (fun h => by simpa using h2 (by simpa using h)) (by simpa using h3)
    exact key s.reverse k hd (fun h2 => h (by simpa using h2)) (by simpa using hk)
  by_cases hlt : k < s.length
  · obtain ⟨c, hc⟩ := get_some (s := s) (k := s.length - 1 - k) (by omega)
    have e : ((s.length : Int) - 1 - k).toNat = s.length - 1 - k := by omega
    have hr : s.reverse[k]? = some c := by rw [List.getElem?_reverse hlt, hc]
    (repeat' first | simp (disch := omega) only [go_sem, e, hc] | ((apply spl) <;> intro h <;> try simp (disch := omega) only [go_sem, e, hc, h]))
    · refine ⟨k + 1, rfl, ⟨hlt, take_succ_all hr hd ?_⟩, by omega⟩
      simpa using (zero48 c).1 h
    · rw [fin fun _ => ⟨c, hr, fun e => h ((zero48 c).2 e)⟩]
  · (repeat' first | simp (disch := omega) only [go_sem] | ((apply spl) <;> intro h <;> try simp (disch := omega) only [go_sem, h]))
    rw [fin fun h => absurd h hlt]

end Ago
/- Layers 1 and 2 of the references, continued: numerals and decimals as ints. -/
set_option maxRecDepth 100000
namespace Ago
theorem take_len {α : Type} {s : List α} {k : Nat} (h : ¬ k < s.length) (h2 : k ≤ s.length) : s.take k = s := List.take_of_length_le (by omega)
/-! ### Decimals -/

structure Dec where
  neg : Bool
  digits : List UInt8
  exp : Int
def encDec (d : Dec) : AV := .agg [.bool d.neg, .str d.digits, .int .i64 d.exp]

/-- R02.Valid -/
def decOk (d : Dec) : Bool :=
  if d.digits = [] then !d.neg && d.exp == 0
  else decide (d.digits.length ≤ 120) && numeral d.digits && decide (zeros d.digits = 0) && decide (-400 ≤ d.exp) && decide (d.exp ≤ 400)

theorem decOk_run (d : Dec) (hs : d.digits.length < 2 ^ 31) : PRun C0 79 [encDec d] (.bool (decOk d)) := by
  refine prun_of ac79 rfl ?_
  obtain ⟨neg, ds, exp⟩ := d
  simp only [encDec] at *
  by_cases h0 : ds = []
  · subst h0
    (repeat' first | simp (disch := omega) only [go_sem, ac79, enter] | ((apply spl) <;> intro h <;> try simp (disch := omega) only [go_sem, ac79, enter, h]))
    all_goals simp [decOk]
  · have hb : (ds == ([] : List UInt8)) = false := by simp [h0]
    have hz := zeros_run ds hs
    (repeat' first | simp (disch := omega) only [go_sem, ac79, enter, hb] | refine pure_of _ (valid01_run _ hs) ?_ | refine pure_of _ (hz) ?_ | ((apply spl) <;> intro h <;> try simp (disch := omega) only [go_sem, ac79, enter, hb , h]))
    all_goals simp [decOk, h0]
    all_goals first | omega | (intros; omega) | (simp_all; done) | skip
    all_goals (have : (zeros ds : Int) = 0 ↔ zeros ds = 0 := by omega)
    all_goals simp_all
    all_goals omega

end Ago
/- Values as trees. -/
set_option maxRecDepth 100000
namespace Ago
open Go (IntKind)

structure Tm where
  kind : Int
  day : Int
  nano : Int
  off : Int
structure VS where
  kind : Int
  bool : Bool
  num : Dec
  time : Tm
  text : List UInt8
  bytes : List UInt8
inductive V where
  | mk (s : VS) (l : List V) (f : List (List UInt8 × V))

def V.s : V → VS | .mk s _ _ => s
def V.l : V → List V | .mk _ l _ => l
def V.f : V → List (List UInt8 × V) | .mk _ _ f => f

mutual
def encV : V → AV
  | .mk s l f => .agg [.int .i64 s.kind, .bool s.bool, .bool s.num.neg, .str s.num.digits, .int .i64 s.num.exp, .int .i64 s.time.kind, .int .i64 s.time.day, .int .i64 s.time.nano, .int .i64 s.time.off, .str s.text, .tsl 1 (encB s.bytes), .tsl 13 (encL l), .tsl 14 (encF f)]
def encL : List V → List AV
  | [] => []
  | v :: l => encV v :: encL l
def encF : List (List UInt8 × V) → List AV
  | [] => []
  | (k, v) :: f => .agg (.str k :: (encV v).cells) :: encF f
end

theorem encL_map : ∀ l, encL l = l.map encV
  | [] => by simp [encL]
  | v :: l => by simp [encL, encL_map l]
def encFd (x : List UInt8 × V) : AV := .agg (.str x.1 :: (encV x.2).cells)
theorem encF_map : ∀ l, encF l = l.map encFd
  | [] => by simp [encF]
  | (k, v) :: l => by simp [encF, encF_map l, encFd]
theorem encV_eq (v : V) : encV v = .agg [.int .i64 v.s.kind, .bool v.s.bool, .bool v.s.num.neg, .str v.s.num.digits, .int .i64 v.s.num.exp, .int .i64 v.s.time.kind, .int .i64 v.s.time.day, .int .i64 v.s.time.nano, .int .i64 v.s.time.off, .str v.s.text, .tsl 1 (encB v.s.bytes), .tsl 13 (v.l.map encV), .tsl 14 (v.f.map encFd)] := by
  cases v with
  | mk s l f => simp [encV, V.s, V.l, V.f, encL_map, encF_map]
theorem encFd_eq (x : List UInt8 × V) : encFd x = .agg [.str x.1, .int .i64 x.2.s.kind, .bool x.2.s.bool, .bool x.2.s.num.neg, .str x.2.s.num.digits, .int .i64 x.2.s.num.exp, .int .i64 x.2.s.time.kind, .int .i64 x.2.s.time.day, .int .i64 x.2.s.time.nano, .int .i64 x.2.s.time.off, .str x.2.s.text, .tsl 1 (encB x.2.s.bytes), .tsl 13 (x.2.l.map encV), .tsl 14 (x.2.f.map encFd)] := by
  unfold encFd
  rw [encV_eq]
  rfl

/-- values and letters in it -/
def V.bulk (v : V) : Nat := (encV v).bulk
theorem bulks_mem : ∀ {l : List AV} {x : AV}, x ∈ l → x.bulk ≤ AV.bulks l
  | [], x, h => by cases h
  | y :: l, x, h => by
    rcases List.mem_cons.1 h with rfl | h
    · simp [AV.bulks]
    · have := bulks_mem h; simp [AV.bulks]; omega
theorem bulks_len : ∀ (l : List AV), l.length ≤ AV.bulks l
  | [] => by simp [AV.bulks]
  | x :: l => by have := bulks_len l; have := bulk_one x; simp [AV.bulks]; omega
theorem V.bulk_eq (v : V) : v.bulk = v.s.num.digits.length + v.s.text.length + AV.bulks (encB v.s.bytes) + AV.bulks (v.l.map encV) + AV.bulks (v.f.map encFd) + 14 := by
  unfold V.bulk
  rw [encV_eq]
  simp [AV.bulk, AV.bulks]
  omega
theorem encB_len (l : List UInt8) : (encB l).length = l.length := by simp [encB]

structure V.Lens (v : V) (N : Nat) : Prop where
  digits : v.s.num.digits.length < N
  text : v.s.text.length < N
  bytes : v.s.bytes.length < N
  list : v.l.length < N
  fields : v.f.length < N
  kids : ∀ x, x ∈ v.l → x.bulk < v.bulk
  fkids : ∀ x, x ∈ v.f → x.2.bulk < v.bulk ∧ x.1.length < N
theorem V.lens {v : V} {N : Nat} (h : v.bulk ≤ N) : v.Lens N := by
  have e := v.bulk_eq
  have h1 := bulks_len (encB v.s.bytes)
  have h2 := bulks_len (v.l.map encV)
  have h3 := bulks_len (v.f.map encFd)
  rw [encB_len] at h1
  rw [List.length_map] at h2 h3
  refine ⟨by omega, by omega, by omega, by omega, by omega, fun x hx => ?_, fun x hx => ?_⟩
  · have := bulks_mem (List.mem_map_of_mem (f := encV) hx)
    show (encV x).bulk < _
    omega
  · have := bulks_mem (List.mem_map_of_mem (f := encFd) hx)
    have e2 : (encFd x).bulk = x.2.bulk + x.1.length + 1 := by
      unfold V.bulk encFd
      rw [encV_eq]
      simp [AV.bulk, AV.bulks, AV.cells]
      omega
    omega
/-- A slice that a call makes by append: nil, or a row. -/
def outSl (n b : Nat) : List AV → AV
  | [] => .snil n
  | x :: l => .sref n b 0 (l.length + 1)
def outHp (n b : Nat) : List AV → Heap
  | [] => []
  | x :: l => [.row n (x :: l) false true b]
theorem map_get {α β : Type} {g : α → β} {l : List α} {k : Nat} {x : α} (h : l[k]? = some x) : (l.map g)[k]? = some (g x) := by rw [List.getElem?_map, h]; rfl
def zeroS : AV := .agg [.int .i64 0, .bool false, .bool false, .str [], .int .i64 0, .int .i64 0, .int .i64 0, .int .i64 0, .int .i64 0, .str [], .snil 1, .snil 13, .snil 14]
end Ago
/- Bits of whole numbers. -/
set_option maxRecDepth 100000
set_option maxHeartbeats 4000000
namespace Ago
open Go (IntKind)

theorem ofInt64 {a : Int} (h0 : 0 ≤ a) (h : a < 9223372036854775808) : (BitVec.ofInt (IntKind.bits .i64) a).toNat = a.toNat := by
  obtain ⟨n, rfl⟩ : ∃ n : Nat, a = n := ⟨a.toNat, by omega⟩
  have e : IntKind.bits .i64 = 64 := rfl
  rw [e, BitVec.toNat_ofInt]
  simp only [Int.toNat_natCast]
  omega
theorem and_gen {a m : Int} {k : Nat} (h0 : 0 ≤ a) (h : a < 9223372036854775808) (hm : m = 2 ^ k - 1) (hk : k < 60) : IntKind.wrap .i64 ((BitVec.ofInt (IntKind.bits .i64) a &&& BitVec.ofInt (IntKind.bits .i64) m).toNat : Int) = a % 2 ^ k := by
  have hp : (2 : Nat) ^ k < 2 ^ 60 := Nat.pow_lt_pow_right (by omega) hk
  have hp0 : 0 < (2 : Nat) ^ k := Nat.pow_pos (by omega)
  have hmn : m = ((2 ^ k - 1 : Nat) : Int) := by
    rw [hm]
    have : ((2 ^ k : Nat) : Int) = (2 : Int) ^ k := by simp
    omega
  obtain ⟨n, rfl⟩ : ∃ n : Nat, a = n := ⟨a.toNat, by omega⟩
  rw [BitVec.toNat_and, ofInt64 h0 h, ofInt64 (by omega) (by omega), hmn]
  simp only [Int.toNat_natCast]
  rw [Nat.and_two_pow_sub_one_eq_mod]
  have hlt : n % 2 ^ k < 2 ^ k := Nat.mod_lt _ hp0
  rw [w64 (by omega) (by omega)]
  simp
theorem and7 {a : Int} (h0 : 0 ≤ a) (h : a < 9223372036854775808) : IntKind.wrap .i64 ((BitVec.ofInt (IntKind.bits .i64) a &&& BitVec.ofInt (IntKind.bits .i64) 7).toNat : Int) = a % 8 := and_gen (k := 3) h0 h rfl (by omega)
theorem and15 {a : Int} (h0 : 0 ≤ a) (h : a < 9223372036854775808) : IntKind.wrap .i64 ((BitVec.ofInt (IntKind.bits .i64) a &&& BitVec.ofInt (IntKind.bits .i64) 15).toNat : Int) = a % 16 := and_gen (k := 4) h0 h rfl (by omega)
theorem and31 {a : Int} (h0 : 0 ≤ a) (h : a < 9223372036854775808) : IntKind.wrap .i64 ((BitVec.ofInt (IntKind.bits .i64) a &&& BitVec.ofInt (IntKind.bits .i64) 31).toNat : Int) = a % 32 := and_gen (k := 5) h0 h rfl (by omega)
theorem and63 {a : Int} (h0 : 0 ≤ a) (h : a < 9223372036854775808) : IntKind.wrap .i64 ((BitVec.ofInt (IntKind.bits .i64) a &&& BitVec.ofInt (IntKind.bits .i64) 63).toNat : Int) = a % 64 := and_gen (k := 6) h0 h rfl (by omega)
/-- Bits that do not meet. -/
theorem or_gen {x y : Int} (k : Nat) (hx : 0 ≤ x) (hk : k < 60) (hy : 0 ≤ y) (hyk : y < 2 ^ k) (hb : x * 2 ^ k < 4611686018427387904) : IntKind.wrap .i64 ((BitVec.ofInt (IntKind.bits .i64) (x * 2 ^ k) ||| BitVec.ofInt (IntKind.bits .i64) y).toNat : Int) = x * 2 ^ k + y := by
  have hp : (2 : Nat) ^ k < 2 ^ 60 := Nat.pow_lt_pow_right (by omega) hk
  have hpi : ((2 ^ k : Nat) : Int) = (2 : Int) ^ k := by simp
  obtain ⟨n, rfl⟩ : ∃ n : Nat, x = n := ⟨x.toNat, by omega⟩
  obtain ⟨m, rfl⟩ : ∃ m : Nat, y = m := ⟨y.toNat, by omega⟩
  rw [← hpi] at hyk hb ⊢
  have hm : m < 2 ^ k := by omega
  have hcast : (n : Int) * ((2 ^ k : Nat) : Int) = ((n * 2 ^ k : Nat) : Int) := by simp
  rw [hcast] at hb ⊢
  rw [BitVec.toNat_or, ofInt64 (by omega) (by omega), ofInt64 (by omega) (by omega)]
  simp only [Int.toNat_natCast]
  rw [Nat.mul_comm n, ← Nat.two_pow_add_eq_or_of_lt hm]
  rw [Nat.mul_comm n] at hb
  rw [w64 (by omega) (by omega)]
  simp
theorem or64 {x y : Int} (hx : 0 ≤ x) (hx2 : x < 72057594037927936) (hy : 0 ≤ y) (hyk : y < 64) : IntKind.wrap .i64 ((BitVec.ofInt (IntKind.bits .i64) (x * 64) ||| BitVec.ofInt (IntKind.bits .i64) y).toNat : Int) = x * 64 + y := or_gen 6 hx (by omega) hy hyk (by omega)
theorem or128 {y : Int} (hy : 0 ≤ y) (hyk : y < 128) : IntKind.wrap .i64 ((BitVec.ofInt (IntKind.bits .i64) 128 ||| BitVec.ofInt (IntKind.bits .i64) y).toNat : Int) = 128 + y := or_gen (x := 1) 7 (by omega) (by omega) hy hyk (by omega)
theorem or192 {y : Int} (hy : 0 ≤ y) (hyk : y < 64) : IntKind.wrap .i64 ((BitVec.ofInt (IntKind.bits .i64) 192 ||| BitVec.ofInt (IntKind.bits .i64) y).toNat : Int) = 192 + y := or_gen (x := 3) 6 (by omega) (by omega) hy hyk (by omega)
theorem or224 {y : Int} (hy : 0 ≤ y) (hyk : y < 32) : IntKind.wrap .i64 ((BitVec.ofInt (IntKind.bits .i64) 224 ||| BitVec.ofInt (IntKind.bits .i64) y).toNat : Int) = 224 + y := or_gen (x := 7) 5 (by omega) (by omega) hy hyk (by omega)
theorem or240 {y : Int} (hy : 0 ≤ y) (hyk : y < 16) : IntKind.wrap .i64 ((BitVec.ofInt (IntKind.bits .i64) 240 ||| BitVec.ofInt (IntKind.bits .i64) y).toNat : Int) = 240 + y := or_gen (x := 15) 4 (by omega) (by omega) hy hyk (by omega)
end Ago
/- Layer 3 of the references: text, exactly. -/
set_option maxRecDepth 100000
set_option maxHeartbeats 4000000
namespace Ago
open Go (IntKind)
theorem byteOf_u8' (n : Int) : byteOf (.int .u8 n) = some (UInt8.ofNat n.toNat) := (rfl)
def charM (r : Int) : Bool := decide (0 ≤ r) && decide (r ≤ 1114111) && (decide (r < 55296) || decide (57343 < r))
theorem character_run (r : Int) : PRun C0 93 [.int .i64 r] (.bool (charM r)) := by
  refine prun_of ac93 rfl ?_
  unfold charM
  (repeat' first | simp (disch := omega) only [go_sem, ac93, enter] | ((apply spl) <;> intro h <;> try simp (disch := omega) only [go_sem, ac93, enter, h]))
  all_goals rfl
def ofI (n : Int) : UInt8 := UInt8.ofNat n.toNat
/-- R03.Encode -/
def encM (r : Int) : List UInt8 × Int :=
  if charM r = false then ([], 2)
  else if r < 128 then ([ofI r], 0)
  else if r < 2048 then ([ofI (192 + r / 64), ofI (128 + r % 64)], 0)
  else if r < 65536 then ([ofI (224 + r / 4096), ofI (128 + r / 64 % 64), ofI (128 + r % 64)], 0)
  else ([ofI (240 + r / 262144), ofI (128 + r / 4096 % 64), ofI (128 + r / 64 % 64), ofI (128 + r % 64)], 0)
theorem pw6 : (2 : Int) ^ min 6 (IntKind.bits .i64) = 64 := (rfl)
theorem pw12 : (2 : Int) ^ min 12 (IntKind.bits .i64) = 4096 := (rfl)
theorem pw18 : (2 : Int) ^ min 18 (IntKind.bits .i64) = 262144 := (rfl)
theorem fd64 (a : Int) : Int.fdiv a 64 = a / 64 := Int.fdiv_eq_ediv_of_nonneg a (by decide)
theorem fd4096 (a : Int) : Int.fdiv a 4096 = a / 4096 := Int.fdiv_eq_ediv_of_nonneg a (by decide)
theorem fd262144 (a : Int) : Int.fdiv a 262144 = a / 262144 := Int.fdiv_eq_ediv_of_nonneg a (by decide)
theorem charM_range {r : Int} (h : charM r = true) : 0 ≤ r ∧ r ≤ 1114111 := by
  unfold charM at h
  simp only [Bool.and_eq_true, decide_eq_true_eq] at h
  omega
theorem encode_run (r : Int) : PRun C0 83 [.int .i64 r] (.tup [.str (encM r).1, .int .i64 (encM r).2]) := by
  have hc := character_run r
  refine prun_of ac83 rfl ?_
  cases hb : charM r with
  | false =>
    rw [hb] at hc
    (repeat' first | simp (disch := omega) only [go_sem, ac83, enter] | refine pure_of _ (hc) ?_ | ((apply spl) <;> intro h <;> try simp (disch := omega) only [go_sem, ac83, enter , h]))
    all_goals simp [encM, hb]
  | true =>
    rw [hb] at hc
    obtain ⟨h0, h1⟩ := charM_range hb
    by_cases h2 : r < 128
    · (repeat' first | simp (disch := omega) only [go_sem, ac83, enter, byteOf_u8'] | refine pure_of _ (hc) ?_ | ((apply spl) <;> intro h <;> try simp (disch := omega) only [go_sem, ac83, enter, byteOf_u8' , h]))
      all_goals simp [encM, hb, h2, ofI]
    · by_cases h3 : r < 2048
      · (repeat' first | simp (disch := omega) only [go_sem, ac83, enter, byteOf_u8', pw6, pw12, pw18, fd64, fd4096, fd262144, and63, or128, or192, or224, or240] | refine pure_of _ (hc) ?_ | ((apply spl) <;> intro h <;> try simp (disch := omega) only [go_sem, ac83, enter, byteOf_u8', pw6, pw12, pw18, fd64, fd4096, fd262144, and63, or128, or192, or224, or240 , h]))
        all_goals simp [encM, hb, h2, h3, ofI]
      · by_cases h4 : r < 65536
        · (repeat' first | simp (disch := omega) only [go_sem, ac83, enter, byteOf_u8', pw6, pw12, pw18, fd64, fd4096, fd262144, and63, or128, or192, or224, or240] | refine pure_of _ (hc) ?_ | ((apply spl) <;> intro h <;> try simp (disch := omega) only [go_sem, ac83, enter, byteOf_u8', pw6, pw12, pw18, fd64, fd4096, fd262144, and63, or128, or192, or224, or240 , h]))
          all_goals simp [encM, hb, h2, h3, h4, ofI]
        · (repeat' first | simp (disch := omega) only [go_sem, ac83, enter, byteOf_u8', pw6, pw12, pw18, fd64, fd4096, fd262144, and63, or128, or192, or224, or240] | refine pure_of _ (hc) ?_ | ((apply spl) <;> intro h <;> try simp (disch := omega) only [go_sem, ac83, enter, byteOf_u8', pw6, pw12, pw18, fd64, fd4096, fd262144, and63, or128, or192, or224, or240 , h]))
          all_goals simp [encM, hb, h2, h3, h4, ofI]

/-! ### Decoding -/

def contM (c : UInt8) : Bool := decide (128 ≤ c.toNat) && decide (c.toNat < 192)
def widM (r : Int) : Nat := if r < 128 then 1 else if r < 2048 then 2 else if r < 65536 then 3 else 4
/-- The character of so many bytes, if it is one. -/
def decFin (r : Int) (n : Nat) : Int × Int := if charM r && widM r == n then (r, n) else (0, 0)
def dec2 (b : UInt8) : Option UInt8 → Int × Int
  | some c => if contM c then decFin ((b.toNat - 192) * 64 + (c.toNat - 128)) 2 else (0, 0)
  | none => (0, 0)
def dec3 (b : UInt8) : Option UInt8 → Option UInt8 → Int × Int
  | some c, some d => if contM c && contM d then decFin (((b.toNat - 224) * 64 + (c.toNat - 128)) * 64 + (d.toNat - 128)) 3 else (0, 0)
  | _, _ => (0, 0)
def dec4 (b : UInt8) : Option UInt8 → Option UInt8 → Option UInt8 → Int × Int
  | some c, some d, some e => if contM c && contM d && contM e then decFin ((((b.toNat - 240) * 64 + (c.toNat - 128)) * 64 + (d.toNat - 128)) * 64 + (e.toNat - 128)) 4 else (0, 0)
  | _, _, _ => (0, 0)
def decB (s : List UInt8) (k : Nat) (b : UInt8) : Int × Int :=
  if b.toNat < 128 then (b.toNat, 1)
  else if b.toNat < 192 then (0, 0)
  else if b.toNat < 224 then dec2 b s[k + 1]?
  else if b.toNat < 240 then dec3 b s[k + 1]? s[k + 2]?
  else if b.toNat < 248 then dec4 b s[k + 1]? s[k + 2]? s[k + 3]?
  else (0, 0)
/-- Decode, at an offset within the text. -/
def decM (s : List UInt8) (k : Nat) : Int × Int :=
  match s[k]? with
  | some b => decB s k b
  | none => (0, 0)

theorem drop_take1 {s : List UInt8} {k : Nat} {a : UInt8} (h1 : s[k]? = some a) : (s.take (k + 1)).drop k = [a] := by
  apply List.ext_getElem?
  intro i
  rw [List.getElem?_drop]
  match i with
  | 0 => rw [List.getElem?_take_of_lt (by omega)]; exact h1
  | i + 1 => rw [List.getElem?_take_eq_none (by omega)]; rfl
theorem drop_take2 {s : List UInt8} {k : Nat} {a b : UInt8} (h1 : s[k]? = some a) (h2 : s[k + 1]? = some b) : (s.take (k + 2)).drop k = [a, b] := by
  apply List.ext_getElem?
  intro i
  rw [List.getElem?_drop]
  match i with
  | 0 => rw [List.getElem?_take_of_lt (by omega)]; exact h1
  | 1 => rw [List.getElem?_take_of_lt (by omega), h2]; rfl
  | i + 2 => rw [List.getElem?_take_eq_none (by omega)]; rfl
theorem drop_take3 {s : List UInt8} {k : Nat} {a b c : UInt8} (h1 : s[k]? = some a) (h2 : s[k + 1]? = some b) (h3 : s[k + 2]? = some c) : (s.take (k + 3)).drop k = [a, b, c] := by
  apply List.ext_getElem?
  intro i
  rw [List.getElem?_drop]
  match i with
  | 0 => rw [List.getElem?_take_of_lt (by omega)]; exact h1
  | 1 => rw [List.getElem?_take_of_lt (by omega), h2]; rfl
  | 2 => rw [List.getElem?_take_of_lt (by omega), h3]; rfl
  | i + 3 => rw [List.getElem?_take_eq_none (by omega)]; rfl
theorem drop_take4 {s : List UInt8} {k : Nat} {a b c d : UInt8} (h1 : s[k]? = some a) (h2 : s[k + 1]? = some b) (h3 : s[k + 2]? = some c) (h4 : s[k + 3]? = some d) : (s.take (k + 4)).drop k = [a, b, c, d] := by
  apply List.ext_getElem?
  intro i
  rw [List.getElem?_drop]
  match i with
  | 0 => rw [List.getElem?_take_of_lt (by omega)]; exact h1
  | 1 => rw [List.getElem?_take_of_lt (by omega), h2]; rfl
  | 2 => rw [List.getElem?_take_of_lt (by omega), h3]; rfl
  | 3 => rw [List.getElem?_take_of_lt (by omega), h4]; rfl
  | i + 4 => rw [List.getElem?_take_eq_none (by omega)]; rfl

theorem ofI_eq {n : Int} {c : UInt8} (h0 : 0 ≤ n) (h : n < 256) : ofI n = c ↔ n = c.toNat := by
  unfold ofI
  constructor
  · intro h1
    rw [← h1, UInt8.toNat_ofNat']
    omega
  · intro h1
    rw [h1]
    simp

/-- What the reference makes of bytes: their encoding is the same again. -/
def refFin (r : Int) (l : List UInt8) (n : Nat) : Int × Int := if (encM r).2 = 0 ∧ (encM r).1 = l then (r, n) else (0, 0)
theorem fin1 (b : UInt8) : refFin b.toNat [b] 1 = if b.toNat < 128 then ((b.toNat : Int), 1) else (0, 0) := by
  have hb := b.toNat_lt
  by_cases h : b.toNat < 128
  · have hc : charM b.toNat = true := by unfold charM; simp; omega
    have h1 : (b.toNat : Int) < 128 := by omega
    have h2 : ofI b.toNat = b := (ofI_eq (by omega) (by omega)).2 rfl
    simp [refFin, encM, hc, h1, h, h2]
  · have hc : charM b.toNat = true := by unfold charM; simp; omega
    have h1 : ¬ (b.toNat : Int) < 128 := by omega
    have h2 : (b.toNat : Int) < 2048 := by omega
    simp [refFin, encM, hc, h1, h, h2]
theorem dec2_some (b c : UInt8) : dec2 b (some c) = if contM c = true then decFin ((b.toNat - 192) * 64 + (c.toNat - 128)) 2 else (0, 0) := rfl
theorem dec3_some (b c d : UInt8) : dec3 b (some c) (some d) = if (contM c && contM d) = true then decFin (((b.toNat - 224) * 64 + (c.toNat - 128)) * 64 + (d.toNat - 128)) 3 else (0, 0) := rfl
theorem dec4_some (b c d e : UInt8) : dec4 b (some c) (some d) (some e) = if (contM c && contM d && contM e) = true then decFin ((((b.toNat - 240) * 64 + (c.toNat - 128)) * 64 + (d.toNat - 128)) * 64 + (e.toNat - 128)) 4 else (0, 0) := rfl
theorem contM_iff {c : UInt8} : contM c = true ↔ 128 ≤ c.toNat ∧ c.toNat < 192 := by unfold contM; simp
theorem fin2 {b c : UInt8} (hb : 192 ≤ b.toNat) (hb2 : b.toNat < 224) : refFin ((b.toNat : Int) % 32 * 64 + (c.toNat : Int) % 64) [b, c] 2 = dec2 b (some c) := by
  have hc := c.toNat_lt
  obtain ⟨r, hr⟩ : ∃ r : Int, r = (b.toNat : Int) % 32 * 64 + (c.toNat : Int) % 64 := ⟨_, rfl⟩
  rw [← hr]
  have hcm : charM r = true := by unfold charM; simp; omega
  have e1 : ofI (192 + r / 64) = b := (ofI_eq (by omega) (by omega)).2 (by omega)
  have e2 : ofI (128 + r % 64) = c ↔ contM c = true := by rw [ofI_eq (by omega) (by omega), contM_iff]; omega
  rw [dec2_some]
  cases hcc : contM c with
  | true =>
    rw [hcc] at e2
    have hcc' := contM_iff.1 hcc
    have er : ((b.toNat : Int) - 192) * 64 + ((c.toNat : Int) - 128) = r := by omega
    rw [er]
    by_cases h1 : r < 128
    · simp [refFin, encM, decFin, widM, hcm, h1]
    · have h2 : r < 2048 := by omega
      simp [refFin, encM, decFin, widM, hcm, h1, h2, e1, e2]
  | false =>
    rw [hcc] at e2
    by_cases h1 : r < 128
    · simp [refFin, encM, hcm, h1]
    · have h2 : r < 2048 := by omega
      simp [refFin, encM, hcm, h1, h2, e1, e2]
theorem fin3 {b c d : UInt8} (hb : 224 ≤ b.toNat) (hb2 : b.toNat < 240) : refFin (((b.toNat : Int) % 16 * 64 + (c.toNat : Int) % 64) * 64 + (d.toNat : Int) % 64) [b, c, d] 3 = dec3 b (some c) (some d) := by
  have hc := c.toNat_lt
  have hd := d.toNat_lt
  obtain ⟨r, hr⟩ : ∃ r : Int, r = ((b.toNat : Int) % 16 * 64 + (c.toNat : Int) % 64) * 64 + (d.toNat : Int) % 64 := ⟨_, rfl⟩
  rw [← hr]
  have e1 : ofI (224 + r / 4096) = b := (ofI_eq (by omega) (by omega)).2 (by omega)
  have e2 : ofI (128 + r / 64 % 64) = c ↔ contM c = true := by rw [ofI_eq (by omega) (by omega), contM_iff]; omega
  have e3 : ofI (128 + r % 64) = d ↔ contM d = true := by rw [ofI_eq (by omega) (by omega), contM_iff]; omega
  have h65 : r < 65536 := by omega
  have er : contM c = true → contM d = true → (((b.toNat : Int) - 224) * 64 + ((c.toNat : Int) - 128)) * 64 + ((d.toNat : Int) - 128) = r := fun h1 h2 => by
    have := contM_iff.1 h1
    have := contM_iff.1 h2
    omega
  rw [dec3_some]
  cases hcm : charM r with
  | false =>
    have e0 : refFin r [b, c, d] 3 = (0, 0) := by simp [refFin, encM, hcm]
    rw [e0]
    split
    · rename_i h
      simp only [Bool.and_eq_true] at h
      rw [er h.1 h.2]
      simp [decFin, hcm]
    · rfl
  | true =>
    by_cases h1 : r < 128
    · have e0 : refFin r [b, c, d] 3 = (0, 0) := by simp [refFin, encM, hcm, h1]
      rw [e0]
      split
      · rename_i h
        simp only [Bool.and_eq_true] at h
        rw [er h.1 h.2]
        simp [decFin, widM, h1]
      · rfl
    · by_cases h2 : r < 2048
      · have e0 : refFin r [b, c, d] 3 = (0, 0) := by simp [refFin, encM, hcm, h1, h2]
        rw [e0]
        split
        · rename_i h
          simp only [Bool.and_eq_true] at h
          rw [er h.1 h.2]
          simp [decFin, widM, h1, h2]
        · rfl
      · split
        · rename_i h
          simp only [Bool.and_eq_true] at h
          rw [er h.1 h.2]
          rw [h.1] at e2
          rw [h.2] at e3
          simp [refFin, encM, decFin, widM, hcm, h1, h2, h65, e1, e2, e3]
        · rename_i h
          simp only [Bool.and_eq_true] at h
          have hne : ¬ (ofI (128 + r / 64 % 64) = c ∧ ofI (128 + r % 64) = d) := fun h3 => h ⟨e2.1 h3.1, e3.1 h3.2⟩
          simp only [refFin, encM, hcm, h1, h2, h65, if_true, if_false, e1, List.cons.injEq, true_and, and_true, Bool.true_eq_false, hne]
theorem fin4 {b c d e : UInt8} (hb : 240 ≤ b.toNat) (hb2 : b.toNat < 248) : refFin ((((b.toNat : Int) % 8 * 64 + (c.toNat : Int) % 64) * 64 + (d.toNat : Int) % 64) * 64 + (e.toNat : Int) % 64) [b, c, d, e] 4 = dec4 b (some c) (some d) (some e) := by
  have hc := c.toNat_lt
  have hd := d.toNat_lt
  have he := e.toNat_lt
  obtain ⟨r, hr⟩ : ∃ r : Int, r = (((b.toNat : Int) % 8 * 64 + (c.toNat : Int) % 64) * 64 + (d.toNat : Int) % 64) * 64 + (e.toNat : Int) % 64 := ⟨_, rfl⟩
  rw [← hr]
  have e1 : ofI (240 + r / 262144) = b := (ofI_eq (by omega) (by omega)).2 (by omega)
  have e2 : ofI (128 + r / 4096 % 64) = c ↔ contM c = true := by rw [ofI_eq (by omega) (by omega), contM_iff]; omega
  have e3 : ofI (128 + r / 64 % 64) = d ↔ contM d = true := by rw [ofI_eq (by omega) (by omega), contM_iff]; omega
  have e4 : ofI (128 + r % 64) = e ↔ contM e = true := by rw [ofI_eq (by omega) (by omega), contM_iff]; omega
  have er : contM c = true → contM d = true → contM e = true → ((((b.toNat : Int) - 240) * 64 + ((c.toNat : Int) - 128)) * 64 + ((d.toNat : Int) - 128)) * 64 + ((e.toNat : Int) - 128) = r := fun h1 h2 h3 => by
    have := contM_iff.1 h1
    have := contM_iff.1 h2
    have := contM_iff.1 h3
    omega
  rw [dec4_some]
  cases hcm : charM r with
  | false =>
    have e0 : refFin r [b, c, d, e] 4 = (0, 0) := by simp [refFin, encM, hcm]
    rw [e0]
    split
    · rename_i h
      simp only [Bool.and_eq_true] at h
      rw [er h.1.1 h.1.2 h.2]
      simp [decFin, hcm]
    · rfl
  | true =>
    by_cases h1 : r < 65536
    · have e0 : refFin r [b, c, d, e] 4 = (0, 0) := by
        by_cases h2 : r < 128
        · simp [refFin, encM, hcm, h2]
        · by_cases h3 : r < 2048
          · simp [refFin, encM, hcm, h2, h3]
          · simp [refFin, encM, hcm, h1, h2, h3]
      rw [e0]
      have hw : ¬ widM r = 4 := by
        unfold widM
        split
        · decide
        · split
          · decide
          · decide
      split
      · rename_i h
        simp only [Bool.and_eq_true] at h
        rw [er h.1.1 h.1.2 h.2]
        simp [decFin, hw]
      · rfl
    · have h2 : ¬ r < 128 := by omega
      have h3 : ¬ r < 2048 := by omega
      split
      · rename_i h
        simp only [Bool.and_eq_true] at h
        rw [er h.1.1 h.1.2 h.2]
        rw [h.1.1] at e2
        rw [h.1.2] at e3
        rw [h.2] at e4
        simp [refFin, encM, decFin, widM, hcm, h1, h2, h3, e1, e2, e3, e4]
      · rename_i h
        simp only [Bool.and_eq_true] at h
        have hne : ¬ (ofI (128 + r / 4096 % 64) = c ∧ ofI (128 + r / 64 % 64) = d ∧ ofI (128 + r % 64) = e) := fun h4 => h ⟨⟨e2.1 h4.1, e3.1 h4.2.1⟩, e4.1 h4.2.2⟩
        simp only [refFin, encM, hcm, h1, h2, h3, if_true, if_false, e1, List.cons.injEq, true_and, and_true, Bool.true_eq_false, hne]
/-- A first byte of 248 and more begins no encoding. -/
theorem fin5 {b c d e : UInt8} (hb : 248 ≤ b.toNat) (r : Int) (h0 : 0 ≤ r) (h : r < 2097152) : refFin r [b, c, d, e] 4 = (0, 0) := by
  have e1 : ofI (240 + r / 262144) ≠ b := fun e => by
    rw [ofI_eq (by omega) (by omega)] at e
    omega
  have hne : ¬ ((encM r).2 = 0 ∧ (encM r).1 = [b, c, d, e]) := fun h2 => by
    unfold encM at h2
    split at h2
    · exact absurd h2.1 (by decide)
    · split at h2
      · exact absurd h2.2 (by simp)
      · split at h2
        · exact absurd h2.2 (by simp)
        · split at h2
          · exact absurd h2.2 (by simp)
          · have h3 := h2.2
            simp only [List.cons.injEq] at h3
            exact e1 h3.1
  unfold refFin
  rw [if_neg hne]
end Ago
