/- Layers 1 and 2 of the references: numerals and decimals. -/
import Derived.Test.YtaaolmjbpebclaaGreatDoorCodeZ
import Derived.Test.YtaaolmjbpebclaaGreatDoorMachE
import Derived.Test.YtaaolmjbpebclaaGreatDoorCode
set_option linter.unusedSimpArgs false
set_option linter.unusedVariables false
set_option maxRecDepth 100000
namespace Ago
def digit (b : UInt8) : Bool := decide (48 ≤ b.toNat ∧ b.toNat ≤ 57)
def digits (s : List UInt8) : Bool := s.all digit
theorem take_succ_all {α : Type} {s : List α} {k : Nat} {c : α} {p : α → Bool} (hc : s[k]? = some c) (h : (s.take k).all p = true) (hp : p c = true) : (s.take (k + 1)).all p = true := by
  rw [List.take_add_one, hc]
  simp_all
theorem get_some {α : Type} {s : List α} {k : Nat} (h : k < s.length) : ∃ c, s[k]? = some c := ⟨_, List.getElem?_eq_getElem h⟩

/-- R01.Valid -/
def numeral (s : List UInt8) : Bool := decide (s.length ≤ 600) && digits s && decide (s[0]? ≠ some 48)

def encB (l : List UInt8) : List AV := l.map fun c => .int .u8 c.toNat
/-- R01.Zeros -/
def zeros (s : List UInt8) : Nat := (s.reverse.takeWhile (· == 48)).length

end Ago
/- Layers 1 and 2 of the references, continued: numerals and decimals as ints. -/
set_option maxRecDepth 100000
namespace Ago
theorem take_len {α : Type} {s : List α} {k : Nat} (h : ¬ k < s.length) (h2 : k ≤ s.length) : s.take k = s := List.take_of_length_le (by omega)
/-! ### Decimals -/

structure Dec where
  neg : Bool
  digits : List UInt8
  exp : Int
/-- R02.Valid -/
def decOk (d : Dec) : Bool :=
  if d.digits = [] then !d.neg && d.exp == 0
  else decide (d.digits.length ≤ 120) && numeral d.digits && decide (zeros d.digits = 0) && decide (-400 ≤ d.exp) && decide (d.exp ≤ 400)

end Ago
/- Values as trees. -/
set_option maxRecDepth 100000
namespace Ago
open Go (IntKind)

structure Tm where
  kind : Int
  day : Int
  nano : Int
  off : Int
structure VS where
  kind : Int
  bool : Bool
  num : Dec
  time : Tm
  text : List UInt8
  bytes : List UInt8
inductive V where
  | mk (s : VS) (l : List V) (f : List (List UInt8 × V))

def V.s : V → VS | .mk s _ _ => s
def V.l : V → List V | .mk _ l _ => l
def V.f : V → List (List UInt8 × V) | .mk _ _ f => f

mutual
def encV : V → AV
  | .mk s l f => .agg [.int .i64 s.kind, .bool s.bool, .bool s.num.neg, .str s.num.digits, .int .i64 s.num.exp, .int .i64 s.time.kind, .int .i64 s.time.day, .int .i64 s.time.nano, .int .i64 s.time.off, .str s.text, .tsl 1 (encB s.bytes), .tsl 13 (encL l), .tsl 14 (encF f)]
def encL : List V → List AV
  | [] => []
  | v :: l => encV v :: encL l
def encF : List (List UInt8 × V) → List AV
  | [] => []
  | (k, v) :: f => .agg (.str k :: (encV v).cells) :: encF f
end

theorem encL_map : ∀ l, encL l = l.map encV
  | [] => by simp [encL]
  | v :: l => by simp [encL, encL_map l]
def encFd (x : List UInt8 × V) : AV := .agg (.str x.1 :: (encV x.2).cells)
theorem encF_map : ∀ l, encF l = l.map encFd
  | [] => by simp [encF]
  | (k, v) :: l => by simp [encF, encF_map l, encFd]
theorem encV_eq (v : V) : encV v = .agg [.int .i64 v.s.kind, .bool v.s.bool, .bool v.s.num.neg, .str v.s.num.digits, .int .i64 v.s.num.exp, .int .i64 v.s.time.kind, .int .i64 v.s.time.day, .int .i64 v.s.time.nano, .int .i64 v.s.time.off, .str v.s.text, .tsl 1 (encB v.s.bytes), .tsl 13 (v.l.map encV), .tsl 14 (v.f.map encFd)] := by
  cases v with
  | mk s l f => simp [encV, V.s, V.l, V.f, encL_map, encF_map]
theorem encFd_eq (x : List UInt8 × V) : encFd x = .agg [.str x.1, .int .i64 x.2.s.kind, .bool x.2.s.bool, .bool x.2.s.num.neg, .str x.2.s.num.digits, .int .i64 x.2.s.num.exp, .int .i64 x.2.s.time.kind, .int .i64 x.2.s.time.day, .int .i64 x.2.s.time.nano, .int .i64 x.2.s.time.off, .str x.2.s.text, .tsl 1 (encB x.2.s.bytes), .tsl 13 (x.2.l.map encV), .tsl 14 (x.2.f.map encFd)] := by
  unfold encFd
  rw [encV_eq]
  rfl

/-- values and letters in it -/
def V.bulk (v : V) : Nat := (encV v).bulk
theorem bulks_mem : ∀ {l : List AV} {x : AV}, x ∈ l → x.bulk ≤ AV.bulks l
  | [], x, h => by cases h
  | y :: l, x, h => by
    rcases List.mem_cons.1 h with rfl | h
    · simp [AV.bulks]
    · have := bulks_mem h; simp [AV.bulks]; omega
theorem bulks_len : ∀ (l : List AV), l.length ≤ AV.bulks l
  | [] => by simp [AV.bulks]
  | x :: l => by have := bulks_len l; have := bulk_one x; simp [AV.bulks]; omega
theorem V.bulk_eq (v : V) : v.bulk = v.s.num.digits.length + v.s.text.length + AV.bulks (encB v.s.bytes) + AV.bulks (v.l.map encV) + AV.bulks (v.f.map encFd) + 14 := by
  unfold V.bulk
  rw [encV_eq]
  simp [AV.bulk, AV.bulks]
  omega
theorem encB_len (l : List UInt8) : (encB l).length = l.length := by simp [encB]

structure V.Lens (v : V) (N : Nat) : Prop where
  digits : v.s.num.digits.length < N
  text : v.s.text.length < N
  bytes : v.s.bytes.length < N
  list : v.l.length < N
  fields : v.f.length < N
  kids : ∀ x, x ∈ v.l → x.bulk < v.bulk
  fkids : ∀ x, x ∈ v.f → x.2.bulk < v.bulk ∧ x.1.length < N
theorem V.lens {v : V} {N : Nat} (h : v.bulk ≤ N) : v.Lens N := by
  have e := v.bulk_eq
  have h1 := bulks_len (encB v.s.bytes)
  have h2 := bulks_len (v.l.map encV)
  have h3 := bulks_len (v.f.map encFd)
  rw [encB_len] at h1
  rw [List.length_map] at h2 h3
  refine ⟨by omega, by omega, by omega, by omega, by omega, fun x hx => ?_, fun x hx => ?_⟩
  · have := bulks_mem (List.mem_map_of_mem (f := encV) hx)
    show (encV x).bulk < _
    omega
  · have := bulks_mem (List.mem_map_of_mem (f := encFd) hx)
    have e2 : (encFd x).bulk = x.2.bulk + x.1.length + 1 := by
      unfold V.bulk encFd
      rw [encV_eq]
      simp [AV.bulk, AV.bulks, AV.cells]
      omega
    omega
/-- A slice that a call makes by append: nil, or a row. -/
def outSl (n b : Nat) : List AV → AV
  | [] => .snil n
  | x :: l => .sref n b 0 (l.length + 1)
def outHp (n b : Nat) : List AV → Heap
  | [] => []
  | x :: l => [.row n (x :: l) false true b]
theorem map_get {α β : Type} {g : α → β} {l : List α} {k : Nat} {x : α} (h : l[k]? = some x) : (l.map g)[k]? = some (g x) := by rw [List.getElem?_map, h]; rfl
end Ago
/- Patterns, sets of numbers and schemas as trees. -/
set_option maxRecDepth 100000
set_option maxHeartbeats 4000000
namespace Ago
open Go (IntKind)

structure PS where
  op : Int
  lo : Int
  hi : Int
  min : Int
  max : Int
inductive Pat where
  | mk (s : PS) (a : List Pat)
def Pat.s : Pat → PS | .mk s _ => s
def Pat.a : Pat → List Pat | .mk _ a => a
mutual
def encPat : Pat → AV
  | .mk s a => .agg [.int .i64 s.op, .int .i64 s.lo, .int .i64 s.hi, .int .i64 s.min, .int .i64 s.max, .tsl 6 (encPatL a)]
def encPatL : List Pat → List AV
  | [] => []
  | p :: l => encPat p :: encPatL l
end
theorem encPatL_map : ∀ l, encPatL l = l.map encPat
  | [] => by simp [encPatL]
  | v :: l => by simp [encPatL, encPatL_map l]
theorem encPat_eq (p : Pat) : encPat p = .agg [.int .i64 p.s.op, .int .i64 p.s.lo, .int .i64 p.s.hi, .int .i64 p.s.min, .int .i64 p.s.max, .tsl 6 (p.a.map encPat)] := by
  cases p with
  | mk s l => simp [encPat, Pat.s, Pat.a, encPatL_map]
def Pat.bulk (p : Pat) : Nat := (encPat p).bulk
theorem Pat.bulk_eq (p : Pat) : p.bulk = AV.bulks (p.a.map encPat) + 7 := by
  unfold Pat.bulk
  rw [encPat_eq]
  simp [AV.bulk, AV.bulks]
  omega
structure Pat.Lens (p : Pat) (N : Nat) : Prop where
  args : p.a.length < N
  kids : ∀ x, x ∈ p.a → x.bulk < p.bulk
theorem Pat.lens {p : Pat} {N : Nat} (h : p.bulk ≤ N) : p.Lens N := by
  have e := p.bulk_eq
  have h2 := bulks_len (p.a.map encPat)
  rw [List.length_map] at h2
  refine ⟨by omega, fun x hx => ?_⟩
  have := bulks_mem (List.mem_map_of_mem (f := encPat) hx)
  show (encPat x).bulk < _
  omega

structure Bnd where
  set : Bool
  num : Dec
  opn : Bool
structure Prt where
  lo : Bnd
  hi : Bnd
  sort : Int
def encPrt (p : Prt) : AV := .agg [.bool p.lo.set, .bool p.lo.num.neg, .str p.lo.num.digits, .int .i64 p.lo.num.exp, .bool p.lo.opn, .bool p.hi.set, .bool p.hi.num.neg, .str p.hi.num.digits, .int .i64 p.hi.num.exp, .bool p.hi.opn, .int .i64 p.sort]
theorem encPrt_bulk (p : Prt) : (encPrt p).bulk = p.lo.num.digits.length + p.hi.num.digits.length + 12 := by
  simp [encPrt, AV.bulk, AV.bulks]
  omega

structure SS where
  op : Int
  mask : Int
  min : Int
  max : Int
  name : List UInt8
  parts : List Prt
  pat : Pat
  vals : List V
structure PK where
  key : List UInt8
  req : Bool
inductive Sch where
  | mk (s : SS) (p : List (PK × Sch)) (a : List Sch)
def Sch.s : Sch → SS | .mk s _ _ => s
def Sch.p : Sch → List (PK × Sch) | .mk _ p _ => p
def Sch.a : Sch → List Sch | .mk _ _ a => a
def SS.cells (s : SS) : List AV := [.int .i64 s.op, .int .i64 s.mask, .int .i64 s.min, .int .i64 s.max, .str s.name, .tsl 11 (s.parts.map encPrt), .int .i64 s.pat.s.op, .int .i64 s.pat.s.lo, .int .i64 s.pat.s.hi, .int .i64 s.pat.s.min, .int .i64 s.pat.s.max, .tsl 6 (s.pat.a.map encPat), .tsl 13 (s.vals.map encV)]
mutual
def encSch : Sch → AV
  | .mk s p a => .agg (s.cells ++ [.tsl 17 (encSchP p), .tsl 15 (encSchL a)])
def encSchL : List Sch → List AV
  | [] => []
  | v :: l => encSch v :: encSchL l
def encSchP : List (PK × Sch) → List AV
  | [] => []
  | (k, v) :: f => .agg (.str k.key :: .bool k.req :: (encSch v).cells) :: encSchP f
end
theorem encSchL_map : ∀ l, encSchL l = l.map encSch
  | [] => by simp [encSchL]
  | v :: l => by simp [encSchL, encSchL_map l]
def encPr (x : PK × Sch) : AV := .agg (.str x.1.key :: .bool x.1.req :: (encSch x.2).cells)
theorem encSchP_map : ∀ l, encSchP l = l.map encPr
  | [] => by simp [encSchP]
  | (k, v) :: l => by simp [encSchP, encSchP_map l, encPr]
theorem encSch_eq (v : Sch) : encSch v = .agg [.int .i64 v.s.op, .int .i64 v.s.mask, .int .i64 v.s.min, .int .i64 v.s.max, .str v.s.name, .tsl 11 (v.s.parts.map encPrt), .int .i64 v.s.pat.s.op, .int .i64 v.s.pat.s.lo, .int .i64 v.s.pat.s.hi, .int .i64 v.s.pat.s.min, .int .i64 v.s.pat.s.max, .tsl 6 (v.s.pat.a.map encPat), .tsl 13 (v.s.vals.map encV), .tsl 17 (v.p.map encPr), .tsl 15 (v.a.map encSch)] := by
  cases v with
  | mk s p a => simp [encSch, Sch.s, Sch.p, Sch.a, encSchL_map, encSchP_map, SS.cells]
theorem encPr_eq (x : PK × Sch) : encPr x = .agg [.str x.1.key, .bool x.1.req, .int .i64 x.2.s.op, .int .i64 x.2.s.mask, .int .i64 x.2.s.min, .int .i64 x.2.s.max, .str x.2.s.name, .tsl 11 (x.2.s.parts.map encPrt), .int .i64 x.2.s.pat.s.op, .int .i64 x.2.s.pat.s.lo, .int .i64 x.2.s.pat.s.hi, .int .i64 x.2.s.pat.s.min, .int .i64 x.2.s.pat.s.max, .tsl 6 (x.2.s.pat.a.map encPat), .tsl 13 (x.2.s.vals.map encV), .tsl 17 (x.2.p.map encPr), .tsl 15 (x.2.a.map encSch)] := by
  show AV.agg (.str x.1.key :: .bool x.1.req :: (encSch x.2).cells) = _
  rw [encSch_eq]
  simp only [AV.cells]
def Sch.bulk (v : Sch) : Nat := (encSch v).bulk
theorem Sch.bulk_eq (v : Sch) : v.bulk = v.s.name.length + AV.bulks (v.s.parts.map encPrt) + AV.bulks (v.s.pat.a.map encPat) + AV.bulks (v.s.vals.map encV) + AV.bulks (v.p.map encPr) + AV.bulks (v.a.map encSch) + 16 := by
  unfold Sch.bulk
  rw [encSch_eq]
  simp [AV.bulk, AV.bulks]
  omega
structure Sch.Lens (v : Sch) (N : Nat) : Prop where
  name : v.s.name.length < N
  parts : v.s.parts.length < N
  part : ∀ x, x ∈ v.s.parts → x.lo.num.digits.length < N ∧ x.hi.num.digits.length < N
  pat : v.s.pat.bulk < v.bulk
  vals : v.s.vals.length < N
  val : ∀ x, x ∈ v.s.vals → x.bulk < v.bulk
  props : v.p.length < N
  args : v.a.length < N
  kids : ∀ x, x ∈ v.a → x.bulk < v.bulk
  pkids : ∀ x, x ∈ v.p → x.2.bulk < v.bulk ∧ x.1.key.length < N
theorem Sch.lens {v : Sch} {N : Nat} (h : v.bulk ≤ N) : v.Lens N := by
  have e := v.bulk_eq
  have h1 := bulks_len (v.s.parts.map encPrt)
  have h2 := bulks_len (v.s.vals.map encV)
  have h3 := bulks_len (v.p.map encPr)
  have h4 := bulks_len (v.a.map encSch)
  have h5 := v.s.pat.bulk_eq
  rw [List.length_map] at h1 h2 h3 h4
  refine ⟨by omega, by omega, fun x hx => ?_, by omega, by omega, fun x hx => ?_, by omega, by omega, fun x hx => ?_, fun x hx => ?_⟩
  · have := bulks_mem (List.mem_map_of_mem (f := encPrt) hx)
    rw [encPrt_bulk] at this
    omega
  · have := bulks_mem (List.mem_map_of_mem (f := encV) hx)
    show (encV x).bulk < _
    omega
  · have := bulks_mem (List.mem_map_of_mem (f := encSch) hx)
    show (encSch x).bulk < _
    omega
  · have := bulks_mem (List.mem_map_of_mem (f := encPr) hx)
    have e2 : (encPr x).bulk = x.2.bulk + x.1.key.length + 2 := by
      unfold Sch.bulk encPr
      rw [encSch_eq]
      simp [AV.bulk, AV.bulks, AV.cells]
      omega
    omega
/-- A definition: its name, its schema. -/
def encDef (x : List UInt8 × Sch) : AV := .agg (.str x.1 :: (encSch x.2).cells)
structure Schs where
  defs : List (List UInt8 × Sch)
  root : Sch
def encSchs (s : Schs) : AV := .agg (.tsl 16 (s.defs.map encDef) :: (encSch s.root).cells)
def Schs.bulk (s : Schs) : Nat := (encSchs s).bulk
theorem Schs.bulk_eq (s : Schs) : s.bulk = AV.bulks (s.defs.map encDef) + s.root.bulk + 1 := by
  unfold Schs.bulk Sch.bulk encSchs
  rw [encSch_eq]
  simp [AV.bulk, AV.bulks, AV.cells]
  omega
/-- The schemas in a node. -/
def Sch.kids (v : Sch) : List Sch := v.p.map (·.2) ++ v.a
theorem Sch.kids_bulk {v : Sch} {x : Sch} (h : x ∈ v.kids) : x.bulk < v.bulk := by
  have L := Sch.lens (Nat.le_refl v.bulk)
  unfold Sch.kids at h
  rcases List.mem_append.1 h with h | h
  · obtain ⟨y, hy, rfl⟩ := List.mem_map.1 h
    exact (L.pkids y hy).1
  · exact L.kids x h
theorem Sch.kids_sum (v : Sch) : AV.bulks (v.kids.map encSch) + v.p.length + v.p.length ≤ AV.bulks (v.p.map encPr) + AV.bulks (v.a.map encSch) := by
  unfold Sch.kids
  rw [List.map_append, bulks_append]
  have : ∀ l : List (PK × Sch), AV.bulks ((l.map (·.2)).map encSch) + l.length + l.length ≤ AV.bulks (l.map encPr) := by
    intro l
    induction l with
    | nil => simp [AV.bulks]
    | cons x l ih =>
      have e2 : (encPr x).bulk = x.2.bulk + x.1.key.length + 2 := by
        unfold Sch.bulk encPr
        rw [encSch_eq]
        simp [AV.bulk, AV.bulks, AV.cells]
        omega
      simp only [List.map_cons, AV.bulks, List.length_cons]
      have : (encSch x.2).bulk = x.2.bulk := rfl
      omega
  have := this v.p
  omega
end Ago
/- Paths: steps of values. -/
set_option maxRecDepth 100000
set_option maxHeartbeats 4000000
namespace Ago
open Go (IntKind)
structure Stp where
  byIndex : Bool
  key : List UInt8
  index : Int
  deriving DecidableEq
end Ago
/- Whole numbers as decimals. -/
set_option maxRecDepth 100000
set_option maxHeartbeats 4000000
namespace Ago
open Go (IntKind)

/-! ### Bytes turned round -/

/-! ### Digits of a number -/

/-! ### Noughts at the end -/

end Ago
/- The head of a loop, where no block has a reference: what is kept can be computed though maps are not told. -/
namespace Ago
def Blk.refam (g : Nat → Nat) : Blk → Blk
  | .row n els ro fl fam => .row n els ro fl (g fam)
  | b => b
def Blk.isRo : Blk → Bool
  | .row _ _ ro _ _ => ro
  | _ => false
/-- A block without references, whatever it holds. -/
def Calm (b : Blk) : Prop := b.refs = [] ∧ (∀ f g, Blk.ren f g b = Blk.refam g b) ∧ b.isRo = false
def Calms (H : Heap) : Prop := ∀ b, b ∈ H → Calm b
theorem Calms.nil : Calms [] := fun b h => by cases h
theorem Calms.cons {b : Blk} {H : Heap} (h1 : Calm b) (h2 : Calms H) : Calms (b :: H) := fun x h => by
  rcases List.mem_cons.1 h with rfl | h
  · exact h1
  · exact h2 x h
end Ago
/- Schemas: the schemas in a node, how many nodes there are. -/
set_option maxRecDepth 100000
set_option maxHeartbeats 4000000
namespace Ago
open Go (IntKind)
theorem parts_run (v : Sch) (hv : v.bulk ≤ 2 ^ 24) : PRun CS 514 [encSch v] (.tsl 15 (v.kids.map encSch)) := by
  have L := Sch.lens hv
  refine prun_of ac514 rfl ?_
  rw [encSch_eq]
  (repeat' first | simp (disch := omega) only [go_sem, ac514, enter, List.length_map] | (refine spl (fun h => ?_) (fun h => ?_) <;> try simp (disch := omega) only [go_sem, ac514, enter, List.length_map, h]) | fail)
  refine loop_of (α := Nat × List AV) (fun a => { tmps := slots 23 [(1, .ptr 15 0 0 0), (3, outSl 15 1 a.2), (7, .tsl 17 (v.p.map encPr)), (8, .int .i64 v.p.length), (9, .int .i64 a.1)], heap := [.row 15 [encSch v] false true 0] ++ outHp 15 1 a.2, base := 0 }) (fun a => a.1 ≤ v.p.length ∧ a.2 = (v.p.take a.1).map fun x => encSch x.2) (fun a => v.p.length - a.1) (0, []) (by rw [encSch_eq]; rfl) (by simp) ?_
  rintro ⟨k, els⟩ ⟨hk, hl⟩
  simp only at hk hl
  rw [encSch_eq]
  by_cases hlt : k < v.p.length
  · obtain ⟨x, hx⟩ := get_some hlt
    have hx2 := map_get (g := encPr) hx
    rw [encPr_eq] at hx2
    have hnew : els ++ [encSch x.2] = (v.p.take (k + 1)).map fun x => encSch x.2 := by rw [hl, List.take_add_one, hx]; simp
    rw [encSch_eq x.2] at hnew
    have hlen : els.length = k := by rw [hl]; simp; omega
    have hfl := L.props
    cases els with
    | nil =>
      (repeat' first | simp (disch := omega) only [go_sem, hx2, List.length_map, outSl, outHp] | (refine spl (fun h => ?_) (fun h => ?_) <;> try simp (disch := omega) only [go_sem, hx2, List.length_map, outSl, outHp, h]) | fail)
      refine ⟨(k + 1, (v.p.take (k + 1)).map fun x => encSch x.2), ?_, ⟨hlt, rfl⟩, by simp only; omega⟩
      simp only [← hnew]
      rfl
    | cons y els =>
      simp only [List.length_cons] at hlen
      (repeat' first | simp (disch := omega) only [go_sem, hx2, List.length_map, outSl, outHp] | (refine spl (fun h => ?_) (fun h => ?_) <;> try simp (disch := omega) only [go_sem, hx2, List.length_map, outSl, outHp, h]) | fail)
      refine ⟨(k + 1, (v.p.take (k + 1)).map fun x => encSch x.2), ?_, ⟨hlt, rfl⟩, by simp only; omega⟩
      simp only [← hnew, List.cons_append, outSl, outHp, List.length_append, List.length_cons, List.length_nil]
      rfl
  · have hf : els ++ v.a.map encSch = v.kids.map encSch := by
      rw [hl, take_len hlt hk]
      simp [Sch.kids]
    rw [← hf]
    have hal := L.args
    have hpl := L.props
    have hlen : els.length = v.p.length := by rw [hl, take_len hlt hk]; simp
    cases ha : v.a with
    | nil =>
      cases els with
      | nil => (repeat' first | simp (disch := omega) only [go_sem, List.length_map, outSl, outHp, List.map_nil, List.append_nil] | (refine spl (fun h => ?_) (fun h => ?_) <;> try simp (disch := omega) only [go_sem, List.length_map, outSl, outHp, List.map_nil, List.append_nil, h]) | fail)
      | cons y els =>
        simp only [List.length_cons] at hlen
        (repeat' first | simp (disch := omega) only [go_sem, List.length_map, outSl, outHp, List.take_length, List.map_nil, List.append_nil, List.length_append, List.length_cons] | (refine spl (fun h => ?_) (fun h => ?_) <;> try simp (disch := omega) only [go_sem, List.length_map, outSl, outHp, List.take_length, List.map_nil, List.append_nil, List.length_append, List.length_cons, h]) | fail)
        all_goals (simp; try exact List.take_of_length_le (by simp; try omega))
    | cons z zs =>
      rw [ha] at hal
      simp only [List.length_cons] at hal
      cases els with
      | nil =>
        (repeat' first | simp (disch := omega) only [go_sem, List.length_map, outSl, outHp, List.take_length, List.map_cons, List.nil_append, List.length_cons] | (refine spl (fun h => ?_) (fun h => ?_) <;> try simp (disch := omega) only [go_sem, List.length_map, outSl, outHp, List.take_length, List.map_cons, List.nil_append, List.length_cons, h]) | fail)
        all_goals (simp; try exact List.take_of_length_le (by simp; try omega))
      | cons y els =>
        simp only [List.length_cons] at hlen
        (repeat' first | simp (disch := omega) only [go_sem, List.length_map, outSl, outHp, List.take_length, List.map_cons, List.length_append, List.length_cons, List.cons_append] | (refine spl (fun h => ?_) (fun h => ?_) <;> try simp (disch := omega) only [go_sem, List.length_map, outSl, outHp, List.take_length, List.map_cons, List.length_append, List.length_cons, List.cons_append, h]) | fail)
        all_goals (simp; try exact List.take_of_length_le (by simp; try omega))
theorem refParts_run (v : Sch) (hv : v.bulk ≤ 2 ^ 24) : PRun CS 515 [encSch v] (.tsl 15 (v.kids.map encSch)) := by
  have L := Sch.lens hv
  refine prun_of ac515 rfl ?_
  rw [encSch_eq]
  (repeat' first | simp (disch := omega) only [go_sem, ac515, enter, List.length_map] | (refine spl (fun h => ?_) (fun h => ?_) <;> try simp (disch := omega) only [go_sem, ac515, enter, List.length_map, h]) | fail)
  refine loop_of (α := Nat × List AV) (fun a => { tmps := slots 25 [(1, .ptr 15 0 0 0), (3, outSl 15 1 a.2), (4, .int .i64 a.1)], heap := [.row 15 [encSch v] false true 0] ++ outHp 15 1 a.2, base := 0 }) (fun a => a.1 ≤ v.p.length ∧ a.2 = (v.p.take a.1).map fun x => encSch x.2) (fun a => v.p.length - a.1) (0, []) (by rw [encSch_eq]; rfl) (by simp) ?_
  rintro ⟨k, els⟩ ⟨hk, hl⟩
  simp only at hk hl
  rw [encSch_eq]
  by_cases hlt : k < v.p.length
  · obtain ⟨x, hx⟩ := get_some hlt
    have hx2 := map_get (g := encPr) hx
    rw [encPr_eq] at hx2
    have hnew : els ++ [encSch x.2] = (v.p.take (k + 1)).map fun x => encSch x.2 := by rw [hl, List.take_add_one, hx]; simp
    rw [encSch_eq x.2] at hnew
    have hlen : els.length = k := by rw [hl]; simp; omega
    have hfl := L.props
    cases els with
    | nil =>
      (repeat' first | simp (disch := omega) only [go_sem, hx2, List.length_map, outSl, outHp] | (refine spl (fun h => ?_) (fun h => ?_) <;> try simp (disch := omega) only [go_sem, hx2, List.length_map, outSl, outHp, h]) | fail)
      refine ⟨(k + 1, (v.p.take (k + 1)).map fun x => encSch x.2), ?_, ⟨hlt, rfl⟩, by simp only; omega⟩
      simp only [← hnew]
      rfl
    | cons y els =>
      simp only [List.length_cons] at hlen
      (repeat' first | simp (disch := omega) only [go_sem, hx2, List.length_map, outSl, outHp] | (refine spl (fun h => ?_) (fun h => ?_) <;> try simp (disch := omega) only [go_sem, hx2, List.length_map, outSl, outHp, h]) | fail)
      refine ⟨(k + 1, (v.p.take (k + 1)).map fun x => encSch x.2), ?_, ⟨hlt, rfl⟩, by simp only; omega⟩
      simp only [← hnew, List.cons_append, outSl, outHp, List.length_append, List.length_cons, List.length_nil]
      rfl
  · have hf : els ++ v.a.map encSch = v.kids.map encSch := by
      rw [hl, take_len hlt hk]
      simp [Sch.kids]
    rw [← hf]
    have hal := L.args
    have hpl := L.props
    have hlen : els.length = v.p.length := by rw [hl, take_len hlt hk]; simp
    cases ha : v.a with
    | nil =>
      cases els with
      | nil => (repeat' first | simp (disch := omega) only [go_sem, List.length_map, outSl, outHp, List.map_nil, List.append_nil] | (refine spl (fun h => ?_) (fun h => ?_) <;> try simp (disch := omega) only [go_sem, List.length_map, outSl, outHp, List.map_nil, List.append_nil, h]) | fail)
      | cons y els =>
        simp only [List.length_cons] at hlen
        (repeat' first | simp (disch := omega) only [go_sem, List.length_map, outSl, outHp, List.take_length, List.map_nil, List.append_nil, List.length_append, List.length_cons] | (refine spl (fun h => ?_) (fun h => ?_) <;> try simp (disch := omega) only [go_sem, List.length_map, outSl, outHp, List.take_length, List.map_nil, List.append_nil, List.length_append, List.length_cons, h]) | fail)
        all_goals (simp; try exact List.take_of_length_le (by simp; try omega))
    | cons z zs =>
      rw [ha] at hal
      simp only [List.length_cons] at hal
      cases els with
      | nil =>
        (repeat' first | simp (disch := omega) only [go_sem, List.length_map, outSl, outHp, List.take_length, List.map_cons, List.nil_append, List.length_cons] | (refine spl (fun h => ?_) (fun h => ?_) <;> try simp (disch := omega) only [go_sem, List.length_map, outSl, outHp, List.take_length, List.map_cons, List.nil_append, List.length_cons, h]) | fail)
        all_goals (simp; try exact List.take_of_length_le (by simp; try omega))
      | cons y els =>
        simp only [List.length_cons] at hlen
        (repeat' first | simp (disch := omega) only [go_sem, List.length_map, outSl, outHp, List.take_length, List.map_cons, List.length_append, List.length_cons, List.cons_append] | (refine spl (fun h => ?_) (fun h => ?_) <;> try simp (disch := omega) only [go_sem, List.length_map, outSl, outHp, List.take_length, List.map_cons, List.length_append, List.length_cons, List.cons_append, h]) | fail)
        all_goals (simp; try exact List.take_of_length_le (by simp; try omega))
def cntM : Nat → Sch → Nat
  | 0, _ => 0
  | d + 1, x => 1 + (x.kids.map (cntM d)).sum
theorem cntM_zero (x : Sch) : cntM 0 x = 0 := (rfl)
theorem cntM_succ (d : Nat) (x : Sch) : cntM (d + 1) x = 1 + (x.kids.map (cntM d)).sum := (rfl)
theorem sum_le {α : Type} {f g : α → Nat} : ∀ (l : List α), (∀ x, x ∈ l → f x ≤ g x) → (l.map f).sum ≤ (l.map g).sum
  | [], _ => by simp
  | x :: l, h => by
    have := h x (List.mem_cons_self ..)
    have := sum_le l fun y hy => h y (List.mem_cons_of_mem _ hy)
    simp only [List.map_cons, List.sum_cons]
    omega
theorem bulks_sum : ∀ l : List Sch, AV.bulks (l.map encSch) = (l.map Sch.bulk).sum
  | [] => by simp [AV.bulks]
  | x :: l => by simp [AV.bulks, bulks_sum l, Sch.bulk]
theorem kids_lt (x : Sch) : (x.kids.map Sch.bulk).sum < x.bulk := by
  have h1 := x.kids_sum
  have h2 := x.bulk_eq
  have h3 := bulks_sum x.kids
  omega
theorem cnt_le : ∀ (d : Nat) (x : Sch), cntM d x ≤ x.bulk
  | 0, x => by simp [cntM_zero]
  | d + 1, x => by
    rw [cntM_succ]
    have := kids_lt x
    have := sum_le x.kids (fun y _ => cnt_le d y)
    omega
theorem kids_len (x : Sch) : x.kids.length < x.bulk := by
  have h1 := kids_lt x
  have h2 : ∀ l : List Sch, l.length ≤ (l.map Sch.bulk).sum := by
    intro l
    induction l with
    | nil => simp
    | cons y l ih =>
      have : 1 ≤ y.bulk := bulk_one _
      simp only [List.length_cons, List.map_cons, List.sum_cons]
      omega
  have := h2 x.kids
  omega
theorem sum_take {α : Type} (f : α → Nat) (l : List α) (k : Nat) (x : α) (hx : l[k]? = some x) : ((l.take (k + 1)).map f).sum = ((l.take k).map f).sum + f x := by
  rw [List.take_add_one, hx]
  simp
theorem sum_take_le {α : Type} (f : α → Nat) (l : List α) (k : Nat) : ((l.take k).map f).sum ≤ (l.map f).sum := by
  have : (l.map f).sum = ((l.take k).map f).sum + ((l.drop k).map f).sum := by
    rw [← List.sum_append, ← List.map_append, List.take_append_drop]
  omega
theorem size_run : ∀ (d : Nat) (D : Int), D = d → d < 2 ^ 30 → ∀ x : Sch, x.bulk ≤ 2 ^ 24 → PRun CS 509 [encSch x, .int .i64 D] (.int .i64 (cntM d x)) := by
  intro d
  induction d with
  | zero =>
    intro D hD hd x hx
    refine prun_of ac509 rfl ?_
    rw [encSch_eq, cntM_zero]
    (repeat' first | simp (disch := omega) only [go_sem, ac509, enter, List.length_map] | (refine spl (fun h => ?_) (fun h => ?_) <;> try simp (disch := omega) only [go_sem, ac509, enter, List.length_map, h]) | fail)
    all_goals omega
  | succ d ih =>
    intro D hD hd x hx
    have L := Sch.lens hx
    have hp := parts_run x hx
    have hkl := kids_len x
    refine prun_of ac509 rfl ?_
    rw [encSch_eq] at hp ⊢
    (repeat' first | simp (disch := omega) only [go_sem, ac509, enter, List.length_map] | refine pure_of _ (hp) ?_ | (refine spl (fun h => ?_) (fun h => ?_) <;> try simp (disch := omega) only [go_sem, ac509, enter, List.length_map , h]) | fail)
    all_goals try omega
    refine loop_of (α := Nat × Nat) (fun a => { tmps := slots 25 [(1, .int .i64 D), (5, .int .i64 a.2), (11, .tsl 15 (x.kids.map encSch)), (12, .int .i64 x.kids.length), (13, .int .i64 a.1)], heap := [], base := 0 }) (fun a => a.1 ≤ x.kids.length ∧ a.2 = 1 + ((x.kids.take a.1).map (cntM d)).sum) (fun a => x.kids.length - a.1) (0, 1) rfl ⟨Nat.zero_le _, by simp⟩ ?_
    rintro ⟨k, n⟩ ⟨hk, hn⟩
    simp only at hk hn
    by_cases hlt : k < x.kids.length
    · obtain ⟨y, hy⟩ := get_some hlt
      have hym := List.mem_of_getElem? hy
      have hy2 := map_get (g := encSch) hy
      have hr := ih (D - 1) (by omega) (by omega) y (by have := Sch.kids_bulk hym; omega)
      have h1 := sum_take_le (cntM d) x.kids (k + 1)
      have h2 := sum_take (cntM d) x.kids k y hy
      have h3 := cnt_le (d + 1) x
      rw [cntM_succ] at h3
      rw [encSch_eq] at hy2 hr
      (repeat' first | simp (disch := omega) only [go_sem, hy2, List.length_map] | refine pure_of _ (hr) ?_ | (refine spl (fun h => ?_) (fun h => ?_) <;> try simp (disch := omega) only [go_sem, hy2, List.length_map , h]) | fail)
      all_goals try omega
      refine ⟨(k + 1, n + cntM d y), ?_, ⟨hlt, by simp only; omega⟩, by simp only; omega⟩
      simp only [Int.natCast_add]
      rfl
    · have hk2 : k = x.kids.length := by omega
      rw [hk2, List.take_length] at hn
      rw [cntM_succ, ← hn]
      (repeat' first | simp (disch := omega) only [go_sem, List.length_map] | (refine spl (fun h => ?_) (fun h => ?_) <;> try simp (disch := omega) only [go_sem, List.length_map, h]) | fail)
theorem refCount_run : ∀ (d : Nat) (D : Int), D = d → d < 2 ^ 30 → ∀ x : Sch, x.bulk ≤ 2 ^ 24 → PRun CS 507 [encSch x, .int .i64 D] (.int .i64 (cntM d x)) := by
  intro d
  induction d with
  | zero =>
    intro D hD hd x hx
    refine prun_of ac507 rfl ?_
    rw [encSch_eq, cntM_zero]
    (repeat' first | simp (disch := omega) only [go_sem, ac507, enter, List.length_map] | (refine spl (fun h => ?_) (fun h => ?_) <;> try simp (disch := omega) only [go_sem, ac507, enter, List.length_map, h]) | fail)
    all_goals omega
  | succ d ih =>
    intro D hD hd x hx
    have L := Sch.lens hx
    have hp := refParts_run x hx
    have hkl := kids_len x
    refine prun_of ac507 rfl ?_
    rw [encSch_eq] at hp ⊢
    (repeat' first | simp (disch := omega) only [go_sem, ac507, enter, List.length_map] | refine pure_of _ (hp) ?_ | (refine spl (fun h => ?_) (fun h => ?_) <;> try simp (disch := omega) only [go_sem, ac507, enter, List.length_map , h]) | fail)
    all_goals try omega
    refine loop_of (α := Nat × Nat) (fun a => { tmps := slots 28 [(1, .int .i64 D), (5, .int .i64 a.2), (6, .tsl 15 (x.kids.map encSch)), (7, .int .i64 a.1)], heap := [], base := 0 }) (fun a => a.1 ≤ x.kids.length ∧ a.2 = 1 + ((x.kids.take a.1).map (cntM d)).sum) (fun a => x.kids.length - a.1) (0, 1) rfl ⟨Nat.zero_le _, by simp⟩ ?_
    rintro ⟨k, n⟩ ⟨hk, hn⟩
    simp only at hk hn
    by_cases hlt : k < x.kids.length
    · obtain ⟨y, hy⟩ := get_some hlt
      have hym := List.mem_of_getElem? hy
      have hy2 := map_get (g := encSch) hy
      have hr := ih (D - 1) (by omega) (by omega) y (by have := Sch.kids_bulk hym; omega)
      have h1 := sum_take_le (cntM d) x.kids (k + 1)
      have h2 := sum_take (cntM d) x.kids k y hy
      have h3 := cnt_le (d + 1) x
      rw [cntM_succ] at h3
      rw [encSch_eq] at hy2 hr
      (repeat' first | simp (disch := omega) only [go_sem, hy2, List.length_map] | refine pure_of _ (hr) ?_ | (refine spl (fun h => ?_) (fun h => ?_) <;> try simp (disch := omega) only [go_sem, hy2, List.length_map , h]) | fail)
      all_goals try omega
      refine ⟨(k + 1, n + cntM d y), ?_, ⟨hlt, by simp only; omega⟩, by simp only; omega⟩
      simp only [Int.natCast_add]
      rfl
    · have hk2 : k = x.kids.length := by omega
      rw [hk2, List.take_length] at hn
      rw [cntM_succ, ← hn]
      (repeat' first | simp (disch := omega) only [go_sem, List.length_map] | (refine spl (fun h => ?_) (fun h => ?_) <;> try simp (disch := omega) only [go_sem, List.length_map, h]) | fail)
theorem Size_run (x : Sch) (hx : x.bulk ≤ 2 ^ 24) : PRun CS 481 [encSch x] (.int .i64 (cntM 48 x)) := by
  have hr := size_run 48 48 rfl (by decide) x hx
  refine prun_of ac481 rfl ?_
  rw [encSch_eq] at hr ⊢
  (repeat' first | simp (disch := omega) only [go_sem, ac481, enter] | refine pure_of _ (hr) ?_ | (refine spl (fun h => ?_) (fun h => ?_) <;> try simp (disch := omega) only [go_sem, ac481, enter , h]) | fail)
theorem refSize_run (x : Sch) (hx : x.bulk ≤ 2 ^ 24) : PRun CS 474 [encSch x] (.int .i64 (cntM 48 x)) := by
  have hr := refCount_run 48 48 rfl (by decide) x hx
  refine prun_of ac474 rfl ?_
  rw [encSch_eq] at hr ⊢
  (repeat' first | simp (disch := omega) only [go_sem, ac474, enter] | refine pure_of _ (hr) ?_ | (refine spl (fun h => ?_) (fun h => ?_) <;> try simp (disch := omega) only [go_sem, ac474, enter , h]) | fail)
end Ago
/- Bits of whole numbers. -/
set_option maxRecDepth 100000
set_option maxHeartbeats 4000000
namespace Ago
open Go (IntKind)

end Ago
/- Layer 3 of the references: text, exactly. -/
set_option maxRecDepth 100000
set_option maxHeartbeats 4000000
namespace Ago
open Go (IntKind)
def charM (r : Int) : Bool := decide (0 ≤ r) && decide (r ≤ 1114111) && (decide (r < 55296) || decide (57343 < r))
/-! ### Decoding -/

def contM (c : UInt8) : Bool := decide (128 ≤ c.toNat) && decide (c.toNat < 192)
def widM (r : Int) : Nat := if r < 128 then 1 else if r < 2048 then 2 else if r < 65536 then 3 else 4
/-- The character of so many bytes, if it is one. -/
def decFin (r : Int) (n : Nat) : Int × Int := if charM r && widM r == n then (r, n) else (0, 0)
def dec2 (b : UInt8) : Option UInt8 → Int × Int
  | some c => if contM c then decFin ((b.toNat - 192) * 64 + (c.toNat - 128)) 2 else (0, 0)
  | none => (0, 0)
def dec3 (b : UInt8) : Option UInt8 → Option UInt8 → Int × Int
  | some c, some d => if contM c && contM d then decFin (((b.toNat - 224) * 64 + (c.toNat - 128)) * 64 + (d.toNat - 128)) 3 else (0, 0)
  | _, _ => (0, 0)
def dec4 (b : UInt8) : Option UInt8 → Option UInt8 → Option UInt8 → Int × Int
  | some c, some d, some e => if contM c && contM d && contM e then decFin ((((b.toNat - 240) * 64 + (c.toNat - 128)) * 64 + (d.toNat - 128)) * 64 + (e.toNat - 128)) 4 else (0, 0)
  | _, _, _ => (0, 0)
def decB (s : List UInt8) (k : Nat) (b : UInt8) : Int × Int :=
  if b.toNat < 128 then (b.toNat, 1)
  else if b.toNat < 192 then (0, 0)
  else if b.toNat < 224 then dec2 b s[k + 1]?
  else if b.toNat < 240 then dec3 b s[k + 1]? s[k + 2]?
  else if b.toNat < 248 then dec4 b s[k + 1]? s[k + 2]? s[k + 3]?
  else (0, 0)
/-- Decode, at an offset within the text. -/
def decM (s : List UInt8) (k : Nat) : Int × Int :=
  match s[k]? with
  | some b => decB s k b
  | none => (0, 0)

end Ago
/- The reference's Decode, exactly. -/
set_option maxRecDepth 100000
set_option maxHeartbeats 4000000
namespace Ago
open Go (IntKind)
end Ago
/- Layer 3 of the references, continued: is it text? -/
set_option maxRecDepth 100000
set_option maxHeartbeats 4000000
namespace Ago
open Go (IntKind)
/-- From an offset on: encodings to the end. -/
def walkU (s : List UInt8) : Nat → Nat → Bool
  | 0, _ => true
  | f + 1, k => if s.length ≤ k then true else if (decM s k).2 = 0 then false else walkU s f (k + (decM s k).2.toNat)
/-- Is it text? (R03.Valid, utf.Valid) -/
def utf (s : List UInt8) : Bool := walkU s (s.length + 1) 0
end Ago
/- Layer 7 of the references: what is wrong with a value. -/
set_option maxRecDepth 100000
set_option maxHeartbeats 4000000
namespace Ago
open Go (IntKind)
/-- Only a list has elements, and only a map fields. -/
def OwnOk (v : V) : Prop := (v.s.kind = 6 ∨ v.l.length = 0) ∧ (v.s.kind = 7 ∨ v.f.length = 0)
end Ago
/- Layer 7 of the references, continued: what is wrong with a value. -/
set_option maxRecDepth 100000
set_option maxHeartbeats 4000000
namespace Ago
open Go (IntKind)

end Ago
/- Layer 7 of the references, continued: how values are walked. -/
set_option maxRecDepth 100000
set_option maxHeartbeats 4000000
namespace Ago
open Go (IntKind)
def V.kids (v : V) : List V := if v.s.kind = 7 then v.f.map (·.2) else v.l

/-- A valid value of so much depth, as far as it matters. -/
inductive Good : Nat → V → Prop where
  | mk {n : Nat} {v : V} (h : decOk v.s.num = true) (ho : OwnOk v) (hk : ∀ x, x ∈ v.kids → Good n x) : Good (n + 1) v

theorem kids_bulk {v : V} (hv : v.bulk ≤ 2 ^ 24) : (∀ x, x ∈ v.kids → x.bulk < v.bulk) ∧ v.kids.length < 2 ^ 24 := by
  have L := V.lens hv
  unfold V.kids
  split
  · refine ⟨fun x hx => ?_, by simp only [List.length_map]; exact L.fields⟩
    obtain ⟨y, hy, rfl⟩ := List.mem_map.1 hx
    exact (L.fkids y hy).1
  · exact ⟨L.kids, L.list⟩

end Ago
/- Layer 7 of the references, continued: how many values there are. -/
set_option maxRecDepth 100000
set_option maxHeartbeats 4000000
namespace Ago
open Go (IntKind)
theorem room_ex : ∀ (n : Nat) (v : V), v.bulk ≤ n → n ≤ 2 ^ 24 → ∀ (left d : Int), 0 ≤ left → left < 2 ^ 30 → -1 ≤ d → d < 2 ^ 30 → ∃ r : Int, PRun C0 38 [encV v, .int .i64 left, .int .i64 d] (.int .i64 r) ∧ -1 ≤ r ∧ r < 2 ^ 30 := by
  intro n
  induction n with
  | zero =>
    intro v hv
    have : 1 ≤ v.bulk := bulk_one _
    omega
  | succ n ih =>
    intro v hv hn left d hl1 hl2 hd1 hd2
    have L := V.lens (v := v) (N := 2 ^ 24) (by omega)
    have h := prunE_of (C := C0) (f := 38) (ts := [encV v, .int .i64 left, .int .i64 d]) (k := fun w => ∃ r : Int, w = .int .i64 r ∧ -1 ≤ r ∧ r < 2 ^ 30) ac38 rfl (by
      rw [encV_eq]
      by_cases hdz : d ≤ 0
      · (repeat' first | simp (disch := omega) only [go_sem, ac38, enter, List.length_map] | (refine spl (fun h => ?_) (fun h => ?_) <;> try simp (disch := omega) only [go_sem, ac38, enter, List.length_map, h]) | fail)
        exact ⟨_, rfl, by omega, by omega⟩
      (repeat' first | simp (disch := omega) only [go_sem, ac38, enter, List.length_map] | (refine spl (fun h => ?_) (fun h => ?_) <;> try simp (disch := omega) only [go_sem, ac38, enter, List.length_map, h]) | fail)
      all_goals first | exact ⟨_, rfl, by omega, by omega⟩ | skip
      refine loop_of (α := Nat × Int) (fun a => { tmps := slots 69 [(1, .int .i64 a.2), (2, .int .i64 d), (3, .ptr 13 0 0 0), (7, .int .i64 a.1)], heap := [.row 13 [encV v] false true 0], base := 0 }) (fun a => a.1 ≤ v.l.length ∧ -1 ≤ a.2 ∧ a.2 < 2 ^ 30) (fun a => v.l.length - a.1) (0, left - 1) (by rw [encV_eq]; rfl) ⟨Nat.zero_le _, by simp only; omega, by simp only; omega⟩ ?_
      rintro ⟨k, lf⟩ ⟨hk, hs3, hs4⟩
      simp only at hk hs3 hs4
      rw [encV_eq]
      by_cases hlt : k < v.l.length ∧ 0 ≤ lf
      · obtain ⟨hlt, hlf⟩ := hlt
        obtain ⟨x, hx⟩ := get_some hlt
        have hxm := List.mem_of_getElem? hx
        have hx2 := map_get (g := encV) hx
        obtain ⟨r, hr, k1, k2⟩ := ih x (by have := L.kids x hxm; omega) (by omega) lf (d - 1) (by omega) (by omega) (by omega) (by omega)
        rw [encV_eq] at hx2 hr
        (repeat' first | simp (disch := omega) only [go_sem, hx2, List.length_map] | refine pure_of _ (hr) ?_ | (refine spl (fun h => ?_) (fun h => ?_) <;> try simp (disch := omega) only [go_sem, hx2, List.length_map , h]) | fail)
        exact ⟨(k + 1, r), rfl, ⟨hlt, by simp only; omega, by simp only; omega⟩, by simp only; omega⟩
      · have key : ∀ lf : Int, -1 ≤ lf → lf < 2 ^ 30 → ∀ (k : Nat), True := fun _ _ _ _ => trivial
        by_cases hlt2 : k < v.l.length
        · have hlf : lf < 0 := by omega
          (repeat' first | simp (disch := omega) only [go_sem, List.length_map] | (refine spl (fun h => ?_) (fun h => ?_) <;> try simp (disch := omega) only [go_sem, List.length_map, h]) | fail)
          refine loop_of (α := Nat × Int) (fun a => { tmps := slots 69 [(1, .int .i64 a.2), (2, .int .i64 d), (3, .ptr 13 0 0 0), (8, .int .i64 a.1)], heap := [.row 13 [encV v] false true 0], base := 0 }) (fun a => a.1 ≤ v.f.length ∧ -1 ≤ a.2 ∧ a.2 < 2 ^ 30) (fun a => v.f.length - a.1) (0, lf) (by rw [encV_eq]; rfl) ⟨Nat.zero_le _, by simp only; omega, by simp only; omega⟩ ?_
          clear hk hs3 hs4 hlt hlt2
          rintro ⟨k, lf⟩ ⟨hk, hs3, hs4⟩
          simp only at hk hs3 hs4
          rw [encV_eq]
          by_cases hlt : k < v.f.length ∧ 0 ≤ lf
          · obtain ⟨hlt, hlf⟩ := hlt
            obtain ⟨x, hx⟩ := get_some hlt
            have hxm := List.mem_of_getElem? hx
            have hx2 := map_get (g := encFd) hx
            obtain ⟨r, hr, k1, k2⟩ := ih x.2 (by have := (L.fkids x hxm).1; omega) (by omega) lf (d - 1) (by omega) (by omega) (by omega) (by omega)
            rw [encFd_eq] at hx2
            rw [encV_eq] at hr
            (repeat' first | simp (disch := omega) only [go_sem, hx2, List.length_map] | refine pure_of _ (hr) ?_ | (refine spl (fun h => ?_) (fun h => ?_) <;> try simp (disch := omega) only [go_sem, hx2, List.length_map , h]) | fail)
            exact ⟨(k + 1, r), rfl, ⟨hlt, by simp only; omega, by simp only; omega⟩, by simp only; omega⟩
          · by_cases hlt2 : k < v.f.length
            · have hlf : lf < 0 := by omega
              (repeat' first | simp (disch := omega) only [go_sem, List.length_map] | (refine spl (fun h => ?_) (fun h => ?_) <;> try simp (disch := omega) only [go_sem, List.length_map, h]) | fail)
              exact ⟨_, rfl, by omega, by omega⟩
            · (repeat' first | simp (disch := omega) only [go_sem, List.length_map] | (refine spl (fun h => ?_) (fun h => ?_) <;> try simp (disch := omega) only [go_sem, List.length_map, h]) | fail)
              exact ⟨_, rfl, by omega, by omega⟩
        · (repeat' first | simp (disch := omega) only [go_sem, List.length_map] | (refine spl (fun h => ?_) (fun h => ?_) <;> try simp (disch := omega) only [go_sem, List.length_map, h]) | fail)
          refine loop_of (α := Nat × Int) (fun a => { tmps := slots 69 [(1, .int .i64 a.2), (2, .int .i64 d), (3, .ptr 13 0 0 0), (8, .int .i64 a.1)], heap := [.row 13 [encV v] false true 0], base := 0 }) (fun a => a.1 ≤ v.f.length ∧ -1 ≤ a.2 ∧ a.2 < 2 ^ 30) (fun a => v.f.length - a.1) (0, lf) (by rw [encV_eq]; rfl) ⟨Nat.zero_le _, by simp only; omega, by simp only; omega⟩ ?_
          clear hk hs3 hs4 hlt hlt2
          rintro ⟨k, lf⟩ ⟨hk, hs3, hs4⟩
          simp only at hk hs3 hs4
          rw [encV_eq]
          by_cases hlt : k < v.f.length ∧ 0 ≤ lf
          · obtain ⟨hlt, hlf⟩ := hlt
            obtain ⟨x, hx⟩ := get_some hlt
            have hxm := List.mem_of_getElem? hx
            have hx2 := map_get (g := encFd) hx
            obtain ⟨r, hr, k1, k2⟩ := ih x.2 (by have := (L.fkids x hxm).1; omega) (by omega) lf (d - 1) (by omega) (by omega) (by omega) (by omega)
            rw [encFd_eq] at hx2
            rw [encV_eq] at hr
            (repeat' first | simp (disch := omega) only [go_sem, hx2, List.length_map] | refine pure_of _ (hr) ?_ | (refine spl (fun h => ?_) (fun h => ?_) <;> try simp (disch := omega) only [go_sem, hx2, List.length_map , h]) | fail)
            exact ⟨(k + 1, r), rfl, ⟨hlt, by simp only; omega, by simp only; omega⟩, by simp only; omega⟩
          · by_cases hlt2 : k < v.f.length
            · have hlf : lf < 0 := by omega
              (repeat' first | simp (disch := omega) only [go_sem, List.length_map] | (refine spl (fun h => ?_) (fun h => ?_) <;> try simp (disch := omega) only [go_sem, List.length_map, h]) | fail)
              exact ⟨_, rfl, by omega, by omega⟩
            · (repeat' first | simp (disch := omega) only [go_sem, List.length_map] | (refine spl (fun h => ?_) (fun h => ?_) <;> try simp (disch := omega) only [go_sem, List.length_map, h]) | fail)
              exact ⟨_, rfl, by omega, by omega⟩)
    obtain ⟨w, k1, r, rfl, k2, k3⟩ := h
    exact ⟨r, k1, k2, k3⟩

theorem small_ex (v : V) (hv : v.bulk ≤ 2 ^ 24) (n d : Int) (h1 : 0 ≤ n) (h2 : n < 2 ^ 30) (h3 : -1 ≤ d) (h4 : d < 2 ^ 30) : ∃ b, PRun C0 18 [encV v, .int .i64 n, .int .i64 d] (.bool b) := by
  obtain ⟨r, k1, _, _⟩ := room_ex _ v (Nat.le_refl _) hv n d h1 h2 h3 h4
  rw [encV_eq] at k1 ⊢
  refine ⟨decide (r ≥ 0), prun_of ac18 rfl ?_⟩
  (repeat' first | simp (disch := omega) only [go_sem, ac18, enter] | refine pure_of _ (k1) ?_ | (refine spl (fun h => ?_) (fun h => ?_) <;> try simp (disch := omega) only [go_sem, ac18, enter , h]) | fail)
end Ago
/- Patterns: their size; few nodes, small nodes. -/
set_option maxRecDepth 100000
set_option maxHeartbeats 4000000
namespace Ago
open Go (IntKind)
theorem upS {f : Nat} {ts : List AV} {v : AV} (h : PRun C0 f ts v) : PRun CS f ts v :=
  extCtx_up (bs_ext (C := C0) (C' := mkCtx codeS clRS clPS) (fun f fn h => by
    have h : code f = some fn := h
    show codeS f = some fn
    unfold codeS
    rw [h]) (fun _ _ _ _ _ h => by
      obtain ⟨p, x, h, h2⟩ := h
      refine ⟨p, x, ?_, h2⟩
      unfold clR at h
      split at h
      · exact h
      · cases h) (fun f t v h => by
      obtain ⟨p, l, h, h2⟩ := h
      refine ⟨p, l, ?_, h2⟩
      unfold clP at h
      split at h
      · exact h
      · cases h) h)
def cntP : Nat → Pat → Nat
  | 0, _ => 0
  | d + 1, x => 1 + (x.a.map (cntP d)).sum
theorem cntP_zero (x : Pat) : cntP 0 x = 0 := (rfl)
theorem cntP_succ (d : Nat) (x : Pat) : cntP (d + 1) x = 1 + (x.a.map (cntP d)).sum := (rfl)
theorem bulksP_sum : ∀ l : List Pat, AV.bulks (l.map encPat) = (l.map Pat.bulk).sum
  | [] => by simp [AV.bulks]
  | x :: l => by simp [AV.bulks, bulksP_sum l, Pat.bulk]
theorem cntP_le : ∀ (d : Nat) (x : Pat), cntP d x ≤ x.bulk
  | 0, x => by simp [cntP_zero]
  | d + 1, x => by
    rw [cntP_succ]
    have h1 := x.bulk_eq
    have h2 := bulksP_sum x.a
    have := sum_le x.a (fun y _ => cntP_le d y)
    omega
theorem refCountP_run : ∀ (d : Nat) (D : Int), D = d → d < 2 ^ 30 → ∀ x : Pat, x.bulk ≤ 2 ^ 24 → PRun CS 376 [encPat x, .int .i64 D] (.int .i64 (cntP d x)) := by
  intro d
  induction d with
  | zero =>
    intro D hD hd x hx
    refine prun_of ac376 rfl ?_
    rw [encPat_eq, cntP_zero]
    (repeat' first | simp (disch := omega) only [go_sem, ac376, enter, List.length_map] | (refine spl (fun h => ?_) (fun h => ?_) <;> try simp (disch := omega) only [go_sem, ac376, enter, List.length_map, h]) | fail)
    all_goals omega
  | succ d ih =>
    intro D hD hd x hx
    have L := Pat.lens hx
    have hal := L.args
    refine prun_of ac376 rfl ?_
    rw [encPat_eq]
    (repeat' first | simp (disch := omega) only [go_sem, ac376, enter, List.length_map] | (refine spl (fun h => ?_) (fun h => ?_) <;> try simp (disch := omega) only [go_sem, ac376, enter, List.length_map, h]) | fail)
    all_goals try omega
    refine loop_of (α := Nat × Nat) (fun a => { tmps := slots 27 [(1, .int .i64 D), (2, .ptr 6 0 0 0), (5, .int .i64 a.2), (6, .int .i64 a.1)], heap := [.row 6 [encPat x] false true 0], base := 0 }) (fun a => a.1 ≤ x.a.length ∧ a.2 = 1 + ((x.a.take a.1).map (cntP d)).sum) (fun a => x.a.length - a.1) (0, 1) (by rw [encPat_eq]; rfl) ⟨Nat.zero_le _, by simp⟩ ?_
    rintro ⟨k, n⟩ ⟨hk, hn⟩
    simp only at hk hn
    try rw [encPat_eq]
    by_cases hlt : k < x.a.length
    · obtain ⟨y, hy⟩ := get_some hlt
      have hym := List.mem_of_getElem? hy
      have hy2 := map_get (g := encPat) hy
      have hr := ih (D - 1) (by omega) (by omega) y (by have := L.kids y hym; omega)
      have h1 := sum_take_le (cntP d) x.a (k + 1)
      have h2 := sum_take (cntP d) x.a k y hy
      have h3 := cntP_le (d + 1) x
      rw [cntP_succ] at h3
      rw [encPat_eq] at hy2 hr
      (repeat' first | simp (disch := omega) only [go_sem, hy2, List.length_map] | refine pure_of _ (hr) ?_ | (refine spl (fun h => ?_) (fun h => ?_) <;> try simp (disch := omega) only [go_sem, hy2, List.length_map , h]) | fail)
      all_goals try omega
      refine ⟨(k + 1, n + cntP d y), ?_, ⟨hlt, by simp only; omega⟩, by simp only; omega⟩
      simp only [Int.natCast_add, encPat_eq x]
      rfl
    · have hk2 : k = x.a.length := by omega
      rw [hk2, List.take_length] at hn
      rw [cntP_succ, ← hn]
      (repeat' first | simp (disch := omega) only [go_sem, List.length_map] | (refine spl (fun h => ?_) (fun h => ?_) <;> try simp (disch := omega) only [go_sem, List.length_map, h]) | fail)
theorem refSizeP_run (x : Pat) (hx : x.bulk ≤ 2 ^ 24) : PRun CS 357 [encPat x] (.int .i64 (cntP 48 x)) := by
  have hr := refCountP_run 48 48 rfl (by decide) x hx
  refine prun_of ac357 rfl ?_
  rw [encPat_eq] at hr ⊢
  (repeat' first | simp (disch := omega) only [go_sem, ac357, enter] | refine pure_of _ (hr) ?_ | (refine spl (fun h => ?_) (fun h => ?_) <;> try simp (disch := omega) only [go_sem, ac357, enter , h]) | fail)
/-- A node has few and small parts. -/
theorem node_ex (x : Sch) (hx : x.bulk ≤ 2 ^ 24) : ∃ b, PRun CS 560 [encSch x] (.bool b) := by
  have L := Sch.lens hx
  have hr := refSizeP_run x.s.pat (by have := L.pat; omega)
  have hc := cntP_le 48 x.s.pat
  have hpb := L.pat
  have l1 := L.vals
  have l2 := L.props
  have l3 := L.args
  have l4 := L.parts
  have h := prunE_of (C := CS) (f := 560) (ts := [encSch x]) (k := fun w => ∃ b, w = .bool b) ac560 rfl (by
    rw [encSch_eq]
    rw [encPat_eq] at hr
    (repeat' first | simp (disch := omega) only [go_sem, ac560, enter, List.length_map] | refine pure_of _ (hr) ?_ | (refine spl (fun h => ?_) (fun h => ?_) <;> try simp (disch := omega) only [go_sem, ac560, enter, List.length_map , h]) | fail)
    all_goals first | exact ⟨_, rfl⟩ | omega | skip
    refine loop_of (α := Nat) (fun a => { tmps := slots 47 [(1, .ptr 15 0 0 0), (3, .int .i64 a)], heap := [.row 15 [encSch x] false true 0], base := 0 }) (fun a => a ≤ x.s.vals.length) (fun a => x.s.vals.length - a) 0 (by rw [encSch_eq]; rfl) (Nat.zero_le _) ?_
    intro k hk
    rw [encSch_eq]
    by_cases hlt : k < x.s.vals.length
    · obtain ⟨y, hy⟩ := get_some hlt
      have hym := List.mem_of_getElem? hy
      have hy2 := map_get (g := encV) hy
      obtain ⟨b, hb⟩ := small_ex y (by have := L.val y hym; omega) 20 5 (by decide) (by decide) (by decide) (by decide)
      have hb := upS hb
      rw [encV_eq] at hy2 hb
      cases b with
      | true =>
        (repeat' first | simp (disch := omega) only [go_sem, hy2, List.length_map] | refine pure_of _ (hb) ?_ | (refine spl (fun h => ?_) (fun h => ?_) <;> try simp (disch := omega) only [go_sem, hy2, List.length_map , h]) | fail)
        all_goals try omega
        exact ⟨k + 1, rfl, hlt, by omega⟩
      | false =>
        (repeat' first | simp (disch := omega) only [go_sem, hy2, List.length_map] | refine pure_of _ (hb) ?_ | (refine spl (fun h => ?_) (fun h => ?_) <;> try simp (disch := omega) only [go_sem, hy2, List.length_map , h]) | fail)
        all_goals first | exact ⟨_, rfl⟩ | omega
    · (repeat' first | simp (disch := omega) only [go_sem, List.length_map] | (refine spl (fun h => ?_) (fun h => ?_) <;> try simp (disch := omega) only [go_sem, List.length_map, h]) | fail)
      all_goals first | exact ⟨_, rfl⟩ | omega)
  obtain ⟨w, k1, b, rfl⟩ := h
  exact ⟨b, k1⟩
theorem few_ex : ∀ (d : Nat) (D : Int), D ≤ d → -(2 ^ 30) < D → d < 2 ^ 30 → ∀ x : Sch, x.bulk ≤ 2 ^ 24 → ∃ b, PRun CS 508 [encSch x, .int .i64 D] (.bool b) := by
  intro d
  induction d with
  | zero =>
    intro D hD hD2 hd x hx
    obtain ⟨b, hb⟩ := node_ex x hx
    have hp := refParts_run x hx
    have hkl := kids_len x
    cases b with
    | false =>
      refine ⟨false, prun_of ac508 rfl ?_⟩
      rw [encSch_eq] at hb ⊢
      (repeat' first | simp (disch := omega) only [go_sem, ac508, enter, List.length_map] | refine pure_of _ (hb) ?_ | (refine spl (fun h => ?_) (fun h => ?_) <;> try simp (disch := omega) only [go_sem, ac508, enter, List.length_map , h]) | fail)
    | true =>
      refine ⟨true, prun_of ac508 rfl ?_⟩
      rw [encSch_eq] at hb hp ⊢
      (repeat' first | simp (disch := omega) only [go_sem, ac508, enter, List.length_map] | refine pure_of _ (hb) ?_ | refine pure_of _ (hp) ?_ | (refine spl (fun h => ?_) (fun h => ?_) <;> try simp (disch := omega) only [go_sem, ac508, enter, List.length_map , h]) | fail)
      refine loop_of (α := Nat) (fun a => { tmps := slots 30 [(1, .int .i64 D), (5, .tsl 15 (x.kids.map encSch)), (6, .int .i64 a)], heap := [], base := 0 }) (fun a => a ≤ x.kids.length) (fun a => x.kids.length - a) 0 rfl (Nat.zero_le _) ?_
      intro k hk
      by_cases hlt : k < x.kids.length
      · obtain ⟨y, hy⟩ := get_some hlt
        (repeat' first | simp (disch := omega) only [go_sem, List.length_map] | (refine spl (fun h => ?_) (fun h => ?_) <;> try simp (disch := omega) only [go_sem, List.length_map, h]) | fail)
        all_goals omega
      · (repeat' first | simp (disch := omega) only [go_sem, List.length_map] | (refine spl (fun h => ?_) (fun h => ?_) <;> try simp (disch := omega) only [go_sem, List.length_map, h]) | fail)
        all_goals omega
  | succ d ih =>
    intro D hD hD2 hd x hx
    obtain ⟨b, hb⟩ := node_ex x hx
    have hp := refParts_run x hx
    have hkl := kids_len x
    cases b with
    | false =>
      refine ⟨false, prun_of ac508 rfl ?_⟩
      rw [encSch_eq] at hb ⊢
      (repeat' first | simp (disch := omega) only [go_sem, ac508, enter, List.length_map] | refine pure_of _ (hb) ?_ | (refine spl (fun h => ?_) (fun h => ?_) <;> try simp (disch := omega) only [go_sem, ac508, enter, List.length_map , h]) | fail)
    | true =>
      have h := prunE_of (C := CS) (f := 508) (ts := [encSch x, .int .i64 D]) (k := fun w => ∃ b, w = .bool b) ac508 rfl (by
        rw [encSch_eq] at hb hp ⊢
        (repeat' first | simp (disch := omega) only [go_sem, ac508, enter, List.length_map] | refine pure_of _ (hb) ?_ | refine pure_of _ (hp) ?_ | (refine spl (fun h => ?_) (fun h => ?_) <;> try simp (disch := omega) only [go_sem, ac508, enter, List.length_map , h]) | fail)
        refine loop_of (α := Nat) (fun a => { tmps := slots 30 [(1, .int .i64 D), (5, .tsl 15 (x.kids.map encSch)), (6, .int .i64 a)], heap := [], base := 0 }) (fun a => a ≤ x.kids.length) (fun a => x.kids.length - a) 0 rfl (Nat.zero_le _) ?_
        intro k hk
        by_cases hlt : k < x.kids.length ∧ 1 < D
        · obtain ⟨hlt, hD1⟩ := hlt
          obtain ⟨y, hy⟩ := get_some hlt
          have hym := List.mem_of_getElem? hy
          have hy2 := map_get (g := encSch) hy
          obtain ⟨c, hc⟩ := ih (D - 1) (by omega) (by omega) (by omega) y (by have := Sch.kids_bulk hym; omega)
          rw [encSch_eq] at hy2 hc
          cases c with
          | true =>
            (repeat' first | simp (disch := omega) only [go_sem, hy2, List.length_map] | refine pure_of _ (hc) ?_ | (refine spl (fun h => ?_) (fun h => ?_) <;> try simp (disch := omega) only [go_sem, hy2, List.length_map , h]) | fail)
            all_goals try omega
            exact ⟨k + 1, rfl, hlt, by omega⟩
          | false =>
            (repeat' first | simp (disch := omega) only [go_sem, hy2, List.length_map] | refine pure_of _ (hc) ?_ | (refine spl (fun h => ?_) (fun h => ?_) <;> try simp (disch := omega) only [go_sem, hy2, List.length_map , h]) | fail)
            all_goals first | exact ⟨_, rfl⟩ | omega
        · by_cases hlt2 : k < x.kids.length
          · (repeat' first | simp (disch := omega) only [go_sem, List.length_map] | (refine spl (fun h => ?_) (fun h => ?_) <;> try simp (disch := omega) only [go_sem, List.length_map, h]) | fail)
            all_goals first | exact ⟨_, rfl⟩ | omega
          · (repeat' first | simp (disch := omega) only [go_sem, List.length_map] | (refine spl (fun h => ?_) (fun h => ?_) <;> try simp (disch := omega) only [go_sem, List.length_map, h]) | fail)
            all_goals first | exact ⟨_, rfl⟩ | omega)
      obtain ⟨w, k1, c, rfl⟩ := h
      exact ⟨c, k1⟩
theorem Small_ex (x : Sch) (hx : x.bulk ≤ 2 ^ 24) : ∃ b, PRun CS 480 [encSch x] (.bool b) := by
  obtain ⟨b, hb⟩ := few_ex 50 50 (by decide) (by decide) (by decide) x hx
  have hr := refSize_run x hx
  have hc := cnt_le 48 x
  cases b with
  | false =>
    refine ⟨false, prun_of ac480 rfl ?_⟩
    rw [encSch_eq] at hb ⊢
    (repeat' first | simp (disch := omega) only [go_sem, ac480, enter] | refine pure_of _ (hb) ?_ | (refine spl (fun h => ?_) (fun h => ?_) <;> try simp (disch := omega) only [go_sem, ac480, enter , h]) | fail)
  | true =>
    by_cases h : cntM 48 x ≤ 1100
    · refine ⟨true, prun_of ac480 rfl ?_⟩
      rw [encSch_eq] at hb hr ⊢
      (repeat' first | simp (disch := omega) only [go_sem, ac480, enter] | refine pure_of _ (hb) ?_ | refine pure_of _ (hr) ?_ | (refine spl (fun h => ?_) (fun h => ?_) <;> try simp (disch := omega) only [go_sem, ac480, enter , h]) | fail)
      all_goals omega
    · refine ⟨false, prun_of ac480 rfl ?_⟩
      rw [encSch_eq] at hb hr ⊢
      (repeat' first | simp (disch := omega) only [go_sem, ac480, enter] | refine pure_of _ (hb) ?_ | refine pure_of _ (hr) ?_ | (refine spl (fun h => ?_) (fun h => ?_) <;> try simp (disch := omega) only [go_sem, ac480, enter , h]) | fail)
      all_goals omega
end Ago
