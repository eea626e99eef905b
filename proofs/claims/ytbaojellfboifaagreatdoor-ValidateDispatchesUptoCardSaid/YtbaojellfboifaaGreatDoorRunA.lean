/- Layers 1 and 2 of the references: numerals and decimals. -/
import Derived.Test.YtbaojellfboifaaGreatDoorCodeZ
import Derived.Test.YtbaojellfboifaaGreatDoorMachE
import Derived.Test.YtbaojellfboifaaGreatDoorCode
set_option linter.unusedSimpArgs false
set_option linter.unusedVariables false
set_option maxRecDepth 100000
namespace Ago
def digit (b : UInt8) : Bool := decide (48 ≤ b.toNat ∧ b.toNat ≤ 57)
def digits (s : List UInt8) : Bool := s.all digit
theorem get_some {α : Type} {s : List α} {k : Nat} (h : k < s.length) : ∃ c, s[k]? = some c := ⟨_, List.getElem?_eq_getElem h⟩

/-- R01.Valid -/
def numeral (s : List UInt8) : Bool := decide (s.length ≤ 600) && digits s && decide (s[0]? ≠ some 48)

def encB (l : List UInt8) : List AV := l.map fun c => .int .u8 c.toNat
/-- R01.Zeros -/
def zeros (s : List UInt8) : Nat := (s.reverse.takeWhile (· == 48)).length

end Ago
/- Layers 1 and 2 of the references, continued: numerals and decimals as ints. -/
set_option maxRecDepth 100000
namespace Ago
/-! ### Decimals -/

structure Dec where
  neg : Bool
  digits : List UInt8
  exp : Int
/-- R02.Valid -/
def decOk (d : Dec) : Bool :=
  if d.digits = [] then !d.neg && d.exp == 0
  else decide (d.digits.length ≤ 120) && numeral d.digits && decide (zeros d.digits = 0) && decide (-400 ≤ d.exp) && decide (d.exp ≤ 400)

end Ago
/- Values as trees. -/
set_option maxRecDepth 100000
namespace Ago
open Go (IntKind)

structure Tm where
  kind : Int
  day : Int
  nano : Int
  off : Int
structure VS where
  kind : Int
  bool : Bool
  num : Dec
  time : Tm
  text : List UInt8
  bytes : List UInt8
inductive V where
  | mk (s : VS) (l : List V) (f : List (List UInt8 × V))

def V.s : V → VS | .mk s _ _ => s
def V.l : V → List V | .mk _ l _ => l
def V.f : V → List (List UInt8 × V) | .mk _ _ f => f

mutual
def encV : V → AV
  | .mk s l f => .agg [.int .i64 s.kind, .bool s.bool, .bool s.num.neg, .str s.num.digits, .int .i64 s.num.exp, .int .i64 s.time.kind, .int .i64 s.time.day, .int .i64 s.time.nano, .int .i64 s.time.off, .str s.text, .tsl 1 (encB s.bytes), .tsl 13 (encL l), .tsl 14 (encF f)]
def encL : List V → List AV
  | [] => []
  | v :: l => encV v :: encL l
def encF : List (List UInt8 × V) → List AV
  | [] => []
  | (k, v) :: f => .agg (.str k :: (encV v).cells) :: encF f
end

theorem encL_map : ∀ l, encL l = l.map encV
  | [] => by simp [encL]
  | v :: l => by simp [encL, encL_map l]
def encFd (x : List UInt8 × V) : AV := .agg (.str x.1 :: (encV x.2).cells)
theorem encF_map : ∀ l, encF l = l.map encFd
  | [] => by simp [encF]
  | (k, v) :: l => by simp [encF, encF_map l, encFd]
theorem encV_eq (v : V) : encV v = .agg [.int .i64 v.s.kind, .bool v.s.bool, .bool v.s.num.neg, .str v.s.num.digits, .int .i64 v.s.num.exp, .int .i64 v.s.time.kind, .int .i64 v.s.time.day, .int .i64 v.s.time.nano, .int .i64 v.s.time.off, .str v.s.text, .tsl 1 (encB v.s.bytes), .tsl 13 (v.l.map encV), .tsl 14 (v.f.map encFd)] := by
  cases v with
  | mk s l f => simp [encV, V.s, V.l, V.f, encL_map, encF_map]
/-- values and letters in it -/
def V.bulk (v : V) : Nat := (encV v).bulk
theorem bulks_mem : ∀ {l : List AV} {x : AV}, x ∈ l → x.bulk ≤ AV.bulks l
  | [], x, h => by cases h
  | y :: l, x, h => by
    rcases List.mem_cons.1 h with rfl | h
    · simp [AV.bulks]
    · have := bulks_mem h; simp [AV.bulks]; omega
theorem bulks_len : ∀ (l : List AV), l.length ≤ AV.bulks l
  | [] => by simp [AV.bulks]
  | x :: l => by have := bulks_len l; have := bulk_one x; simp [AV.bulks]; omega
theorem V.bulk_eq (v : V) : v.bulk = v.s.num.digits.length + v.s.text.length + AV.bulks (encB v.s.bytes) + AV.bulks (v.l.map encV) + AV.bulks (v.f.map encFd) + 14 := by
  unfold V.bulk
  rw [encV_eq]
  simp [AV.bulk, AV.bulks]
  omega
theorem encB_len (l : List UInt8) : (encB l).length = l.length := by simp [encB]

structure V.Lens (v : V) (N : Nat) : Prop where
  digits : v.s.num.digits.length < N
  text : v.s.text.length < N
  bytes : v.s.bytes.length < N
  list : v.l.length < N
  fields : v.f.length < N
  kids : ∀ x, x ∈ v.l → x.bulk < v.bulk
  fkids : ∀ x, x ∈ v.f → x.2.bulk < v.bulk ∧ x.1.length < N
theorem V.lens {v : V} {N : Nat} (h : v.bulk ≤ N) : v.Lens N := by
  have e := v.bulk_eq
  have h1 := bulks_len (encB v.s.bytes)
  have h2 := bulks_len (v.l.map encV)
  have h3 := bulks_len (v.f.map encFd)
  rw [encB_len] at h1
  rw [List.length_map] at h2 h3
  refine ⟨by omega, by omega, by omega, by omega, by omega, fun x hx => ?_, fun x hx => ?_⟩
  · have := bulks_mem (List.mem_map_of_mem (f := encV) hx)
    show (encV x).bulk < _
    omega
  · have := bulks_mem (List.mem_map_of_mem (f := encFd) hx)
    have e2 : (encFd x).bulk = x.2.bulk + x.1.length + 1 := by
      unfold V.bulk encFd
      rw [encV_eq]
      simp [AV.bulk, AV.bulks, AV.cells]
      omega
    omega
theorem map_get {α β : Type} {g : α → β} {l : List α} {k : Nat} {x : α} (h : l[k]? = some x) : (l.map g)[k]? = some (g x) := by rw [List.getElem?_map, h]; rfl
end Ago
/- Patterns, sets of numbers and schemas as trees. -/
set_option maxRecDepth 100000
set_option maxHeartbeats 4000000
namespace Ago
open Go (IntKind)

structure PS where
  op : Int
  lo : Int
  hi : Int
  min : Int
  max : Int
inductive Pat where
  | mk (s : PS) (a : List Pat)
def Pat.s : Pat → PS | .mk s _ => s
def Pat.a : Pat → List Pat | .mk _ a => a
mutual
def encPat : Pat → AV
  | .mk s a => .agg [.int .i64 s.op, .int .i64 s.lo, .int .i64 s.hi, .int .i64 s.min, .int .i64 s.max, .tsl 6 (encPatL a)]
def encPatL : List Pat → List AV
  | [] => []
  | p :: l => encPat p :: encPatL l
end
theorem encPatL_map : ∀ l, encPatL l = l.map encPat
  | [] => by simp [encPatL]
  | v :: l => by simp [encPatL, encPatL_map l]
theorem encPat_eq (p : Pat) : encPat p = .agg [.int .i64 p.s.op, .int .i64 p.s.lo, .int .i64 p.s.hi, .int .i64 p.s.min, .int .i64 p.s.max, .tsl 6 (p.a.map encPat)] := by
  cases p with
  | mk s l => simp [encPat, Pat.s, Pat.a, encPatL_map]
def Pat.bulk (p : Pat) : Nat := (encPat p).bulk
theorem Pat.bulk_eq (p : Pat) : p.bulk = AV.bulks (p.a.map encPat) + 7 := by
  unfold Pat.bulk
  rw [encPat_eq]
  simp [AV.bulk, AV.bulks]
  omega
structure Pat.Lens (p : Pat) (N : Nat) : Prop where
  args : p.a.length < N
  kids : ∀ x, x ∈ p.a → x.bulk < p.bulk
theorem Pat.lens {p : Pat} {N : Nat} (h : p.bulk ≤ N) : p.Lens N := by
  have e := p.bulk_eq
  have h2 := bulks_len (p.a.map encPat)
  rw [List.length_map] at h2
  refine ⟨by omega, fun x hx => ?_⟩
  have := bulks_mem (List.mem_map_of_mem (f := encPat) hx)
  show (encPat x).bulk < _
  omega

structure Bnd where
  set : Bool
  num : Dec
  opn : Bool
structure Prt where
  lo : Bnd
  hi : Bnd
  sort : Int
def encPrt (p : Prt) : AV := .agg [.bool p.lo.set, .bool p.lo.num.neg, .str p.lo.num.digits, .int .i64 p.lo.num.exp, .bool p.lo.opn, .bool p.hi.set, .bool p.hi.num.neg, .str p.hi.num.digits, .int .i64 p.hi.num.exp, .bool p.hi.opn, .int .i64 p.sort]
theorem encPrt_bulk (p : Prt) : (encPrt p).bulk = p.lo.num.digits.length + p.hi.num.digits.length + 12 := by
  simp [encPrt, AV.bulk, AV.bulks]
  omega

structure SS where
  op : Int
  mask : Int
  min : Int
  max : Int
  name : List UInt8
  parts : List Prt
  pat : Pat
  vals : List V
structure PK where
  key : List UInt8
  req : Bool
inductive Sch where
  | mk (s : SS) (p : List (PK × Sch)) (a : List Sch)
def Sch.s : Sch → SS | .mk s _ _ => s
def Sch.p : Sch → List (PK × Sch) | .mk _ p _ => p
def Sch.a : Sch → List Sch | .mk _ _ a => a
def SS.cells (s : SS) : List AV := [.int .i64 s.op, .int .i64 s.mask, .int .i64 s.min, .int .i64 s.max, .str s.name, .tsl 11 (s.parts.map encPrt), .int .i64 s.pat.s.op, .int .i64 s.pat.s.lo, .int .i64 s.pat.s.hi, .int .i64 s.pat.s.min, .int .i64 s.pat.s.max, .tsl 6 (s.pat.a.map encPat), .tsl 13 (s.vals.map encV)]
mutual
def encSch : Sch → AV
  | .mk s p a => .agg (s.cells ++ [.tsl 17 (encSchP p), .tsl 15 (encSchL a)])
def encSchL : List Sch → List AV
  | [] => []
  | v :: l => encSch v :: encSchL l
def encSchP : List (PK × Sch) → List AV
  | [] => []
  | (k, v) :: f => .agg (.str k.key :: .bool k.req :: (encSch v).cells) :: encSchP f
end
theorem encSchL_map : ∀ l, encSchL l = l.map encSch
  | [] => by simp [encSchL]
  | v :: l => by simp [encSchL, encSchL_map l]
def encPr (x : PK × Sch) : AV := .agg (.str x.1.key :: .bool x.1.req :: (encSch x.2).cells)
theorem encSchP_map : ∀ l, encSchP l = l.map encPr
  | [] => by simp [encSchP]
  | (k, v) :: l => by simp [encSchP, encSchP_map l, encPr]
theorem encSch_eq (v : Sch) : encSch v = .agg [.int .i64 v.s.op, .int .i64 v.s.mask, .int .i64 v.s.min, .int .i64 v.s.max, .str v.s.name, .tsl 11 (v.s.parts.map encPrt), .int .i64 v.s.pat.s.op, .int .i64 v.s.pat.s.lo, .int .i64 v.s.pat.s.hi, .int .i64 v.s.pat.s.min, .int .i64 v.s.pat.s.max, .tsl 6 (v.s.pat.a.map encPat), .tsl 13 (v.s.vals.map encV), .tsl 17 (v.p.map encPr), .tsl 15 (v.a.map encSch)] := by
  cases v with
  | mk s p a => simp [encSch, Sch.s, Sch.p, Sch.a, encSchL_map, encSchP_map, SS.cells]
theorem encPr_eq (x : PK × Sch) : encPr x = .agg [.str x.1.key, .bool x.1.req, .int .i64 x.2.s.op, .int .i64 x.2.s.mask, .int .i64 x.2.s.min, .int .i64 x.2.s.max, .str x.2.s.name, .tsl 11 (x.2.s.parts.map encPrt), .int .i64 x.2.s.pat.s.op, .int .i64 x.2.s.pat.s.lo, .int .i64 x.2.s.pat.s.hi, .int .i64 x.2.s.pat.s.min, .int .i64 x.2.s.pat.s.max, .tsl 6 (x.2.s.pat.a.map encPat), .tsl 13 (x.2.s.vals.map encV), .tsl 17 (x.2.p.map encPr), .tsl 15 (x.2.a.map encSch)] := by
  show AV.agg (.str x.1.key :: .bool x.1.req :: (encSch x.2).cells) = _
  rw [encSch_eq]
  simp only [AV.cells]
def Sch.bulk (v : Sch) : Nat := (encSch v).bulk
theorem Sch.bulk_eq (v : Sch) : v.bulk = v.s.name.length + AV.bulks (v.s.parts.map encPrt) + AV.bulks (v.s.pat.a.map encPat) + AV.bulks (v.s.vals.map encV) + AV.bulks (v.p.map encPr) + AV.bulks (v.a.map encSch) + 16 := by
  unfold Sch.bulk
  rw [encSch_eq]
  simp [AV.bulk, AV.bulks]
  omega
structure Sch.Lens (v : Sch) (N : Nat) : Prop where
  name : v.s.name.length < N
  parts : v.s.parts.length < N
  part : ∀ x, x ∈ v.s.parts → x.lo.num.digits.length < N ∧ x.hi.num.digits.length < N
  pat : v.s.pat.bulk < v.bulk
  vals : v.s.vals.length < N
  val : ∀ x, x ∈ v.s.vals → x.bulk < v.bulk
  props : v.p.length < N
  args : v.a.length < N
  kids : ∀ x, x ∈ v.a → x.bulk < v.bulk
  pkids : ∀ x, x ∈ v.p → x.2.bulk < v.bulk ∧ x.1.key.length < N
theorem Sch.lens {v : Sch} {N : Nat} (h : v.bulk ≤ N) : v.Lens N := by
  have e := v.bulk_eq
  have h1 := bulks_len (v.s.parts.map encPrt)
  have h2 := bulks_len (v.s.vals.map encV)
  have h3 := bulks_len (v.p.map encPr)
  have h4 := bulks_len (v.a.map encSch)
  have h5 := v.s.pat.bulk_eq
  rw [List.length_map] at h1 h2 h3 h4
  refine ⟨by omega, by omega, fun x hx => ?_, by omega, by omega, fun x hx => ?_, by omega, by omega, fun x hx => ?_, fun x hx => ?_⟩
  · have := bulks_mem (List.mem_map_of_mem (f := encPrt) hx)
    rw [encPrt_bulk] at this
    omega
  · have := bulks_mem (List.mem_map_of_mem (f := encV) hx)
    show (encV x).bulk < _
    omega
  · have := bulks_mem (List.mem_map_of_mem (f := encSch) hx)
    show (encSch x).bulk < _
    omega
  · have := bulks_mem (List.mem_map_of_mem (f := encPr) hx)
    have e2 : (encPr x).bulk = x.2.bulk + x.1.key.length + 2 := by
      unfold Sch.bulk encPr
      rw [encSch_eq]
      simp [AV.bulk, AV.bulks, AV.cells]
      omega
    omega
/-- A definition: its name, its schema. -/
def encDef (x : List UInt8 × Sch) : AV := .agg (.str x.1 :: (encSch x.2).cells)
structure Schs where
  defs : List (List UInt8 × Sch)
  root : Sch
def encSchs (s : Schs) : AV := .agg (.tsl 16 (s.defs.map encDef) :: (encSch s.root).cells)
def Schs.bulk (s : Schs) : Nat := (encSchs s).bulk
theorem Schs.bulk_eq (s : Schs) : s.bulk = AV.bulks (s.defs.map encDef) + s.root.bulk + 1 := by
  unfold Schs.bulk Sch.bulk encSchs
  rw [encSch_eq]
  simp [AV.bulk, AV.bulks, AV.cells]
  omega
/-- The schemas in a node. -/
def Sch.kids (v : Sch) : List Sch := v.p.map (·.2) ++ v.a
end Ago
/- Paths: steps of values. -/
set_option maxRecDepth 100000
set_option maxHeartbeats 4000000
namespace Ago
open Go (IntKind)
structure Stp where
  byIndex : Bool
  key : List UInt8
  index : Int
  deriving DecidableEq
end Ago
/- Whole numbers as decimals. -/
set_option maxRecDepth 100000
set_option maxHeartbeats 4000000
namespace Ago
open Go (IntKind)

/-! ### Bytes turned round -/

/-! ### Digits of a number -/

/-! ### Noughts at the end -/

end Ago
/- The head of a loop, where no block has a reference: what is kept can be computed though maps are not told. -/
namespace Ago
def Blk.refam (g : Nat → Nat) : Blk → Blk
  | .row n els ro fl fam => .row n els ro fl (g fam)
  | b => b
def Blk.isRo : Blk → Bool
  | .row _ _ ro _ _ => ro
  | _ => false
/-- A block without references, whatever it holds. -/
def Calm (b : Blk) : Prop := b.refs = [] ∧ (∀ f g, Blk.ren f g b = Blk.refam g b) ∧ b.isRo = false
def Calms (H : Heap) : Prop := ∀ b, b ∈ H → Calm b
theorem Calms.nil : Calms [] := fun b h => by cases h
theorem Calms.cons {b : Blk} {H : Heap} (h1 : Calm b) (h2 : Calms H) : Calms (b :: H) := fun x h => by
  rcases List.mem_cons.1 h with rfl | h
  · exact h1
  · exact h2 x h
end Ago
/- Schemas: the schemas in a node, how many nodes there are. -/
set_option maxRecDepth 100000
set_option maxHeartbeats 4000000
namespace Ago
open Go (IntKind)
end Ago
/- Bits of whole numbers. -/
set_option maxRecDepth 100000
set_option maxHeartbeats 4000000
namespace Ago
open Go (IntKind)

end Ago
/- Layer 3 of the references: text, exactly. -/
set_option maxRecDepth 100000
set_option maxHeartbeats 4000000
namespace Ago
open Go (IntKind)
def charM (r : Int) : Bool := decide (0 ≤ r) && decide (r ≤ 1114111) && (decide (r < 55296) || decide (57343 < r))
/-! ### Decoding -/

def contM (c : UInt8) : Bool := decide (128 ≤ c.toNat) && decide (c.toNat < 192)
def widM (r : Int) : Nat := if r < 128 then 1 else if r < 2048 then 2 else if r < 65536 then 3 else 4
/-- The character of so many bytes, if it is one. -/
def decFin (r : Int) (n : Nat) : Int × Int := if charM r && widM r == n then (r, n) else (0, 0)
def dec2 (b : UInt8) : Option UInt8 → Int × Int
  | some c => if contM c then decFin ((b.toNat - 192) * 64 + (c.toNat - 128)) 2 else (0, 0)
  | none => (0, 0)
def dec3 (b : UInt8) : Option UInt8 → Option UInt8 → Int × Int
  | some c, some d => if contM c && contM d then decFin (((b.toNat - 224) * 64 + (c.toNat - 128)) * 64 + (d.toNat - 128)) 3 else (0, 0)
  | _, _ => (0, 0)
def dec4 (b : UInt8) : Option UInt8 → Option UInt8 → Option UInt8 → Int × Int
  | some c, some d, some e => if contM c && contM d && contM e then decFin ((((b.toNat - 240) * 64 + (c.toNat - 128)) * 64 + (d.toNat - 128)) * 64 + (e.toNat - 128)) 4 else (0, 0)
  | _, _, _ => (0, 0)
def decB (s : List UInt8) (k : Nat) (b : UInt8) : Int × Int :=
  if b.toNat < 128 then (b.toNat, 1)
  else if b.toNat < 192 then (0, 0)
  else if b.toNat < 224 then dec2 b s[k + 1]?
  else if b.toNat < 240 then dec3 b s[k + 1]? s[k + 2]?
  else if b.toNat < 248 then dec4 b s[k + 1]? s[k + 2]? s[k + 3]?
  else (0, 0)
/-- Decode, at an offset within the text. -/
def decM (s : List UInt8) (k : Nat) : Int × Int :=
  match s[k]? with
  | some b => decB s k b
  | none => (0, 0)

end Ago
/- The reference's Decode, exactly. -/
set_option maxRecDepth 100000
set_option maxHeartbeats 4000000
namespace Ago
open Go (IntKind)
end Ago
/- Layer 3 of the references, continued: is it text? -/
set_option maxRecDepth 100000
set_option maxHeartbeats 4000000
namespace Ago
open Go (IntKind)
/-- From an offset on: encodings to the end. -/
def walkU (s : List UInt8) : Nat → Nat → Bool
  | 0, _ => true
  | f + 1, k => if s.length ≤ k then true else if (decM s k).2 = 0 then false else walkU s f (k + (decM s k).2.toNat)
/-- Is it text? (R03.Valid, utf.Valid) -/
def utf (s : List UInt8) : Bool := walkU s (s.length + 1) 0
end Ago
/- Layer 7 of the references: what is wrong with a value. -/
set_option maxRecDepth 100000
set_option maxHeartbeats 4000000
namespace Ago
open Go (IntKind)
/-- Only a list has elements, and only a map fields. -/
def OwnOk (v : V) : Prop := (v.s.kind = 6 ∨ v.l.length = 0) ∧ (v.s.kind = 7 ∨ v.f.length = 0)
end Ago
/- Layer 7 of the references, continued: what is wrong with a value. -/
set_option maxRecDepth 100000
set_option maxHeartbeats 4000000
namespace Ago
open Go (IntKind)

end Ago
/- Layer 7 of the references, continued: how values are walked. -/
set_option maxRecDepth 100000
set_option maxHeartbeats 4000000
namespace Ago
open Go (IntKind)
def V.kids (v : V) : List V := if v.s.kind = 7 then v.f.map (·.2) else v.l

/-- A valid value of so much depth, as far as it matters. -/
inductive Good : Nat → V → Prop where
  | mk {n : Nat} {v : V} (h : decOk v.s.num = true) (ho : OwnOk v) (hk : ∀ x, x ∈ v.kids → Good n x) : Good (n + 1) v

end Ago
/- Layer 7 of the references, continued: how many values there are. -/
set_option maxRecDepth 100000
set_option maxHeartbeats 4000000
namespace Ago
open Go (IntKind)
end Ago
/- Patterns: their size; few nodes, small nodes. -/
set_option maxRecDepth 100000
set_option maxHeartbeats 4000000
namespace Ago
open Go (IntKind)
end Ago
/- The law ValidateDispatches. -/
set_option maxRecDepth 100000
set_option maxHeartbeats 4000000
namespace Ago
open Go (IntKind)
def bitM (m n : Int) : Bool := IntKind.i64.wrap ((BitVec.ofInt 64 (m.fdiv (2 ^ min n.toNat 64)) &&& BitVec.ofInt 64 1).toNat : Int) == 1
def dispM (x : Sch) (n : Int) : Bool :=
  if n < 0 ∨ 7 < n then false
  else if x.s.op = 1 then true
  else if x.s.op = 3 then bitM x.s.mask n
  else if x.s.op = 4 then decide (n = 2)
  else if x.s.op = 5 ∨ x.s.op = 6 ∨ x.s.op = 7 then decide (n = 4)
  else if x.s.op = 8 then x.s.vals.any fun v => decide (v.s.kind = n)
  else if x.s.op = 9 then decide (n = 6)
  else if x.s.op = 10 then decide (n = 7)
  else false
theorem dispatch_run (x : Sch) (hx : x.bulk ≤ 2 ^ 24) (n : Int) : PRun CS 477 [encSch x, .int .i64 n] (.bool (dispM x n)) := by
  have L := Sch.lens hx
  have lv := L.vals
  refine prun_of ac477 rfl ?_
  rw [encSch_eq]
  unfold dispM bitM
  by_cases c : n < 0 ∨ 7 < n
  · rw [if_pos c]
    (repeat' first | simp (disch := omega) only [go_sem, ac477, enter, List.length_map] | (refine wantDf (fun h => ?_) (fun h => ?_) <;> try simp (disch := omega) only [go_sem, ac477, enter, List.length_map, h]) | (refine wantDt (fun h => ?_) (fun h => ?_) <;> try simp (disch := omega) only [go_sem, ac477, enter, List.length_map, h]) | (refine wantEf (fun h => ?_) (fun h => ?_) <;> try simp (disch := omega) only [go_sem, ac477, enter, List.length_map, h]) | (refine wantEt (fun h => ?_) (fun h => ?_) <;> try simp (disch := omega) only [go_sem, ac477, enter, List.length_map, h]) | (refine wantNf (fun h => ?_) (fun h => ?_) <;> try simp (disch := omega) only [go_sem, ac477, enter, List.length_map, h]) | (refine wantNt (fun h => ?_) (fun h => ?_) <;> try simp (disch := omega) only [go_sem, ac477, enter, List.length_map, h]) | (refine wantNBf (fun h => ?_) (fun h => ?_) <;> try simp (disch := omega) only [go_sem, ac477, enter, List.length_map, h]) | (refine wantNBt (fun h => ?_) (fun h => ?_) <;> try simp (disch := omega) only [go_sem, ac477, enter, List.length_map, h]) | (refine wantBf (fun h => ?_) (fun h => ?_) <;> try simp (disch := omega) only [go_sem, ac477, enter, List.length_map, h]) | (refine wantBt (fun h => ?_) (fun h => ?_) <;> try simp (disch := omega) only [go_sem, ac477, enter, List.length_map, h]) | (refine boolD (fun h => ?_) (fun h => ?_) <;> try simp (disch := omega) only [go_sem, ac477, enter, List.length_map, h]) | (refine boolE (fun h => ?_) (fun h => ?_) <;> try simp (disch := omega) only [go_sem, ac477, enter, List.length_map, h]) | (refine boolN (fun h => ?_) (fun h => ?_) <;> try simp (disch := omega) only [go_sem, ac477, enter, List.length_map, h]) | (refine boolNB (fun h => ?_) (fun h => ?_) <;> try simp (disch := omega) only [go_sem, ac477, enter, List.length_map, h]) | (refine boolB (fun h => ?_) (fun h => ?_) <;> try simp (disch := omega) only [go_sem, ac477, enter, List.length_map, h]))
    all_goals omega
  rw [if_neg c]
  have hn0 : ¬ n < 0 := by omega
  have hw : IntKind.u64.wrap n = n := by simp only [IntKind.wrap, IntKind.signed, IntKind.bits, IntKind.min, IntKind.max]; first | omega | (simp; omega)
  by_cases h1 : x.s.op = 1
  · rw [if_pos h1]
    (repeat' first | simp (disch := omega) only [go_sem, ac477, enter, List.length_map] | (refine wantDf (fun h => ?_) (fun h => ?_) <;> try simp (disch := omega) only [go_sem, ac477, enter, List.length_map, h]) | (refine wantDt (fun h => ?_) (fun h => ?_) <;> try simp (disch := omega) only [go_sem, ac477, enter, List.length_map, h]) | (refine wantEf (fun h => ?_) (fun h => ?_) <;> try simp (disch := omega) only [go_sem, ac477, enter, List.length_map, h]) | (refine wantEt (fun h => ?_) (fun h => ?_) <;> try simp (disch := omega) only [go_sem, ac477, enter, List.length_map, h]) | (refine wantNf (fun h => ?_) (fun h => ?_) <;> try simp (disch := omega) only [go_sem, ac477, enter, List.length_map, h]) | (refine wantNt (fun h => ?_) (fun h => ?_) <;> try simp (disch := omega) only [go_sem, ac477, enter, List.length_map, h]) | (refine wantNBf (fun h => ?_) (fun h => ?_) <;> try simp (disch := omega) only [go_sem, ac477, enter, List.length_map, h]) | (refine wantNBt (fun h => ?_) (fun h => ?_) <;> try simp (disch := omega) only [go_sem, ac477, enter, List.length_map, h]) | (refine wantBf (fun h => ?_) (fun h => ?_) <;> try simp (disch := omega) only [go_sem, ac477, enter, List.length_map, h]) | (refine wantBt (fun h => ?_) (fun h => ?_) <;> try simp (disch := omega) only [go_sem, ac477, enter, List.length_map, h]) | (refine boolD (fun h => ?_) (fun h => ?_) <;> try simp (disch := omega) only [go_sem, ac477, enter, List.length_map, h]) | (refine boolE (fun h => ?_) (fun h => ?_) <;> try simp (disch := omega) only [go_sem, ac477, enter, List.length_map, h]) | (refine boolN (fun h => ?_) (fun h => ?_) <;> try simp (disch := omega) only [go_sem, ac477, enter, List.length_map, h]) | (refine boolNB (fun h => ?_) (fun h => ?_) <;> try simp (disch := omega) only [go_sem, ac477, enter, List.length_map, h]) | (refine boolB (fun h => ?_) (fun h => ?_) <;> try simp (disch := omega) only [go_sem, ac477, enter, List.length_map, h]))
    all_goals omega
  rw [if_neg h1]
  by_cases h3 : x.s.op = 3
  · rw [if_pos h3]
    (repeat' first | simp (disch := omega) only [go_sem, ac477, enter, List.length_map, hw, if_neg hn0] | (refine wantDf (fun h => ?_) (fun h => ?_) <;> try simp (disch := omega) only [go_sem, ac477, enter, List.length_map, hw, if_neg hn0, h]) | (refine wantDt (fun h => ?_) (fun h => ?_) <;> try simp (disch := omega) only [go_sem, ac477, enter, List.length_map, hw, if_neg hn0, h]) | (refine wantEf (fun h => ?_) (fun h => ?_) <;> try simp (disch := omega) only [go_sem, ac477, enter, List.length_map, hw, if_neg hn0, h]) | (refine wantEt (fun h => ?_) (fun h => ?_) <;> try simp (disch := omega) only [go_sem, ac477, enter, List.length_map, hw, if_neg hn0, h]) | (refine wantNf (fun h => ?_) (fun h => ?_) <;> try simp (disch := omega) only [go_sem, ac477, enter, List.length_map, hw, if_neg hn0, h]) | (refine wantNt (fun h => ?_) (fun h => ?_) <;> try simp (disch := omega) only [go_sem, ac477, enter, List.length_map, hw, if_neg hn0, h]) | (refine wantNBf (fun h => ?_) (fun h => ?_) <;> try simp (disch := omega) only [go_sem, ac477, enter, List.length_map, hw, if_neg hn0, h]) | (refine wantNBt (fun h => ?_) (fun h => ?_) <;> try simp (disch := omega) only [go_sem, ac477, enter, List.length_map, hw, if_neg hn0, h]) | (refine wantBf (fun h => ?_) (fun h => ?_) <;> try simp (disch := omega) only [go_sem, ac477, enter, List.length_map, hw, if_neg hn0, h]) | (refine wantBt (fun h => ?_) (fun h => ?_) <;> try simp (disch := omega) only [go_sem, ac477, enter, List.length_map, hw, if_neg hn0, h]) | (refine boolD (fun h => ?_) (fun h => ?_) <;> try simp (disch := omega) only [go_sem, ac477, enter, List.length_map, hw, if_neg hn0, h]) | (refine boolE (fun h => ?_) (fun h => ?_) <;> try simp (disch := omega) only [go_sem, ac477, enter, List.length_map, hw, if_neg hn0, h]) | (refine boolN (fun h => ?_) (fun h => ?_) <;> try simp (disch := omega) only [go_sem, ac477, enter, List.length_map, hw, if_neg hn0, h]) | (refine boolNB (fun h => ?_) (fun h => ?_) <;> try simp (disch := omega) only [go_sem, ac477, enter, List.length_map, hw, if_neg hn0, h]) | (refine boolB (fun h => ?_) (fun h => ?_) <;> try simp (disch := omega) only [go_sem, ac477, enter, List.length_map, hw, if_neg hn0, h]))
    all_goals first | omega | rfl | skip
  rw [if_neg h3]
  by_cases h4 : x.s.op = 4
  · rw [if_pos h4]
    by_cases h : n = 2
    · rw [decide_eq_true h]
      (repeat' first | simp (disch := omega) only [go_sem, ac477, enter, List.length_map] | (refine wantDf (fun h => ?_) (fun h => ?_) <;> try simp (disch := omega) only [go_sem, ac477, enter, List.length_map, h]) | (refine wantDt (fun h => ?_) (fun h => ?_) <;> try simp (disch := omega) only [go_sem, ac477, enter, List.length_map, h]) | (refine wantEf (fun h => ?_) (fun h => ?_) <;> try simp (disch := omega) only [go_sem, ac477, enter, List.length_map, h]) | (refine wantEt (fun h => ?_) (fun h => ?_) <;> try simp (disch := omega) only [go_sem, ac477, enter, List.length_map, h]) | (refine wantNf (fun h => ?_) (fun h => ?_) <;> try simp (disch := omega) only [go_sem, ac477, enter, List.length_map, h]) | (refine wantNt (fun h => ?_) (fun h => ?_) <;> try simp (disch := omega) only [go_sem, ac477, enter, List.length_map, h]) | (refine wantNBf (fun h => ?_) (fun h => ?_) <;> try simp (disch := omega) only [go_sem, ac477, enter, List.length_map, h]) | (refine wantNBt (fun h => ?_) (fun h => ?_) <;> try simp (disch := omega) only [go_sem, ac477, enter, List.length_map, h]) | (refine wantBf (fun h => ?_) (fun h => ?_) <;> try simp (disch := omega) only [go_sem, ac477, enter, List.length_map, h]) | (refine wantBt (fun h => ?_) (fun h => ?_) <;> try simp (disch := omega) only [go_sem, ac477, enter, List.length_map, h]) | (refine boolD (fun h => ?_) (fun h => ?_) <;> try simp (disch := omega) only [go_sem, ac477, enter, List.length_map, h]) | (refine boolE (fun h => ?_) (fun h => ?_) <;> try simp (disch := omega) only [go_sem, ac477, enter, List.length_map, h]) | (refine boolN (fun h => ?_) (fun h => ?_) <;> try simp (disch := omega) only [go_sem, ac477, enter, List.length_map, h]) | (refine boolNB (fun h => ?_) (fun h => ?_) <;> try simp (disch := omega) only [go_sem, ac477, enter, List.length_map, h]) | (refine boolB (fun h => ?_) (fun h => ?_) <;> try simp (disch := omega) only [go_sem, ac477, enter, List.length_map, h]))
      all_goals omega
    · rw [decide_eq_false h]
      (repeat' first | simp (disch := omega) only [go_sem, ac477, enter, List.length_map] | (refine wantDf (fun h => ?_) (fun h => ?_) <;> try simp (disch := omega) only [go_sem, ac477, enter, List.length_map, h]) | (refine wantDt (fun h => ?_) (fun h => ?_) <;> try simp (disch := omega) only [go_sem, ac477, enter, List.length_map, h]) | (refine wantEf (fun h => ?_) (fun h => ?_) <;> try simp (disch := omega) only [go_sem, ac477, enter, List.length_map, h]) | (refine wantEt (fun h => ?_) (fun h => ?_) <;> try simp (disch := omega) only [go_sem, ac477, enter, List.length_map, h]) | (refine wantNf (fun h => ?_) (fun h => ?_) <;> try simp (disch := omega) only [go_sem, ac477, enter, List.length_map, h]) | (refine wantNt (fun h => ?_) (fun h => ?_) <;> try simp (disch := omega) only [go_sem, ac477, enter, List.length_map, h]) | (refine wantNBf (fun h => ?_) (fun h => ?_) <;> try simp (disch := omega) only [go_sem, ac477, enter, List.length_map, h]) | (refine wantNBt (fun h => ?_) (fun h => ?_) <;> try simp (disch := omega) only [go_sem, ac477, enter, List.length_map, h]) | (refine wantBf (fun h => ?_) (fun h => ?_) <;> try simp (disch := omega) only [go_sem, ac477, enter, List.length_map, h]) | (refine wantBt (fun h => ?_) (fun h => ?_) <;> try simp (disch := omega) only [go_sem, ac477, enter, List.length_map, h]) | (refine boolD (fun h => ?_) (fun h => ?_) <;> try simp (disch := omega) only [go_sem, ac477, enter, List.length_map, h]) | (refine boolE (fun h => ?_) (fun h => ?_) <;> try simp (disch := omega) only [go_sem, ac477, enter, List.length_map, h]) | (refine boolN (fun h => ?_) (fun h => ?_) <;> try simp (disch := omega) only [go_sem, ac477, enter, List.length_map, h]) | (refine boolNB (fun h => ?_) (fun h => ?_) <;> try simp (disch := omega) only [go_sem, ac477, enter, List.length_map, h]) | (refine boolB (fun h => ?_) (fun h => ?_) <;> try simp (disch := omega) only [go_sem, ac477, enter, List.length_map, h]))
      all_goals omega
  rw [if_neg h4]
  by_cases h5 : x.s.op = 5 ∨ x.s.op = 6 ∨ x.s.op = 7
  · rw [if_pos h5]
    by_cases h : n = 4
    · rw [decide_eq_true h]
      (repeat' first | simp (disch := omega) only [go_sem, ac477, enter, List.length_map] | (refine wantDf (fun h => ?_) (fun h => ?_) <;> try simp (disch := omega) only [go_sem, ac477, enter, List.length_map, h]) | (refine wantDt (fun h => ?_) (fun h => ?_) <;> try simp (disch := omega) only [go_sem, ac477, enter, List.length_map, h]) | (refine wantEf (fun h => ?_) (fun h => ?_) <;> try simp (disch := omega) only [go_sem, ac477, enter, List.length_map, h]) | (refine wantEt (fun h => ?_) (fun h => ?_) <;> try simp (disch := omega) only [go_sem, ac477, enter, List.length_map, h]) | (refine wantNf (fun h => ?_) (fun h => ?_) <;> try simp (disch := omega) only [go_sem, ac477, enter, List.length_map, h]) | (refine wantNt (fun h => ?_) (fun h => ?_) <;> try simp (disch := omega) only [go_sem, ac477, enter, List.length_map, h]) | (refine wantNBf (fun h => ?_) (fun h => ?_) <;> try simp (disch := omega) only [go_sem, ac477, enter, List.length_map, h]) | (refine wantNBt (fun h => ?_) (fun h => ?_) <;> try simp (disch := omega) only [go_sem, ac477, enter, List.length_map, h]) | (refine wantBf (fun h => ?_) (fun h => ?_) <;> try simp (disch := omega) only [go_sem, ac477, enter, List.length_map, h]) | (refine wantBt (fun h => ?_) (fun h => ?_) <;> try simp (disch := omega) only [go_sem, ac477, enter, List.length_map, h]) | (refine boolD (fun h => ?_) (fun h => ?_) <;> try simp (disch := omega) only [go_sem, ac477, enter, List.length_map, h]) | (refine boolE (fun h => ?_) (fun h => ?_) <;> try simp (disch := omega) only [go_sem, ac477, enter, List.length_map, h]) | (refine boolN (fun h => ?_) (fun h => ?_) <;> try simp (disch := omega) only [go_sem, ac477, enter, List.length_map, h]) | (refine boolNB (fun h => ?_) (fun h => ?_) <;> try simp (disch := omega) only [go_sem, ac477, enter, List.length_map, h]) | (refine boolB (fun h => ?_) (fun h => ?_) <;> try simp (disch := omega) only [go_sem, ac477, enter, List.length_map, h]))
      all_goals omega
    · rw [decide_eq_false h]
      (repeat' first | simp (disch := omega) only [go_sem, ac477, enter, List.length_map] | (refine wantDf (fun h => ?_) (fun h => ?_) <;> try simp (disch := omega) only [go_sem, ac477, enter, List.length_map, h]) | (refine wantDt (fun h => ?_) (fun h => ?_) <;> try simp (disch := omega) only [go_sem, ac477, enter, List.length_map, h]) | (refine wantEf (fun h => ?_) (fun h => ?_) <;> try simp (disch := omega) only [go_sem, ac477, enter, List.length_map, h]) | (refine wantEt (fun h => ?_) (fun h => ?_) <;> try simp (disch := omega) only [go_sem, ac477, enter, List.length_map, h]) | (refine wantNf (fun h => ?_) (fun h => ?_) <;> try simp (disch := omega) only [go_sem, ac477, enter, List.length_map, h]) | (refine wantNt (fun h => ?_) (fun h => ?_) <;> try simp (disch := omega) only [go_sem, ac477, enter, List.length_map, h]) | (refine wantNBf (fun h => ?_) (fun h => ?_) <;> try simp (disch := omega) only [go_sem, ac477, enter, List.length_map, h]) | (refine wantNBt (fun h => ?_) (fun h => ?_) <;> try simp (disch := omega) only [go_sem, ac477, enter, List.length_map, h]) | (refine wantBf (fun h => ?_) (fun h => ?_) <;> try simp (disch := omega) only [go_sem, ac477, enter, List.length_map, h]) | (refine wantBt (fun h => ?_) (fun h => ?_) <;> try simp (disch := omega) only [go_sem, ac477, enter, List.length_map, h]) | (refine boolD (fun h => ?_) (fun h => ?_) <;> try simp (disch := omega) only [go_sem, ac477, enter, List.length_map, h]) | (refine boolE (fun h => ?_) (fun h => ?_) <;> try simp (disch := omega) only [go_sem, ac477, enter, List.length_map, h]) | (refine boolN (fun h => ?_) (fun h => ?_) <;> try simp (disch := omega) only [go_sem, ac477, enter, List.length_map, h]) | (refine boolNB (fun h => ?_) (fun h => ?_) <;> try simp (disch := omega) only [go_sem, ac477, enter, List.length_map, h]) | (refine boolB (fun h => ?_) (fun h => ?_) <;> try simp (disch := omega) only [go_sem, ac477, enter, List.length_map, h]))
      all_goals omega
  rw [if_neg h5]
  by_cases h9 : x.s.op = 9
  · rw [if_neg (by omega : ¬ x.s.op = 8), if_pos h9]
    by_cases h : n = 6
    · rw [decide_eq_true h]
      (repeat' first | simp (disch := omega) only [go_sem, ac477, enter, List.length_map] | (refine wantDf (fun h => ?_) (fun h => ?_) <;> try simp (disch := omega) only [go_sem, ac477, enter, List.length_map, h]) | (refine wantDt (fun h => ?_) (fun h => ?_) <;> try simp (disch := omega) only [go_sem, ac477, enter, List.length_map, h]) | (refine wantEf (fun h => ?_) (fun h => ?_) <;> try simp (disch := omega) only [go_sem, ac477, enter, List.length_map, h]) | (refine wantEt (fun h => ?_) (fun h => ?_) <;> try simp (disch := omega) only [go_sem, ac477, enter, List.length_map, h]) | (refine wantNf (fun h => ?_) (fun h => ?_) <;> try simp (disch := omega) only [go_sem, ac477, enter, List.length_map, h]) | (refine wantNt (fun h => ?_) (fun h => ?_) <;> try simp (disch := omega) only [go_sem, ac477, enter, List.length_map, h]) | (refine wantNBf (fun h => ?_) (fun h => ?_) <;> try simp (disch := omega) only [go_sem, ac477, enter, List.length_map, h]) | (refine wantNBt (fun h => ?_) (fun h => ?_) <;> try simp (disch := omega) only [go_sem, ac477, enter, List.length_map, h]) | (refine wantBf (fun h => ?_) (fun h => ?_) <;> try simp (disch := omega) only [go_sem, ac477, enter, List.length_map, h]) | (refine wantBt (fun h => ?_) (fun h => ?_) <;> try simp (disch := omega) only [go_sem, ac477, enter, List.length_map, h]) | (refine boolD (fun h => ?_) (fun h => ?_) <;> try simp (disch := omega) only [go_sem, ac477, enter, List.length_map, h]) | (refine boolE (fun h => ?_) (fun h => ?_) <;> try simp (disch := omega) only [go_sem, ac477, enter, List.length_map, h]) | (refine boolN (fun h => ?_) (fun h => ?_) <;> try simp (disch := omega) only [go_sem, ac477, enter, List.length_map, h]) | (refine boolNB (fun h => ?_) (fun h => ?_) <;> try simp (disch := omega) only [go_sem, ac477, enter, List.length_map, h]) | (refine boolB (fun h => ?_) (fun h => ?_) <;> try simp (disch := omega) only [go_sem, ac477, enter, List.length_map, h]))
      all_goals omega
    · rw [decide_eq_false h]
      (repeat' first | simp (disch := omega) only [go_sem, ac477, enter, List.length_map] | (refine wantDf (fun h => ?_) (fun h => ?_) <;> try simp (disch := omega) only [go_sem, ac477, enter, List.length_map, h]) | (refine wantDt (fun h => ?_) (fun h => ?_) <;> try simp (disch := omega) only [go_sem, ac477, enter, List.length_map, h]) | (refine wantEf (fun h => ?_) (fun h => ?_) <;> try simp (disch := omega) only [go_sem, ac477, enter, List.length_map, h]) | (refine wantEt (fun h => ?_) (fun h => ?_) <;> try simp (disch := omega) only [go_sem, ac477, enter, List.length_map, h]) | (refine wantNf (fun h => ?_) (fun h => ?_) <;> try simp (disch := omega) only [go_sem, ac477, enter, List.length_map, h]) | (refine wantNt (fun h => ?_) (fun h => ?_) <;> try simp (disch := omega) only [go_sem, ac477, enter, List.length_map, h]) | (refine wantNBf (fun h => ?_) (fun h => ?_) <;> try simp (disch := omega) only [go_sem, ac477, enter, List.length_map, h]) | (refine wantNBt (fun h => ?_) (fun h => ?_) <;> try simp (disch := omega) only [go_sem, ac477, enter, List.length_map, h]) | (refine wantBf (fun h => ?_) (fun h => ?_) <;> try simp (disch := omega) only [go_sem, ac477, enter, List.length_map, h]) | (refine wantBt (fun h => ?_) (fun h => ?_) <;> try simp (disch := omega) only [go_sem, ac477, enter, List.length_map, h]) | (refine boolD (fun h => ?_) (fun h => ?_) <;> try simp (disch := omega) only [go_sem, ac477, enter, List.length_map, h]) | (refine boolE (fun h => ?_) (fun h => ?_) <;> try simp (disch := omega) only [go_sem, ac477, enter, List.length_map, h]) | (refine boolN (fun h => ?_) (fun h => ?_) <;> try simp (disch := omega) only [go_sem, ac477, enter, List.length_map, h]) | (refine boolNB (fun h => ?_) (fun h => ?_) <;> try simp (disch := omega) only [go_sem, ac477, enter, List.length_map, h]) | (refine boolB (fun h => ?_) (fun h => ?_) <;> try simp (disch := omega) only [go_sem, ac477, enter, List.length_map, h]))
      all_goals omega
  by_cases h10 : x.s.op = 10
  · rw [if_neg (by omega : ¬ x.s.op = 8), if_neg h9, if_pos h10]
    by_cases h : n = 7
    · rw [decide_eq_true h]
      (repeat' first | simp (disch := omega) only [go_sem, ac477, enter, List.length_map] | (refine wantDf (fun h => ?_) (fun h => ?_) <;> try simp (disch := omega) only [go_sem, ac477, enter, List.length_map, h]) | (refine wantDt (fun h => ?_) (fun h => ?_) <;> try simp (disch := omega) only [go_sem, ac477, enter, List.length_map, h]) | (refine wantEf (fun h => ?_) (fun h => ?_) <;> try simp (disch := omega) only [go_sem, ac477, enter, List.length_map, h]) | (refine wantEt (fun h => ?_) (fun h => ?_) <;> try simp (disch := omega) only [go_sem, ac477, enter, List.length_map, h]) | (refine wantNf (fun h => ?_) (fun h => ?_) <;> try simp (disch := omega) only [go_sem, ac477, enter, List.length_map, h]) | (refine wantNt (fun h => ?_) (fun h => ?_) <;> try simp (disch := omega) only [go_sem, ac477, enter, List.length_map, h]) | (refine wantNBf (fun h => ?_) (fun h => ?_) <;> try simp (disch := omega) only [go_sem, ac477, enter, List.length_map, h]) | (refine wantNBt (fun h => ?_) (fun h => ?_) <;> try simp (disch := omega) only [go_sem, ac477, enter, List.length_map, h]) | (refine wantBf (fun h => ?_) (fun h => ?_) <;> try simp (disch := omega) only [go_sem, ac477, enter, List.length_map, h]) | (refine wantBt (fun h => ?_) (fun h => ?_) <;> try simp (disch := omega) only [go_sem, ac477, enter, List.length_map, h]) | (refine boolD (fun h => ?_) (fun h => ?_) <;> try simp (disch := omega) only [go_sem, ac477, enter, List.length_map, h]) | (refine boolE (fun h => ?_) (fun h => ?_) <;> try simp (disch := omega) only [go_sem, ac477, enter, List.length_map, h]) | (refine boolN (fun h => ?_) (fun h => ?_) <;> try simp (disch := omega) only [go_sem, ac477, enter, List.length_map, h]) | (refine boolNB (fun h => ?_) (fun h => ?_) <;> try simp (disch := omega) only [go_sem, ac477, enter, List.length_map, h]) | (refine boolB (fun h => ?_) (fun h => ?_) <;> try simp (disch := omega) only [go_sem, ac477, enter, List.length_map, h]))
      all_goals omega
    · rw [decide_eq_false h]
      (repeat' first | simp (disch := omega) only [go_sem, ac477, enter, List.length_map] | (refine wantDf (fun h => ?_) (fun h => ?_) <;> try simp (disch := omega) only [go_sem, ac477, enter, List.length_map, h]) | (refine wantDt (fun h => ?_) (fun h => ?_) <;> try simp (disch := omega) only [go_sem, ac477, enter, List.length_map, h]) | (refine wantEf (fun h => ?_) (fun h => ?_) <;> try simp (disch := omega) only [go_sem, ac477, enter, List.length_map, h]) | (refine wantEt (fun h => ?_) (fun h => ?_) <;> try simp (disch := omega) only [go_sem, ac477, enter, List.length_map, h]) | (refine wantNf (fun h => ?_) (fun h => ?_) <;> try simp (disch := omega) only [go_sem, ac477, enter, List.length_map, h]) | (refine wantNt (fun h => ?_) (fun h => ?_) <;> try simp (disch := omega) only [go_sem, ac477, enter, List.length_map, h]) | (refine wantNBf (fun h => ?_) (fun h => ?_) <;> try simp (disch := omega) only [go_sem, ac477, enter, List.length_map, h]) | (refine wantNBt (fun h => ?_) (fun h => ?_) <;> try simp (disch := omega) only [go_sem, ac477, enter, List.length_map, h]) | (refine wantBf (fun h => ?_) (fun h => ?_) <;> try simp (disch := omega) only [go_sem, ac477, enter, List.length_map, h]) | (refine wantBt (fun h => ?_) (fun h => ?_) <;> try simp (disch := omega) only [go_sem, ac477, enter, List.length_map, h]) | (refine boolD (fun h => ?_) (fun h => ?_) <;> try simp (disch := omega) only [go_sem, ac477, enter, List.length_map, h]) | (refine boolE (fun h => ?_) (fun h => ?_) <;> try simp (disch := omega) only [go_sem, ac477, enter, List.length_map, h]) | (refine boolN (fun h => ?_) (fun h => ?_) <;> try simp (disch := omega) only [go_sem, ac477, enter, List.length_map, h]) | (refine boolNB (fun h => ?_) (fun h => ?_) <;> try simp (disch := omega) only [go_sem, ac477, enter, List.length_map, h]) | (refine boolB (fun h => ?_) (fun h => ?_) <;> try simp (disch := omega) only [go_sem, ac477, enter, List.length_map, h]))
      all_goals omega
  rw [if_neg h9, if_neg h10]
  by_cases h8 : x.s.op = 8
  case neg =>
    rw [if_neg h8]
    (repeat' first | simp (disch := omega) only [go_sem, ac477, enter, List.length_map] | (refine wantDf (fun h => ?_) (fun h => ?_) <;> try simp (disch := omega) only [go_sem, ac477, enter, List.length_map, h]) | (refine wantDt (fun h => ?_) (fun h => ?_) <;> try simp (disch := omega) only [go_sem, ac477, enter, List.length_map, h]) | (refine wantEf (fun h => ?_) (fun h => ?_) <;> try simp (disch := omega) only [go_sem, ac477, enter, List.length_map, h]) | (refine wantEt (fun h => ?_) (fun h => ?_) <;> try simp (disch := omega) only [go_sem, ac477, enter, List.length_map, h]) | (refine wantNf (fun h => ?_) (fun h => ?_) <;> try simp (disch := omega) only [go_sem, ac477, enter, List.length_map, h]) | (refine wantNt (fun h => ?_) (fun h => ?_) <;> try simp (disch := omega) only [go_sem, ac477, enter, List.length_map, h]) | (refine wantNBf (fun h => ?_) (fun h => ?_) <;> try simp (disch := omega) only [go_sem, ac477, enter, List.length_map, h]) | (refine wantNBt (fun h => ?_) (fun h => ?_) <;> try simp (disch := omega) only [go_sem, ac477, enter, List.length_map, h]) | (refine wantBf (fun h => ?_) (fun h => ?_) <;> try simp (disch := omega) only [go_sem, ac477, enter, List.length_map, h]) | (refine wantBt (fun h => ?_) (fun h => ?_) <;> try simp (disch := omega) only [go_sem, ac477, enter, List.length_map, h]) | (refine boolD (fun h => ?_) (fun h => ?_) <;> try simp (disch := omega) only [go_sem, ac477, enter, List.length_map, h]) | (refine boolE (fun h => ?_) (fun h => ?_) <;> try simp (disch := omega) only [go_sem, ac477, enter, List.length_map, h]) | (refine boolN (fun h => ?_) (fun h => ?_) <;> try simp (disch := omega) only [go_sem, ac477, enter, List.length_map, h]) | (refine boolNB (fun h => ?_) (fun h => ?_) <;> try simp (disch := omega) only [go_sem, ac477, enter, List.length_map, h]) | (refine boolB (fun h => ?_) (fun h => ?_) <;> try simp (disch := omega) only [go_sem, ac477, enter, List.length_map, h]))
    all_goals omega
  rw [if_pos h8]
  (repeat' first | simp (disch := omega) only [go_sem, ac477, enter, List.length_map] | (refine wantDf (fun h => ?_) (fun h => ?_) <;> try simp (disch := omega) only [go_sem, ac477, enter, List.length_map, h]) | (refine wantDt (fun h => ?_) (fun h => ?_) <;> try simp (disch := omega) only [go_sem, ac477, enter, List.length_map, h]) | (refine wantEf (fun h => ?_) (fun h => ?_) <;> try simp (disch := omega) only [go_sem, ac477, enter, List.length_map, h]) | (refine wantEt (fun h => ?_) (fun h => ?_) <;> try simp (disch := omega) only [go_sem, ac477, enter, List.length_map, h]) | (refine wantNf (fun h => ?_) (fun h => ?_) <;> try simp (disch := omega) only [go_sem, ac477, enter, List.length_map, h]) | (refine wantNt (fun h => ?_) (fun h => ?_) <;> try simp (disch := omega) only [go_sem, ac477, enter, List.length_map, h]) | (refine wantNBf (fun h => ?_) (fun h => ?_) <;> try simp (disch := omega) only [go_sem, ac477, enter, List.length_map, h]) | (refine wantNBt (fun h => ?_) (fun h => ?_) <;> try simp (disch := omega) only [go_sem, ac477, enter, List.length_map, h]) | (refine wantBf (fun h => ?_) (fun h => ?_) <;> try simp (disch := omega) only [go_sem, ac477, enter, List.length_map, h]) | (refine wantBt (fun h => ?_) (fun h => ?_) <;> try simp (disch := omega) only [go_sem, ac477, enter, List.length_map, h]) | (refine boolD (fun h => ?_) (fun h => ?_) <;> try simp (disch := omega) only [go_sem, ac477, enter, List.length_map, h]) | (refine boolE (fun h => ?_) (fun h => ?_) <;> try simp (disch := omega) only [go_sem, ac477, enter, List.length_map, h]) | (refine boolN (fun h => ?_) (fun h => ?_) <;> try simp (disch := omega) only [go_sem, ac477, enter, List.length_map, h]) | (refine boolNB (fun h => ?_) (fun h => ?_) <;> try simp (disch := omega) only [go_sem, ac477, enter, List.length_map, h]) | (refine boolB (fun h => ?_) (fun h => ?_) <;> try simp (disch := omega) only [go_sem, ac477, enter, List.length_map, h]))
  all_goals try omega
  refine loop_of (α := Nat) (fun a => { tmps := slots 58 [(1, .int .i64 n), (39, .tsl 13 (x.s.vals.map encV)), (40, .int .i64 x.s.vals.length), (41, .int .i64 a)], heap := [], base := 0 }) (fun a => a ≤ x.s.vals.length ∧ ((x.s.vals.take a).any fun v => decide (v.s.kind = n)) = false) (fun a => x.s.vals.length - a) 0 rfl ⟨Nat.zero_le _, by simp⟩ ?_
  intro k ⟨hk, hno⟩
  by_cases hlt : k < x.s.vals.length
  · obtain ⟨y, hy⟩ := get_some hlt
    have hym := List.mem_of_getElem? hy
    have hy2 := map_get (g := encV) hy
    rw [encV_eq] at hy2
    by_cases hkd : y.s.kind = n
    · have ha : (x.s.vals.any fun v => decide (v.s.kind = n)) = true := List.any_eq_true.2 ⟨y, hym, by simp [hkd]⟩
      rw [ha]
      (repeat' first | simp (disch := omega) only [go_sem, hy2, List.length_map] | (refine wantDf (fun h => ?_) (fun h => ?_) <;> try simp (disch := omega) only [go_sem, hy2, List.length_map, h]) | (refine wantDt (fun h => ?_) (fun h => ?_) <;> try simp (disch := omega) only [go_sem, hy2, List.length_map, h]) | (refine wantEf (fun h => ?_) (fun h => ?_) <;> try simp (disch := omega) only [go_sem, hy2, List.length_map, h]) | (refine wantEt (fun h => ?_) (fun h => ?_) <;> try simp (disch := omega) only [go_sem, hy2, List.length_map, h]) | (refine wantNf (fun h => ?_) (fun h => ?_) <;> try simp (disch := omega) only [go_sem, hy2, List.length_map, h]) | (refine wantNt (fun h => ?_) (fun h => ?_) <;> try simp (disch := omega) only [go_sem, hy2, List.length_map, h]) | (refine wantNBf (fun h => ?_) (fun h => ?_) <;> try simp (disch := omega) only [go_sem, hy2, List.length_map, h]) | (refine wantNBt (fun h => ?_) (fun h => ?_) <;> try simp (disch := omega) only [go_sem, hy2, List.length_map, h]) | (refine wantBf (fun h => ?_) (fun h => ?_) <;> try simp (disch := omega) only [go_sem, hy2, List.length_map, h]) | (refine wantBt (fun h => ?_) (fun h => ?_) <;> try simp (disch := omega) only [go_sem, hy2, List.length_map, h]) | (refine boolD (fun h => ?_) (fun h => ?_) <;> try simp (disch := omega) only [go_sem, hy2, List.length_map, h]) | (refine boolE (fun h => ?_) (fun h => ?_) <;> try simp (disch := omega) only [go_sem, hy2, List.length_map, h]) | (refine boolN (fun h => ?_) (fun h => ?_) <;> try simp (disch := omega) only [go_sem, hy2, List.length_map, h]) | (refine boolNB (fun h => ?_) (fun h => ?_) <;> try simp (disch := omega) only [go_sem, hy2, List.length_map, h]) | (refine boolB (fun h => ?_) (fun h => ?_) <;> try simp (disch := omega) only [go_sem, hy2, List.length_map, h]))
      all_goals omega
    · (repeat' first | simp (disch := omega) only [go_sem, hy2, List.length_map] | (refine wantDf (fun h => ?_) (fun h => ?_) <;> try simp (disch := omega) only [go_sem, hy2, List.length_map, h]) | (refine wantDt (fun h => ?_) (fun h => ?_) <;> try simp (disch := omega) only [go_sem, hy2, List.length_map, h]) | (refine wantEf (fun h => ?_) (fun h => ?_) <;> try simp (disch := omega) only [go_sem, hy2, List.length_map, h]) | (refine wantEt (fun h => ?_) (fun h => ?_) <;> try simp (disch := omega) only [go_sem, hy2, List.length_map, h]) | (refine wantNf (fun h => ?_) (fun h => ?_) <;> try simp (disch := omega) only [go_sem, hy2, List.length_map, h]) | (refine wantNt (fun h => ?_) (fun h => ?_) <;> try simp (disch := omega) only [go_sem, hy2, List.length_map, h]) | (refine wantNBf (fun h => ?_) (fun h => ?_) <;> try simp (disch := omega) only [go_sem, hy2, List.length_map, h]) | (refine wantNBt (fun h => ?_) (fun h => ?_) <;> try simp (disch := omega) only [go_sem, hy2, List.length_map, h]) | (refine wantBf (fun h => ?_) (fun h => ?_) <;> try simp (disch := omega) only [go_sem, hy2, List.length_map, h]) | (refine wantBt (fun h => ?_) (fun h => ?_) <;> try simp (disch := omega) only [go_sem, hy2, List.length_map, h]) | (refine boolD (fun h => ?_) (fun h => ?_) <;> try simp (disch := omega) only [go_sem, hy2, List.length_map, h]) | (refine boolE (fun h => ?_) (fun h => ?_) <;> try simp (disch := omega) only [go_sem, hy2, List.length_map, h]) | (refine boolN (fun h => ?_) (fun h => ?_) <;> try simp (disch := omega) only [go_sem, hy2, List.length_map, h]) | (refine boolNB (fun h => ?_) (fun h => ?_) <;> try simp (disch := omega) only [go_sem, hy2, List.length_map, h]) | (refine boolB (fun h => ?_) (fun h => ?_) <;> try simp (disch := omega) only [go_sem, hy2, List.length_map, h]))
      all_goals try omega
      refine ⟨k + 1, rfl, ⟨hlt, ?_⟩, by omega⟩
      rw [List.take_add_one, hy, List.any_append, hno]
      simp [hkd]
  · have hk2 : k = x.s.vals.length := by omega
    rw [hk2, List.take_length] at hno
    rw [hno]
    (repeat' first | simp (disch := omega) only [go_sem, List.length_map] | (refine wantDf (fun h => ?_) (fun h => ?_) <;> try simp (disch := omega) only [go_sem, List.length_map, h]) | (refine wantDt (fun h => ?_) (fun h => ?_) <;> try simp (disch := omega) only [go_sem, List.length_map, h]) | (refine wantEf (fun h => ?_) (fun h => ?_) <;> try simp (disch := omega) only [go_sem, List.length_map, h]) | (refine wantEt (fun h => ?_) (fun h => ?_) <;> try simp (disch := omega) only [go_sem, List.length_map, h]) | (refine wantNf (fun h => ?_) (fun h => ?_) <;> try simp (disch := omega) only [go_sem, List.length_map, h]) | (refine wantNt (fun h => ?_) (fun h => ?_) <;> try simp (disch := omega) only [go_sem, List.length_map, h]) | (refine wantNBf (fun h => ?_) (fun h => ?_) <;> try simp (disch := omega) only [go_sem, List.length_map, h]) | (refine wantNBt (fun h => ?_) (fun h => ?_) <;> try simp (disch := omega) only [go_sem, List.length_map, h]) | (refine wantBf (fun h => ?_) (fun h => ?_) <;> try simp (disch := omega) only [go_sem, List.length_map, h]) | (refine wantBt (fun h => ?_) (fun h => ?_) <;> try simp (disch := omega) only [go_sem, List.length_map, h]) | (refine boolD (fun h => ?_) (fun h => ?_) <;> try simp (disch := omega) only [go_sem, List.length_map, h]) | (refine boolE (fun h => ?_) (fun h => ?_) <;> try simp (disch := omega) only [go_sem, List.length_map, h]) | (refine boolN (fun h => ?_) (fun h => ?_) <;> try simp (disch := omega) only [go_sem, List.length_map, h]) | (refine boolNB (fun h => ?_) (fun h => ?_) <;> try simp (disch := omega) only [go_sem, List.length_map, h]) | (refine boolB (fun h => ?_) (fun h => ?_) <;> try simp (disch := omega) only [go_sem, List.length_map, h]))
    all_goals omega
theorem refDispatch_run (x : Sch) (hx : x.bulk ≤ 2 ^ 24) (n : Int) : PRun CS 478 [encSch x, .int .i64 n] (.bool (dispM x n)) := by
  have L := Sch.lens hx
  have lv := L.vals
  refine prun_of ac478 rfl ?_
  rw [encSch_eq]
  unfold dispM bitM
  by_cases c : n < 0 ∨ 7 < n
  · rw [if_pos c]
    (repeat' first | simp (disch := omega) only [go_sem, ac478, enter, List.length_map] | (refine wantDf (fun h => ?_) (fun h => ?_) <;> try simp (disch := omega) only [go_sem, ac478, enter, List.length_map, h]) | (refine wantDt (fun h => ?_) (fun h => ?_) <;> try simp (disch := omega) only [go_sem, ac478, enter, List.length_map, h]) | (refine wantEf (fun h => ?_) (fun h => ?_) <;> try simp (disch := omega) only [go_sem, ac478, enter, List.length_map, h]) | (refine wantEt (fun h => ?_) (fun h => ?_) <;> try simp (disch := omega) only [go_sem, ac478, enter, List.length_map, h]) | (refine wantNf (fun h => ?_) (fun h => ?_) <;> try simp (disch := omega) only [go_sem, ac478, enter, List.length_map, h]) | (refine wantNt (fun h => ?_) (fun h => ?_) <;> try simp (disch := omega) only [go_sem, ac478, enter, List.length_map, h]) | (refine wantNBf (fun h => ?_) (fun h => ?_) <;> try simp (disch := omega) only [go_sem, ac478, enter, List.length_map, h]) | (refine wantNBt (fun h => ?_) (fun h => ?_) <;> try simp (disch := omega) only [go_sem, ac478, enter, List.length_map, h]) | (refine wantBf (fun h => ?_) (fun h => ?_) <;> try simp (disch := omega) only [go_sem, ac478, enter, List.length_map, h]) | (refine wantBt (fun h => ?_) (fun h => ?_) <;> try simp (disch := omega) only [go_sem, ac478, enter, List.length_map, h]) | (refine boolD (fun h => ?_) (fun h => ?_) <;> try simp (disch := omega) only [go_sem, ac478, enter, List.length_map, h]) | (refine boolE (fun h => ?_) (fun h => ?_) <;> try simp (disch := omega) only [go_sem, ac478, enter, List.length_map, h]) | (refine boolN (fun h => ?_) (fun h => ?_) <;> try simp (disch := omega) only [go_sem, ac478, enter, List.length_map, h]) | (refine boolNB (fun h => ?_) (fun h => ?_) <;> try simp (disch := omega) only [go_sem, ac478, enter, List.length_map, h]) | (refine boolB (fun h => ?_) (fun h => ?_) <;> try simp (disch := omega) only [go_sem, ac478, enter, List.length_map, h]))
    all_goals omega
  rw [if_neg c]
  have hn0 : ¬ n < 0 := by omega
  have hw : IntKind.u64.wrap n = n := by simp only [IntKind.wrap, IntKind.signed, IntKind.bits, IntKind.min, IntKind.max]; first | omega | (simp; omega)
  by_cases h1 : x.s.op = 1
  · rw [if_pos h1]
    (repeat' first | simp (disch := omega) only [go_sem, ac478, enter, List.length_map] | (refine wantDf (fun h => ?_) (fun h => ?_) <;> try simp (disch := omega) only [go_sem, ac478, enter, List.length_map, h]) | (refine wantDt (fun h => ?_) (fun h => ?_) <;> try simp (disch := omega) only [go_sem, ac478, enter, List.length_map, h]) | (refine wantEf (fun h => ?_) (fun h => ?_) <;> try simp (disch := omega) only [go_sem, ac478, enter, List.length_map, h]) | (refine wantEt (fun h => ?_) (fun h => ?_) <;> try simp (disch := omega) only [go_sem, ac478, enter, List.length_map, h]) | (refine wantNf (fun h => ?_) (fun h => ?_) <;> try simp (disch := omega) only [go_sem, ac478, enter, List.length_map, h]) | (refine wantNt (fun h => ?_) (fun h => ?_) <;> try simp (disch := omega) only [go_sem, ac478, enter, List.length_map, h]) | (refine wantNBf (fun h => ?_) (fun h => ?_) <;> try simp (disch := omega) only [go_sem, ac478, enter, List.length_map, h]) | (refine wantNBt (fun h => ?_) (fun h => ?_) <;> try simp (disch := omega) only [go_sem, ac478, enter, List.length_map, h]) | (refine wantBf (fun h => ?_) (fun h => ?_) <;> try simp (disch := omega) only [go_sem, ac478, enter, List.length_map, h]) | (refine wantBt (fun h => ?_) (fun h => ?_) <;> try simp (disch := omega) only [go_sem, ac478, enter, List.length_map, h]) | (refine boolD (fun h => ?_) (fun h => ?_) <;> try simp (disch := omega) only [go_sem, ac478, enter, List.length_map, h]) | (refine boolE (fun h => ?_) (fun h => ?_) <;> try simp (disch := omega) only [go_sem, ac478, enter, List.length_map, h]) | (refine boolN (fun h => ?_) (fun h => ?_) <;> try simp (disch := omega) only [go_sem, ac478, enter, List.length_map, h]) | (refine boolNB (fun h => ?_) (fun h => ?_) <;> try simp (disch := omega) only [go_sem, ac478, enter, List.length_map, h]) | (refine boolB (fun h => ?_) (fun h => ?_) <;> try simp (disch := omega) only [go_sem, ac478, enter, List.length_map, h]))
    all_goals omega
  rw [if_neg h1]
  by_cases h3 : x.s.op = 3
  · rw [if_pos h3]
    (repeat' first | simp (disch := omega) only [go_sem, ac478, enter, List.length_map, hw, if_neg hn0] | (refine wantDf (fun h => ?_) (fun h => ?_) <;> try simp (disch := omega) only [go_sem, ac478, enter, List.length_map, hw, if_neg hn0, h]) | (refine wantDt (fun h => ?_) (fun h => ?_) <;> try simp (disch := omega) only [go_sem, ac478, enter, List.length_map, hw, if_neg hn0, h]) | (refine wantEf (fun h => ?_) (fun h => ?_) <;> try simp (disch := omega) only [go_sem, ac478, enter, List.length_map, hw, if_neg hn0, h]) | (refine wantEt (fun h => ?_) (fun h => ?_) <;> try simp (disch := omega) only [go_sem, ac478, enter, List.length_map, hw, if_neg hn0, h]) | (refine wantNf (fun h => ?_) (fun h => ?_) <;> try simp (disch := omega) only [go_sem, ac478, enter, List.length_map, hw, if_neg hn0, h]) | (refine wantNt (fun h => ?_) (fun h => ?_) <;> try simp (disch := omega) only [go_sem, ac478, enter, List.length_map, hw, if_neg hn0, h]) | (refine wantNBf (fun h => ?_) (fun h => ?_) <;> try simp (disch := omega) only [go_sem, ac478, enter, List.length_map, hw, if_neg hn0, h]) | (refine wantNBt (fun h => ?_) (fun h => ?_) <;> try simp (disch := omega) only [go_sem, ac478, enter, List.length_map, hw, if_neg hn0, h]) | (refine wantBf (fun h => ?_) (fun h => ?_) <;> try simp (disch := omega) only [go_sem, ac478, enter, List.length_map, hw, if_neg hn0, h]) | (refine wantBt (fun h => ?_) (fun h => ?_) <;> try simp (disch := omega) only [go_sem, ac478, enter, List.length_map, hw, if_neg hn0, h]) | (refine boolD (fun h => ?_) (fun h => ?_) <;> try simp (disch := omega) only [go_sem, ac478, enter, List.length_map, hw, if_neg hn0, h]) | (refine boolE (fun h => ?_) (fun h => ?_) <;> try simp (disch := omega) only [go_sem, ac478, enter, List.length_map, hw, if_neg hn0, h]) | (refine boolN (fun h => ?_) (fun h => ?_) <;> try simp (disch := omega) only [go_sem, ac478, enter, List.length_map, hw, if_neg hn0, h]) | (refine boolNB (fun h => ?_) (fun h => ?_) <;> try simp (disch := omega) only [go_sem, ac478, enter, List.length_map, hw, if_neg hn0, h]) | (refine boolB (fun h => ?_) (fun h => ?_) <;> try simp (disch := omega) only [go_sem, ac478, enter, List.length_map, hw, if_neg hn0, h]))
    all_goals first | omega | rfl | skip
  rw [if_neg h3]
  by_cases h4 : x.s.op = 4
  · rw [if_pos h4]
    by_cases h : n = 2
    · rw [decide_eq_true h]
      (repeat' first | simp (disch := omega) only [go_sem, ac478, enter, List.length_map] | (refine wantDf (fun h => ?_) (fun h => ?_) <;> try simp (disch := omega) only [go_sem, ac478, enter, List.length_map, h]) | (refine wantDt (fun h => ?_) (fun h => ?_) <;> try simp (disch := omega) only [go_sem, ac478, enter, List.length_map, h]) | (refine wantEf (fun h => ?_) (fun h => ?_) <;> try simp (disch := omega) only [go_sem, ac478, enter, List.length_map, h]) | (refine wantEt (fun h => ?_) (fun h => ?_) <;> try simp (disch := omega) only [go_sem, ac478, enter, List.length_map, h]) | (refine wantNf (fun h => ?_) (fun h => ?_) <;> try simp (disch := omega) only [go_sem, ac478, enter, List.length_map, h]) | (refine wantNt (fun h => ?_) (fun h => ?_) <;> try simp (disch := omega) only [go_sem, ac478, enter, List.length_map, h]) | (refine wantNBf (fun h => ?_) (fun h => ?_) <;> try simp (disch := omega) only [go_sem, ac478, enter, List.length_map, h]) | (refine wantNBt (fun h => ?_) (fun h => ?_) <;> try simp (disch := omega) only [go_sem, ac478, enter, List.length_map, h]) | (refine wantBf (fun h => ?_) (fun h => ?_) <;> try simp (disch := omega) only [go_sem, ac478, enter, List.length_map, h]) | (refine wantBt (fun h => ?_) (fun h => ?_) <;> try simp (disch := omega) only [go_sem, ac478, enter, List.length_map, h]) | (refine boolD (fun h => ?_) (fun h => ?_) <;> try simp (disch := omega) only [go_sem, ac478, enter, List.length_map, h]) | (refine boolE (fun h => ?_) (fun h => ?_) <;> try simp (disch := omega) only [go_sem, ac478, enter, List.length_map, h]) | (refine boolN (fun h => ?_) (fun h => ?_) <;> try simp (disch := omega) only [go_sem, ac478, enter, List.length_map, h]) | (refine boolNB (fun h => ?_) (fun h => ?_) <;> try simp (disch := omega) only [go_sem, ac478, enter, List.length_map, h]) | (refine boolB (fun h => ?_) (fun h => ?_) <;> try simp (disch := omega) only [go_sem, ac478, enter, List.length_map, h]))
      all_goals omega
    · rw [decide_eq_false h]
      (repeat' first | simp (disch := omega) only [go_sem, ac478, enter, List.length_map] | (refine wantDf (fun h => ?_) (fun h => ?_) <;> try simp (disch := omega) only [go_sem, ac478, enter, List.length_map, h]) | (refine wantDt (fun h => ?_) (fun h => ?_) <;> try simp (disch := omega) only [go_sem, ac478, enter, List.length_map, h]) | (refine wantEf (fun h => ?_) (fun h => ?_) <;> try simp (disch := omega) only [go_sem, ac478, enter, List.length_map, h]) | (refine wantEt (fun h => ?_) (fun h => ?_) <;> try simp (disch := omega) only [go_sem, ac478, enter, List.length_map, h]) | (refine wantNf (fun h => ?_) (fun h => ?_) <;> try simp (disch := omega) only [go_sem, ac478, enter, List.length_map, h]) | (refine wantNt (fun h => ?_) (fun h => ?_) <;> try simp (disch := omega) only [go_sem, ac478, enter, List.length_map, h]) | (refine wantNBf (fun h => ?_) (fun h => ?_) <;> try simp (disch := omega) only [go_sem, ac478, enter, List.length_map, h]) | (refine wantNBt (fun h => ?_) (fun h => ?_) <;> try simp (disch := omega) only [go_sem, ac478, enter, List.length_map, h]) | (refine wantBf (fun h => ?_) (fun h => ?_) <;> try simp (disch := omega) only [go_sem, ac478, enter, List.length_map, h]) | (refine wantBt (fun h => ?_) (fun h => ?_) <;> try simp (disch := omega) only [go_sem, ac478, enter, List.length_map, h]) | (refine boolD (fun h => ?_) (fun h => ?_) <;> try simp (disch := omega) only [go_sem, ac478, enter, List.length_map, h]) | (refine boolE (fun h => ?_) (fun h => ?_) <;> try simp (disch := omega) only [go_sem, ac478, enter, List.length_map, h]) | (refine boolN (fun h => ?_) (fun h => ?_) <;> try simp (disch := omega) only [go_sem, ac478, enter, List.length_map, h]) | (refine boolNB (fun h => ?_) (fun h => ?_) <;> try simp (disch := omega) only [go_sem, ac478, enter, List.length_map, h]) | (refine boolB (fun h => ?_) (fun h => ?_) <;> try simp (disch := omega) only [go_sem, ac478, enter, List.length_map, h]))
      all_goals omega
  rw [if_neg h4]
  by_cases h5 : x.s.op = 5 ∨ x.s.op = 6 ∨ x.s.op = 7
  · rw [if_pos h5]
    by_cases h : n = 4
    · rw [decide_eq_true h]
      (repeat' first | simp (disch := omega) only [go_sem, ac478, enter, List.length_map] | (refine wantDf (fun h => ?_) (fun h => ?_) <;> try simp (disch := omega) only [go_sem, ac478, enter, List.length_map, h]) | (refine wantDt (fun h => ?_) (fun h => ?_) <;> try simp (disch := omega) only [go_sem, ac478, enter, List.length_map, h]) | (refine wantEf (fun h => ?_) (fun h => ?_) <;> try simp (disch := omega) only [go_sem, ac478, enter, List.length_map, h]) | (refine wantEt (fun h => ?_) (fun h => ?_) <;> try simp (disch := omega) only [go_sem, ac478, enter, List.length_map, h]) | (refine wantNf (fun h => ?_) (fun h => ?_) <;> try simp (disch := omega) only [go_sem, ac478, enter, List.length_map, h]) | (refine wantNt (fun h => ?_) (fun h => ?_) <;> try simp (disch := omega) only [go_sem, ac478, enter, List.length_map, h]) | (refine wantNBf (fun h => ?_) (fun h => ?_) <;> try simp (disch := omega) only [go_sem, ac478, enter, List.length_map, h]) | (refine wantNBt (fun h => ?_) (fun h => ?_) <;> try simp (disch := omega) only [go_sem, ac478, enter, List.length_map, h]) | (refine wantBf (fun h => ?_) (fun h => ?_) <;> try simp (disch := omega) only [go_sem, ac478, enter, List.length_map, h]) | (refine wantBt (fun h => ?_) (fun h => ?_) <;> try simp (disch := omega) only [go_sem, ac478, enter, List.length_map, h]) | (refine boolD (fun h => ?_) (fun h => ?_) <;> try simp (disch := omega) only [go_sem, ac478, enter, List.length_map, h]) | (refine boolE (fun h => ?_) (fun h => ?_) <;> try simp (disch := omega) only [go_sem, ac478, enter, List.length_map, h]) | (refine boolN (fun h => ?_) (fun h => ?_) <;> try simp (disch := omega) only [go_sem, ac478, enter, List.length_map, h]) | (refine boolNB (fun h => ?_) (fun h => ?_) <;> try simp (disch := omega) only [go_sem, ac478, enter, List.length_map, h]) | (refine boolB (fun h => ?_) (fun h => ?_) <;> try simp (disch := omega) only [go_sem, ac478, enter, List.length_map, h]))
      all_goals omega
    · rw [decide_eq_false h]
      (repeat' first | simp (disch := omega) only [go_sem, ac478, enter, List.length_map] | (refine wantDf (fun h => ?_) (fun h => ?_) <;> try simp (disch := omega) only [go_sem, ac478, enter, List.length_map, h]) | (refine wantDt (fun h => ?_) (fun h => ?_) <;> try simp (disch := omega) only [go_sem, ac478, enter, List.length_map, h]) | (refine wantEf (fun h => ?_) (fun h => ?_) <;> try simp (disch := omega) only [go_sem, ac478, enter, List.length_map, h]) | (refine wantEt (fun h => ?_) (fun h => ?_) <;> try simp (disch := omega) only [go_sem, ac478, enter, List.length_map, h]) | (refine wantNf (fun h => ?_) (fun h => ?_) <;> try simp (disch := omega) only [go_sem, ac478, enter, List.length_map, h]) | (refine wantNt (fun h => ?_) (fun h => ?_) <;> try simp (disch := omega) only [go_sem, ac478, enter, List.length_map, h]) | (refine wantNBf (fun h => ?_) (fun h => ?_) <;> try simp (disch := omega) only [go_sem, ac478, enter, List.length_map, h]) | (refine wantNBt (fun h => ?_) (fun h => ?_) <;> try simp (disch := omega) only [go_sem, ac478, enter, List.length_map, h]) | (refine wantBf (fun h => ?_) (fun h => ?_) <;> try simp (disch := omega) only [go_sem, ac478, enter, List.length_map, h]) | (refine wantBt (fun h => ?_) (fun h => ?_) <;> try simp (disch := omega) only [go_sem, ac478, enter, List.length_map, h]) | (refine boolD (fun h => ?_) (fun h => ?_) <;> try simp (disch := omega) only [go_sem, ac478, enter, List.length_map, h]) | (refine boolE (fun h => ?_) (fun h => ?_) <;> try simp (disch := omega) only [go_sem, ac478, enter, List.length_map, h]) | (refine boolN (fun h => ?_) (fun h => ?_) <;> try simp (disch := omega) only [go_sem, ac478, enter, List.length_map, h]) | (refine boolNB (fun h => ?_) (fun h => ?_) <;> try simp (disch := omega) only [go_sem, ac478, enter, List.length_map, h]) | (refine boolB (fun h => ?_) (fun h => ?_) <;> try simp (disch := omega) only [go_sem, ac478, enter, List.length_map, h]))
      all_goals omega
  rw [if_neg h5]
  by_cases h9 : x.s.op = 9
  · rw [if_neg (by omega : ¬ x.s.op = 8), if_pos h9]
    by_cases h : n = 6
    · rw [decide_eq_true h]
      (repeat' first | simp (disch := omega) only [go_sem, ac478, enter, List.length_map] | (refine wantDf (fun h => ?_) (fun h => ?_) <;> try simp (disch := omega) only [go_sem, ac478, enter, List.length_map, h]) | (refine wantDt (fun h => ?_) (fun h => ?_) <;> try simp (disch := omega) only [go_sem, ac478, enter, List.length_map, h]) | (refine wantEf (fun h => ?_) (fun h => ?_) <;> try simp (disch := omega) only [go_sem, ac478, enter, List.length_map, h]) | (refine wantEt (fun h => ?_) (fun h => ?_) <;> try simp (disch := omega) only [go_sem, ac478, enter, List.length_map, h]) | (refine wantNf (fun h => ?_) (fun h => ?_) <;> try simp (disch := omega) only [go_sem, ac478, enter, List.length_map, h]) | (refine wantNt (fun h => ?_) (fun h => ?_) <;> try simp (disch := omega) only [go_sem, ac478, enter, List.length_map, h]) | (refine wantNBf (fun h => ?_) (fun h => ?_) <;> try simp (disch := omega) only [go_sem, ac478, enter, List.length_map, h]) | (refine wantNBt (fun h => ?_) (fun h => ?_) <;> try simp (disch := omega) only [go_sem, ac478, enter, List.length_map, h]) | (refine wantBf (fun h => ?_) (fun h => ?_) <;> try simp (disch := omega) only [go_sem, ac478, enter, List.length_map, h]) | (refine wantBt (fun h => ?_) (fun h => ?_) <;> try simp (disch := omega) only [go_sem, ac478, enter, List.length_map, h]) | (refine boolD (fun h => ?_) (fun h => ?_) <;> try simp (disch := omega) only [go_sem, ac478, enter, List.length_map, h]) | (refine boolE (fun h => ?_) (fun h => ?_) <;> try simp (disch := omega) only [go_sem, ac478, enter, List.length_map, h]) | (refine boolN (fun h => ?_) (fun h => ?_) <;> try simp (disch := omega) only [go_sem, ac478, enter, List.length_map, h]) | (refine boolNB (fun h => ?_) (fun h => ?_) <;> try simp (disch := omega) only [go_sem, ac478, enter, List.length_map, h]) | (refine boolB (fun h => ?_) (fun h => ?_) <;> try simp (disch := omega) only [go_sem, ac478, enter, List.length_map, h]))
      all_goals omega
    · rw [decide_eq_false h]
      (repeat' first | simp (disch := omega) only [go_sem, ac478, enter, List.length_map] | (refine wantDf (fun h => ?_) (fun h => ?_) <;> try simp (disch := omega) only [go_sem, ac478, enter, List.length_map, h]) | (refine wantDt (fun h => ?_) (fun h => ?_) <;> try simp (disch := omega) only [go_sem, ac478, enter, List.length_map, h]) | (refine wantEf (fun h => ?_) (fun h => ?_) <;> try simp (disch := omega) only [go_sem, ac478, enter, List.length_map, h]) | (refine wantEt (fun h => ?_) (fun h => ?_) <;> try simp (disch := omega) only [go_sem, ac478, enter, List.length_map, h]) | (refine wantNf (fun h => ?_) (fun h => ?_) <;> try simp (disch := omega) only [go_sem, ac478, enter, List.length_map, h]) | (refine wantNt (fun h => ?_) (fun h => ?_) <;> try simp (disch := omega) only [go_sem, ac478, enter, List.length_map, h]) | (refine wantNBf (fun h => ?_) (fun h => ?_) <;> try simp (disch := omega) only [go_sem, ac478, enter, List.length_map, h]) | (refine wantNBt (fun h => ?_) (fun h => ?_) <;> try simp (disch := omega) only [go_sem, ac478, enter, List.length_map, h]) | (refine wantBf (fun h => ?_) (fun h => ?_) <;> try simp (disch := omega) only [go_sem, ac478, enter, List.length_map, h]) | (refine wantBt (fun h => ?_) (fun h => ?_) <;> try simp (disch := omega) only [go_sem, ac478, enter, List.length_map, h]) | (refine boolD (fun h => ?_) (fun h => ?_) <;> try simp (disch := omega) only [go_sem, ac478, enter, List.length_map, h]) | (refine boolE (fun h => ?_) (fun h => ?_) <;> try simp (disch := omega) only [go_sem, ac478, enter, List.length_map, h]) | (refine boolN (fun h => ?_) (fun h => ?_) <;> try simp (disch := omega) only [go_sem, ac478, enter, List.length_map, h]) | (refine boolNB (fun h => ?_) (fun h => ?_) <;> try simp (disch := omega) only [go_sem, ac478, enter, List.length_map, h]) | (refine boolB (fun h => ?_) (fun h => ?_) <;> try simp (disch := omega) only [go_sem, ac478, enter, List.length_map, h]))
      all_goals omega
  by_cases h10 : x.s.op = 10
  · rw [if_neg (by omega : ¬ x.s.op = 8), if_neg h9, if_pos h10]
    by_cases h : n = 7
    · rw [decide_eq_true h]
      (repeat' first | simp (disch := omega) only [go_sem, ac478, enter, List.length_map] | (refine wantDf (fun h => ?_) (fun h => ?_) <;> try simp (disch := omega) only [go_sem, ac478, enter, List.length_map, h]) | (refine wantDt (fun h => ?_) (fun h => ?_) <;> try simp (disch := omega) only [go_sem, ac478, enter, List.length_map, h]) | (refine wantEf (fun h => ?_) (fun h => ?_) <;> try simp (disch := omega) only [go_sem, ac478, enter, List.length_map, h]) | (refine wantEt (fun h => ?_) (fun h => ?_) <;> try simp (disch := omega) only [go_sem, ac478, enter, List.length_map, h]) | (refine wantNf (fun h => ?_) (fun h => ?_) <;> try simp (disch := omega) only [go_sem, ac478, enter, List.length_map, h]) | (refine wantNt (fun h => ?_) (fun h => ?_) <;> try simp (disch := omega) only [go_sem, ac478, enter, List.length_map, h]) | (refine wantNBf (fun h => ?_) (fun h => ?_) <;> try simp (disch := omega) only [go_sem, ac478, enter, List.length_map, h]) | (refine wantNBt (fun h => ?_) (fun h => ?_) <;> try simp (disch := omega) only [go_sem, ac478, enter, List.length_map, h]) | (refine wantBf (fun h => ?_) (fun h => ?_) <;> try simp (disch := omega) only [go_sem, ac478, enter, List.length_map, h]) | (refine wantBt (fun h => ?_) (fun h => ?_) <;> try simp (disch := omega) only [go_sem, ac478, enter, List.length_map, h]) | (refine boolD (fun h => ?_) (fun h => ?_) <;> try simp (disch := omega) only [go_sem, ac478, enter, List.length_map, h]) | (refine boolE (fun h => ?_) (fun h => ?_) <;> try simp (disch := omega) only [go_sem, ac478, enter, List.length_map, h]) | (refine boolN (fun h => ?_) (fun h => ?_) <;> try simp (disch := omega) only [go_sem, ac478, enter, List.length_map, h]) | (refine boolNB (fun h => ?_) (fun h => ?_) <;> try simp (disch := omega) only [go_sem, ac478, enter, List.length_map, h]) | (refine boolB (fun h => ?_) (fun h => ?_) <;> try simp (disch := omega) only [go_sem, ac478, enter, List.length_map, h]))
      all_goals omega
    · rw [decide_eq_false h]
      (repeat' first | simp (disch := omega) only [go_sem, ac478, enter, List.length_map] | (refine wantDf (fun h => ?_) (fun h => ?_) <;> try simp (disch := omega) only [go_sem, ac478, enter, List.length_map, h]) | (refine wantDt (fun h => ?_) (fun h => ?_) <;> try simp (disch := omega) only [go_sem, ac478, enter, List.length_map, h]) | (refine wantEf (fun h => ?_) (fun h => ?_) <;> try simp (disch := omega) only [go_sem, ac478, enter, List.length_map, h]) | (refine wantEt (fun h => ?_) (fun h => ?_) <;> try simp (disch := omega) only [go_sem, ac478, enter, List.length_map, h]) | (refine wantNf (fun h => ?_) (fun h => ?_) <;> try simp (disch := omega) only [go_sem, ac478, enter, List.length_map, h]) | (refine wantNt (fun h => ?_) (fun h => ?_) <;> try simp (disch := omega) only [go_sem, ac478, enter, List.length_map, h]) | (refine wantNBf (fun h => ?_) (fun h => ?_) <;> try simp (disch := omega) only [go_sem, ac478, enter, List.length_map, h]) | (refine wantNBt (fun h => ?_) (fun h => ?_) <;> try simp (disch := omega) only [go_sem, ac478, enter, List.length_map, h]) | (refine wantBf (fun h => ?_) (fun h => ?_) <;> try simp (disch := omega) only [go_sem, ac478, enter, List.length_map, h]) | (refine wantBt (fun h => ?_) (fun h => ?_) <;> try simp (disch := omega) only [go_sem, ac478, enter, List.length_map, h]) | (refine boolD (fun h => ?_) (fun h => ?_) <;> try simp (disch := omega) only [go_sem, ac478, enter, List.length_map, h]) | (refine boolE (fun h => ?_) (fun h => ?_) <;> try simp (disch := omega) only [go_sem, ac478, enter, List.length_map, h]) | (refine boolN (fun h => ?_) (fun h => ?_) <;> try simp (disch := omega) only [go_sem, ac478, enter, List.length_map, h]) | (refine boolNB (fun h => ?_) (fun h => ?_) <;> try simp (disch := omega) only [go_sem, ac478, enter, List.length_map, h]) | (refine boolB (fun h => ?_) (fun h => ?_) <;> try simp (disch := omega) only [go_sem, ac478, enter, List.length_map, h]))
      all_goals omega
  rw [if_neg h9, if_neg h10]
  by_cases h8 : x.s.op = 8
  case neg =>
    rw [if_neg h8]
    (repeat' first | simp (disch := omega) only [go_sem, ac478, enter, List.length_map] | (refine wantDf (fun h => ?_) (fun h => ?_) <;> try simp (disch := omega) only [go_sem, ac478, enter, List.length_map, h]) | (refine wantDt (fun h => ?_) (fun h => ?_) <;> try simp (disch := omega) only [go_sem, ac478, enter, List.length_map, h]) | (refine wantEf (fun h => ?_) (fun h => ?_) <;> try simp (disch := omega) only [go_sem, ac478, enter, List.length_map, h]) | (refine wantEt (fun h => ?_) (fun h => ?_) <;> try simp (disch := omega) only [go_sem, ac478, enter, List.length_map, h]) | (refine wantNf (fun h => ?_) (fun h => ?_) <;> try simp (disch := omega) only [go_sem, ac478, enter, List.length_map, h]) | (refine wantNt (fun h => ?_) (fun h => ?_) <;> try simp (disch := omega) only [go_sem, ac478, enter, List.length_map, h]) | (refine wantNBf (fun h => ?_) (fun h => ?_) <;> try simp (disch := omega) only [go_sem, ac478, enter, List.length_map, h]) | (refine wantNBt (fun h => ?_) (fun h => ?_) <;> try simp (disch := omega) only [go_sem, ac478, enter, List.length_map, h]) | (refine wantBf (fun h => ?_) (fun h => ?_) <;> try simp (disch := omega) only [go_sem, ac478, enter, List.length_map, h]) | (refine wantBt (fun h => ?_) (fun h => ?_) <;> try simp (disch := omega) only [go_sem, ac478, enter, List.length_map, h]) | (refine boolD (fun h => ?_) (fun h => ?_) <;> try simp (disch := omega) only [go_sem, ac478, enter, List.length_map, h]) | (refine boolE (fun h => ?_) (fun h => ?_) <;> try simp (disch := omega) only [go_sem, ac478, enter, List.length_map, h]) | (refine boolN (fun h => ?_) (fun h => ?_) <;> try simp (disch := omega) only [go_sem, ac478, enter, List.length_map, h]) | (refine boolNB (fun h => ?_) (fun h => ?_) <;> try simp (disch := omega) only [go_sem, ac478, enter, List.length_map, h]) | (refine boolB (fun h => ?_) (fun h => ?_) <;> try simp (disch := omega) only [go_sem, ac478, enter, List.length_map, h]))
    all_goals omega
  rw [if_pos h8]
  (repeat' first | simp (disch := omega) only [go_sem, ac478, enter, List.length_map] | (refine wantDf (fun h => ?_) (fun h => ?_) <;> try simp (disch := omega) only [go_sem, ac478, enter, List.length_map, h]) | (refine wantDt (fun h => ?_) (fun h => ?_) <;> try simp (disch := omega) only [go_sem, ac478, enter, List.length_map, h]) | (refine wantEf (fun h => ?_) (fun h => ?_) <;> try simp (disch := omega) only [go_sem, ac478, enter, List.length_map, h]) | (refine wantEt (fun h => ?_) (fun h => ?_) <;> try simp (disch := omega) only [go_sem, ac478, enter, List.length_map, h]) | (refine wantNf (fun h => ?_) (fun h => ?_) <;> try simp (disch := omega) only [go_sem, ac478, enter, List.length_map, h]) | (refine wantNt (fun h => ?_) (fun h => ?_) <;> try simp (disch := omega) only [go_sem, ac478, enter, List.length_map, h]) | (refine wantNBf (fun h => ?_) (fun h => ?_) <;> try simp (disch := omega) only [go_sem, ac478, enter, List.length_map, h]) | (refine wantNBt (fun h => ?_) (fun h => ?_) <;> try simp (disch := omega) only [go_sem, ac478, enter, List.length_map, h]) | (refine wantBf (fun h => ?_) (fun h => ?_) <;> try simp (disch := omega) only [go_sem, ac478, enter, List.length_map, h]) | (refine wantBt (fun h => ?_) (fun h => ?_) <;> try simp (disch := omega) only [go_sem, ac478, enter, List.length_map, h]) | (refine boolD (fun h => ?_) (fun h => ?_) <;> try simp (disch := omega) only [go_sem, ac478, enter, List.length_map, h]) | (refine boolE (fun h => ?_) (fun h => ?_) <;> try simp (disch := omega) only [go_sem, ac478, enter, List.length_map, h]) | (refine boolN (fun h => ?_) (fun h => ?_) <;> try simp (disch := omega) only [go_sem, ac478, enter, List.length_map, h]) | (refine boolNB (fun h => ?_) (fun h => ?_) <;> try simp (disch := omega) only [go_sem, ac478, enter, List.length_map, h]) | (refine boolB (fun h => ?_) (fun h => ?_) <;> try simp (disch := omega) only [go_sem, ac478, enter, List.length_map, h]))
  all_goals try omega
  refine loop_of (α := Nat) (fun a => { tmps := slots 59 [(1, .int .i64 n), (2, .ptr 15 0 0 0), (5, .int .i64 a)], heap := [.row 15 [encSch x] false true 0], base := 0 }) (fun a => a ≤ x.s.vals.length ∧ ((x.s.vals.take a).any fun v => decide (v.s.kind = n)) = false) (fun a => x.s.vals.length - a) 0 (by rw [encSch_eq]; rfl) ⟨Nat.zero_le _, by simp⟩ ?_
  try rw [encSch_eq]
  intro k ⟨hk, hno⟩
  by_cases hlt : k < x.s.vals.length
  · obtain ⟨y, hy⟩ := get_some hlt
    have hym := List.mem_of_getElem? hy
    have hy2 := map_get (g := encV) hy
    rw [encV_eq] at hy2
    by_cases hkd : y.s.kind = n
    · have ha : (x.s.vals.any fun v => decide (v.s.kind = n)) = true := List.any_eq_true.2 ⟨y, hym, by simp [hkd]⟩
      rw [ha]
      (repeat' first | simp (disch := omega) only [go_sem, hy2, List.length_map] | (refine wantDf (fun h => ?_) (fun h => ?_) <;> try simp (disch := omega) only [go_sem, hy2, List.length_map, h]) | (refine wantDt (fun h => ?_) (fun h => ?_) <;> try simp (disch := omega) only [go_sem, hy2, List.length_map, h]) | (refine wantEf (fun h => ?_) (fun h => ?_) <;> try simp (disch := omega) only [go_sem, hy2, List.length_map, h]) | (refine wantEt (fun h => ?_) (fun h => ?_) <;> try simp (disch := omega) only [go_sem, hy2, List.length_map, h]) | (refine wantNf (fun h => ?_) (fun h => ?_) <;> try simp (disch := omega) only [go_sem, hy2, List.length_map, h]) | (refine wantNt (fun h => ?_) (fun h => ?_) <;> try simp (disch := omega) only [go_sem, hy2, List.length_map, h]) | (refine wantNBf (fun h => ?_) (fun h => ?_) <;> try simp (disch := omega) only [go_sem, hy2, List.length_map, h]) | (refine wantNBt (fun h => ?_) (fun h => ?_) <;> try simp (disch := omega) only [go_sem, hy2, List.length_map, h]) | (refine wantBf (fun h => ?_) (fun h => ?_) <;> try simp (disch := omega) only [go_sem, hy2, List.length_map, h]) | (refine wantBt (fun h => ?_) (fun h => ?_) <;> try simp (disch := omega) only [go_sem, hy2, List.length_map, h]) | (refine boolD (fun h => ?_) (fun h => ?_) <;> try simp (disch := omega) only [go_sem, hy2, List.length_map, h]) | (refine boolE (fun h => ?_) (fun h => ?_) <;> try simp (disch := omega) only [go_sem, hy2, List.length_map, h]) | (refine boolN (fun h => ?_) (fun h => ?_) <;> try simp (disch := omega) only [go_sem, hy2, List.length_map, h]) | (refine boolNB (fun h => ?_) (fun h => ?_) <;> try simp (disch := omega) only [go_sem, hy2, List.length_map, h]) | (refine boolB (fun h => ?_) (fun h => ?_) <;> try simp (disch := omega) only [go_sem, hy2, List.length_map, h]))
      all_goals omega
    · (repeat' first | simp (disch := omega) only [go_sem, hy2, List.length_map] | (refine wantDf (fun h => ?_) (fun h => ?_) <;> try simp (disch := omega) only [go_sem, hy2, List.length_map, h]) | (refine wantDt (fun h => ?_) (fun h => ?_) <;> try simp (disch := omega) only [go_sem, hy2, List.length_map, h]) | (refine wantEf (fun h => ?_) (fun h => ?_) <;> try simp (disch := omega) only [go_sem, hy2, List.length_map, h]) | (refine wantEt (fun h => ?_) (fun h => ?_) <;> try simp (disch := omega) only [go_sem, hy2, List.length_map, h]) | (refine wantNf (fun h => ?_) (fun h => ?_) <;> try simp (disch := omega) only [go_sem, hy2, List.length_map, h]) | (refine wantNt (fun h => ?_) (fun h => ?_) <;> try simp (disch := omega) only [go_sem, hy2, List.length_map, h]) | (refine wantNBf (fun h => ?_) (fun h => ?_) <;> try simp (disch := omega) only [go_sem, hy2, List.length_map, h]) | (refine wantNBt (fun h => ?_) (fun h => ?_) <;> try simp (disch := omega) only [go_sem, hy2, List.length_map, h]) | (refine wantBf (fun h => ?_) (fun h => ?_) <;> try simp (disch := omega) only [go_sem, hy2, List.length_map, h]) | (refine wantBt (fun h => ?_) (fun h => ?_) <;> try simp (disch := omega) only [go_sem, hy2, List.length_map, h]) | (refine boolD (fun h => ?_) (fun h => ?_) <;> try simp (disch := omega) only [go_sem, hy2, List.length_map, h]) | (refine boolE (fun h => ?_) (fun h => ?_) <;> try simp (disch := omega) only [go_sem, hy2, List.length_map, h]) | (refine boolN (fun h => ?_) (fun h => ?_) <;> try simp (disch := omega) only [go_sem, hy2, List.length_map, h]) | (refine boolNB (fun h => ?_) (fun h => ?_) <;> try simp (disch := omega) only [go_sem, hy2, List.length_map, h]) | (refine boolB (fun h => ?_) (fun h => ?_) <;> try simp (disch := omega) only [go_sem, hy2, List.length_map, h]))
      all_goals try omega
      refine ⟨k + 1, rfl, ⟨hlt, ?_⟩, by omega⟩
      rw [List.take_add_one, hy, List.any_append, hno]
      simp [hkd]
  · have hk2 : k = x.s.vals.length := by omega
    rw [hk2, List.take_length] at hno
    rw [hno]
    (repeat' first | simp (disch := omega) only [go_sem, List.length_map] | (refine wantDf (fun h => ?_) (fun h => ?_) <;> try simp (disch := omega) only [go_sem, List.length_map, h]) | (refine wantDt (fun h => ?_) (fun h => ?_) <;> try simp (disch := omega) only [go_sem, List.length_map, h]) | (refine wantEf (fun h => ?_) (fun h => ?_) <;> try simp (disch := omega) only [go_sem, List.length_map, h]) | (refine wantEt (fun h => ?_) (fun h => ?_) <;> try simp (disch := omega) only [go_sem, List.length_map, h]) | (refine wantNf (fun h => ?_) (fun h => ?_) <;> try simp (disch := omega) only [go_sem, List.length_map, h]) | (refine wantNt (fun h => ?_) (fun h => ?_) <;> try simp (disch := omega) only [go_sem, List.length_map, h]) | (refine wantNBf (fun h => ?_) (fun h => ?_) <;> try simp (disch := omega) only [go_sem, List.length_map, h]) | (refine wantNBt (fun h => ?_) (fun h => ?_) <;> try simp (disch := omega) only [go_sem, List.length_map, h]) | (refine wantBf (fun h => ?_) (fun h => ?_) <;> try simp (disch := omega) only [go_sem, List.length_map, h]) | (refine wantBt (fun h => ?_) (fun h => ?_) <;> try simp (disch := omega) only [go_sem, List.length_map, h]) | (refine boolD (fun h => ?_) (fun h => ?_) <;> try simp (disch := omega) only [go_sem, List.length_map, h]) | (refine boolE (fun h => ?_) (fun h => ?_) <;> try simp (disch := omega) only [go_sem, List.length_map, h]) | (refine boolN (fun h => ?_) (fun h => ?_) <;> try simp (disch := omega) only [go_sem, List.length_map, h]) | (refine boolNB (fun h => ?_) (fun h => ?_) <;> try simp (disch := omega) only [go_sem, List.length_map, h]) | (refine boolB (fun h => ?_) (fun h => ?_) <;> try simp (disch := omega) only [go_sem, List.length_map, h]))
    all_goals omega
theorem dispatches_run (hw : PRun CS 469 [] (.bool true)) (x : Sch) (hx : x.bulk ≤ 2 ^ 24) (n : Int) : PRun CS 450 [encSch x, .int .i64 n] (.bool true) := by
  have L := Sch.lens hx
  have lv := L.vals
  have h1 := dispatch_run x hx n
  have h2 := refDispatch_run x hx n
  refine prun_of ac450 rfl ?_
  rw [encSch_eq] at h1 h2 ⊢
  by_cases h : x.s.vals.length > 300
  · (repeat' first | simp (disch := omega) only [go_sem, ac450, enter, List.length_map] | refine pure_of _ (hw) ?_ | (refine wantDf (fun h => ?_) (fun h => ?_) <;> try simp (disch := omega) only [go_sem, ac450, enter, List.length_map , h]) | (refine wantDt (fun h => ?_) (fun h => ?_) <;> try simp (disch := omega) only [go_sem, ac450, enter, List.length_map , h]) | (refine wantEf (fun h => ?_) (fun h => ?_) <;> try simp (disch := omega) only [go_sem, ac450, enter, List.length_map , h]) | (refine wantEt (fun h => ?_) (fun h => ?_) <;> try simp (disch := omega) only [go_sem, ac450, enter, List.length_map , h]) | (refine wantNf (fun h => ?_) (fun h => ?_) <;> try simp (disch := omega) only [go_sem, ac450, enter, List.length_map , h]) | (refine wantNt (fun h => ?_) (fun h => ?_) <;> try simp (disch := omega) only [go_sem, ac450, enter, List.length_map , h]) | (refine wantNBf (fun h => ?_) (fun h => ?_) <;> try simp (disch := omega) only [go_sem, ac450, enter, List.length_map , h]) | (refine wantNBt (fun h => ?_) (fun h => ?_) <;> try simp (disch := omega) only [go_sem, ac450, enter, List.length_map , h]) | (refine wantBf (fun h => ?_) (fun h => ?_) <;> try simp (disch := omega) only [go_sem, ac450, enter, List.length_map , h]) | (refine wantBt (fun h => ?_) (fun h => ?_) <;> try simp (disch := omega) only [go_sem, ac450, enter, List.length_map , h]) | (refine boolD (fun h => ?_) (fun h => ?_) <;> try simp (disch := omega) only [go_sem, ac450, enter, List.length_map , h]) | (refine boolE (fun h => ?_) (fun h => ?_) <;> try simp (disch := omega) only [go_sem, ac450, enter, List.length_map , h]) | (refine boolN (fun h => ?_) (fun h => ?_) <;> try simp (disch := omega) only [go_sem, ac450, enter, List.length_map , h]) | (refine boolNB (fun h => ?_) (fun h => ?_) <;> try simp (disch := omega) only [go_sem, ac450, enter, List.length_map , h]) | (refine boolB (fun h => ?_) (fun h => ?_) <;> try simp (disch := omega) only [go_sem, ac450, enter, List.length_map , h]))
    all_goals omega
  · cases hb : dispM x n <;> rw [hb] at h1 h2 <;> (repeat' first | simp (disch := omega) only [go_sem, ac450, enter, List.length_map] | refine pure_of _ (h1) ?_ | refine pure_of _ (h2) ?_ | refine pure_of _ (hw) ?_ | (refine wantDf (fun h => ?_) (fun h => ?_) <;> try simp (disch := omega) only [go_sem, ac450, enter, List.length_map , h]) | (refine wantDt (fun h => ?_) (fun h => ?_) <;> try simp (disch := omega) only [go_sem, ac450, enter, List.length_map , h]) | (refine wantEf (fun h => ?_) (fun h => ?_) <;> try simp (disch := omega) only [go_sem, ac450, enter, List.length_map , h]) | (refine wantEt (fun h => ?_) (fun h => ?_) <;> try simp (disch := omega) only [go_sem, ac450, enter, List.length_map , h]) | (refine wantNf (fun h => ?_) (fun h => ?_) <;> try simp (disch := omega) only [go_sem, ac450, enter, List.length_map , h]) | (refine wantNt (fun h => ?_) (fun h => ?_) <;> try simp (disch := omega) only [go_sem, ac450, enter, List.length_map , h]) | (refine wantNBf (fun h => ?_) (fun h => ?_) <;> try simp (disch := omega) only [go_sem, ac450, enter, List.length_map , h]) | (refine wantNBt (fun h => ?_) (fun h => ?_) <;> try simp (disch := omega) only [go_sem, ac450, enter, List.length_map , h]) | (refine wantBf (fun h => ?_) (fun h => ?_) <;> try simp (disch := omega) only [go_sem, ac450, enter, List.length_map , h]) | (refine wantBt (fun h => ?_) (fun h => ?_) <;> try simp (disch := omega) only [go_sem, ac450, enter, List.length_map , h]) | (refine boolD (fun h => ?_) (fun h => ?_) <;> try simp (disch := omega) only [go_sem, ac450, enter, List.length_map , h]) | (refine boolE (fun h => ?_) (fun h => ?_) <;> try simp (disch := omega) only [go_sem, ac450, enter, List.length_map , h]) | (refine boolN (fun h => ?_) (fun h => ?_) <;> try simp (disch := omega) only [go_sem, ac450, enter, List.length_map , h]) | (refine boolNB (fun h => ?_) (fun h => ?_) <;> try simp (disch := omega) only [go_sem, ac450, enter, List.length_map , h]) | (refine boolB (fun h => ?_) (fun h => ?_) <;> try simp (disch := omega) only [go_sem, ac450, enter, List.length_map , h])) <;> omega
end Ago
