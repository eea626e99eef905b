/- Layers 1 and 2 of the references: numerals and decimals. -/
import Derived.Test.YtjmhldkncidpiaaGreatDoorMachH
import Derived.Test.YtjmhldkncidpiaaGreatDoorMachE
import Derived.Test.YtjmhldkncidpiaaGreatDoorCodeB
import Derived.Test.YtjmhldkncidpiaaGreatDoorMachD
set_option linter.unusedSimpArgs false
set_option linter.unusedVariables false
set_option maxRecDepth 100000
namespace Ago
def digit (b:UInt8):Bool:=decide (48≤b.toNat∧b.toNat≤57)
def digits (s:List UInt8):Bool:=s.all digit
/-- R01.Valid -/
def numeral (s:List UInt8):Bool:=decide (s.length≤600) && digits s && decide (s[0]?≠some 48)

def encB (l:List UInt8):List AV:=l.map fun c=>.int .u8 c.toNat
/-- R01.Zeros -/
def zeros (s:List UInt8):Nat:=(s.reverse.takeWhile (· == 48)).length

end Ago
/- Layers 1 and 2 of the references, continued: numerals and decimals as ints. -/
set_option maxRecDepth 100000
namespace Ago
/-! ### Decimals -/

structure Dec where
  neg:Bool
  digits:List UInt8
  exp:Int
/-- R02.Valid -/
def decOk (d:Dec):Bool:=
  if d.digits=[] then !d.neg && d.exp == 0
  else decide (d.digits.length≤120) && numeral d.digits && decide (zeros d.digits=0) && decide (-400≤d.exp) && decide (d.exp≤400)

end Ago
/- Values as trees. -/
set_option maxRecDepth 100000
namespace Ago
open Go (IntKind)

structure Tm where
  kind:Int
  day:Int
  nano:Int
  off:Int
structure VS where
  kind:Int
  bool:Bool
  num:Dec
  time:Tm
  text:List UInt8
  bytes:List UInt8
inductive V where
  | mk (s:VS) (l:List V) (f:List (List UInt8 × V))

def V.s:V→VS | .mk s _ _=>s
def V.l:V→List V | .mk _ l _=>l
def V.f:V→List (List UInt8 × V) | .mk _ _ f=>f

mutual
def encV:V→AV
  | .mk s l f=>.agg [.int .i64 s.kind, .bool s.bool, .bool s.num.neg, .str s.num.digits, .int .i64 s.num.exp, .int .i64 s.time.kind, .int .i64 s.time.day, .int .i64 s.time.nano, .int .i64 s.time.off, .str s.text, .tsl 1 (encB s.bytes), .tsl 13 (encL l), .tsl 14 (encF f)]
def encL:List V→List AV
  | []=>[]
  | v::l=>encV v::encL l
def encF:List (List UInt8 × V)→List AV
  | []=>[]
  | (k, v)::f=>.agg (.str k::(encV v).cells)::encF f
end

/-- values and letters in it -/
def V.bulk (v:V):Nat:=(encV v).bulk
structure V.Lens (v:V) (N:Nat):Prop where
  digits:v.s.num.digits.length<N
  text:v.s.text.length<N
  bytes:v.s.bytes.length<N
  list:v.l.length<N
  fields:v.f.length<N
  kids : ∀ x, x∈v.l→x.bulk<v.bulk
  fkids : ∀ x, x∈v.f→x.2.bulk<v.bulk∧x.1.length<N
/-- A slice that a call makes by append: nil, or a row. -/
def outSl (n b:Nat):List AV→AV
  | []=>.snil n
  | x::l=>.sref n b 0 (l.length+1)
def outHp (n b:Nat):List AV→Heap
  | []=>[]
  | x::l=>[.row n (x::l) false true b]
end Ago
/- Patterns, sets of numbers and schemas as trees. -/
set_option maxRecDepth 100000
set_option maxHeartbeats 4000000
namespace Ago
open Go (IntKind)

structure PS where
  op:Int
  lo:Int
  hi:Int
  min:Int
  max:Int
inductive Pat where
  | mk (s:PS) (a:List Pat)
def Pat.s:Pat→PS | .mk s _=>s
def Pat.a:Pat→List Pat | .mk _ a=>a
mutual
def encPat:Pat→AV
  | .mk s a=>.agg [.int .i64 s.op, .int .i64 s.lo, .int .i64 s.hi, .int .i64 s.min, .int .i64 s.max, .tsl 6 (encPatL a)]
def encPatL:List Pat→List AV
  | []=>[]
  | p::l=>encPat p::encPatL l
end
def Pat.bulk (p:Pat):Nat:=(encPat p).bulk
structure Pat.Lens (p:Pat) (N:Nat):Prop where
  args:p.a.length<N
  kids : ∀ x, x∈p.a→x.bulk<p.bulk
structure Bnd where
  set:Bool
  num:Dec
  opn:Bool
structure Prt where
  lo:Bnd
  hi:Bnd
  sort:Int
def encPrt (p:Prt):AV:=.agg [.bool p.lo.set, .bool p.lo.num.neg, .str p.lo.num.digits, .int .i64 p.lo.num.exp, .bool p.lo.opn, .bool p.hi.set, .bool p.hi.num.neg, .str p.hi.num.digits, .int .i64 p.hi.num.exp, .bool p.hi.opn, .int .i64 p.sort]
structure SS where
  op:Int
  mask:Int
  min:Int
  max:Int
  name:List UInt8
  parts:List Prt
  pat:Pat
  vals:List V
structure PK where
  key:List UInt8
  req:Bool
inductive Sch where
  | mk (s:SS) (p:List (PK × Sch)) (a:List Sch)
def Sch.s:Sch→SS | .mk s _ _=>s
def Sch.p:Sch→List (PK × Sch) | .mk _ p _=>p
def Sch.a:Sch→List Sch | .mk _ _ a=>a
def SS.cells (s:SS):List AV:=[.int .i64 s.op, .int .i64 s.mask, .int .i64 s.min, .int .i64 s.max, .str s.name, .tsl 11 (s.parts.map encPrt), .int .i64 s.pat.s.op, .int .i64 s.pat.s.lo, .int .i64 s.pat.s.hi, .int .i64 s.pat.s.min, .int .i64 s.pat.s.max, .tsl 6 (s.pat.a.map encPat), .tsl 13 (s.vals.map encV)]
mutual
def encSch:Sch→AV
  | .mk s p a=>.agg (s.cells++[.tsl 17 (encSchP p), .tsl 15 (encSchL a)])
def encSchL:List Sch→List AV
  | []=>[]
  | v::l=>encSch v::encSchL l
def encSchP:List (PK × Sch)→List AV
  | []=>[]
  | (k, v)::f=>.agg (.str k.key :: .bool k.req::(encSch v).cells)::encSchP f
end
def Sch.bulk (v:Sch):Nat:=(encSch v).bulk
structure Sch.Lens (v:Sch) (N:Nat):Prop where
  name:v.s.name.length<N
  parts:v.s.parts.length<N
  part : ∀ x, x∈v.s.parts→x.lo.num.digits.length<N∧x.hi.num.digits.length<N
  pat:v.s.pat.bulk<v.bulk
  vals:v.s.vals.length<N
  val : ∀ x, x∈v.s.vals→x.bulk<v.bulk
  props:v.p.length<N
  args:v.a.length<N
  kids : ∀ x, x∈v.a→x.bulk<v.bulk
  pkids : ∀ x, x∈v.p→x.2.bulk<v.bulk∧x.1.key.length<N
/-- A definition: its name, its schema. -/
def encDef (x:List UInt8 × Sch):AV:=.agg (.str x.1::(encSch x.2).cells)
structure Schs where
  defs:List (List UInt8 × Sch)
  root:Sch
def encSchs (s:Schs):AV:=.agg (.tsl 16 (s.defs.map encDef)::(encSch s.root).cells)
def Schs.bulk (s:Schs):Nat:=(encSchs s).bulk
/-- The schemas in a node. -/
def Sch.kids (v:Sch):List Sch:=v.p.map (·.2)++v.a
end Ago
/- Paths: steps of values. -/
set_option maxRecDepth 100000
set_option maxHeartbeats 4000000
namespace Ago
open Go (IntKind)
structure Stp where
  byIndex:Bool
  key:List UInt8
  index:Int
  deriving DecidableEq
end Ago
/- Whole numbers as decimals. -/
set_option maxRecDepth 100000
set_option maxHeartbeats 4000000
namespace Ago
open Go (IntKind)

/-! ### Bytes turned round -/

/-! ### Digits of a number -/

/-! ### Noughts at the end -/

end Ago
/- The head of a loop, where no block has a reference: what is kept can be computed though maps are not told. -/
namespace Ago
def Blk.refam (g:Nat→Nat):Blk→Blk
  | .row n els ro fl fam=>.row n els ro fl (g fam)
  | b=>b
def Blk.isRo:Blk→Bool
  | .row _ _ ro _ _=>ro
  | _=>false
/-- A block without references, whatever it holds. -/
def Calm (b:Blk):Prop:=b.refs=[]∧(∀ f g, Blk.ren f g b=Blk.refam g b)∧b.isRo=false
def Calms (H:Heap):Prop:=∀ b, b∈H→Calm b
theorem Calms.nil:Calms []:=fun b h=>by cases h
theorem Calms.cons {b:Blk} {H:Heap} (h1:Calm b) (h2:Calms H):Calms (b::H):=fun x h=>by
  rcases List.mem_cons.1 h with rfl | h
  · exact h1
  · exact h2 x h
end Ago
/- Schemas: the schemas in a node, how many nodes there are. -/
set_option maxRecDepth 100000
set_option maxHeartbeats 4000000
namespace Ago
open Go (IntKind)
end Ago
/- Bits of whole numbers. -/
set_option maxRecDepth 100000
set_option maxHeartbeats 4000000
namespace Ago
open Go (IntKind)

end Ago
/- Layer 3 of the references: text, exactly. -/
set_option maxRecDepth 100000
set_option maxHeartbeats 4000000
namespace Ago
open Go (IntKind)
/-! ### Decoding -/

end Ago
/- The reference's Decode, exactly. -/
set_option maxRecDepth 100000
set_option maxHeartbeats 4000000
namespace Ago
open Go (IntKind)
end Ago
/- Layer 3 of the references, continued: is it text? -/
set_option maxRecDepth 100000
set_option maxHeartbeats 4000000
namespace Ago
open Go (IntKind)
end Ago
/- Layer 7 of the references: what is wrong with a value. -/
set_option maxRecDepth 100000
set_option maxHeartbeats 4000000
namespace Ago
open Go (IntKind)
/-- Only a list has elements, and only a map fields. -/
def OwnOk (v:V):Prop:=(v.s.kind=6∨v.l.length=0)∧(v.s.kind=7∨v.f.length=0)
end Ago
/- Layer 7 of the references, continued: what is wrong with a value. -/
set_option maxRecDepth 100000
set_option maxHeartbeats 4000000
namespace Ago
open Go (IntKind)

end Ago
/- Layer 7 of the references, continued: how values are walked. -/
set_option maxRecDepth 100000
set_option maxHeartbeats 4000000
namespace Ago
open Go (IntKind)
def V.kids (v:V):List V:=if v.s.kind=7 then v.f.map (·.2) else v.l

/-- A valid value of so much depth, as far as it matters. -/
inductive Good:Nat→V→Prop where
  | mk {n:Nat} {v:V} (h:decOk v.s.num=true) (ho:OwnOk v) (hk : ∀ x, x∈v.kids→Good n x):Good (n+1) v

end Ago
/- Layer 7 of the references, continued: how many values there are. -/
set_option maxRecDepth 100000
set_option maxHeartbeats 4000000
namespace Ago
open Go (IntKind)
end Ago
/- Patterns: their size; few nodes, small nodes. -/
set_option maxRecDepth 100000
set_option maxHeartbeats 4000000
namespace Ago
open Go (IntKind)
end Ago
/- Loops and calls over a heap that is not told. -/
set_option maxRecDepth 100000
set_option maxHeartbeats 4000000
namespace Ago
open Go (IntKind)
/-- A heap that lies below: what it refers to lies in it, and it is not renamed. -/
structure Cl (H:Heap):Prop where
  refs : ∀ b, b∈H→∀ r, r∈b.refs→r<H.length
  ren : ∀ b, b∈H→∀ f g, (∀ r, r<H.length→f r=some r)→(∀ r, r<H.length→g r=r)→Blk.ren f g b=b
theorem Cl.nil:Cl []:=⟨fun b h=>(by cases h), fun b h=>(by cases h)⟩
theorem Cl.push {H:Heap} (h:Cl H) (n:Nat) (els:List AV) (ro:Bool) (fam:Nat) (hf:fam≤H.length):Cl (H++[.row n els ro true fam]):=by
  refine ⟨fun b hb r hr=>?_, fun b hb f g hf2 hg2=>?_⟩
  · rcases List.mem_append.1 hb with hb | hb
    · have:=h.refs b hb r hr
      simp
      omega
    · rw[List.mem_singleton.1 hb] at hr
      simp [Blk.refs] at hr
  · rcases List.mem_append.1 hb with hb | hb
    · exact h.ren b hb f g (fun r hr=>hf2 r (by simp; omega)) (fun r hr=>hg2 r (by simp; omega))
    · rw[List.mem_singleton.1 hb]
      simp [Blk.ren, hg2 fam (by simp; omega)]
theorem reach_lowC (H:Heap) (base:Nat) : ∀ (k:Nat) (todo seen:List Nat), (∀ r, r∈todo→r<base)→reach H base k todo seen=seen
  | 0, _, _, _=>rfl
  | _+1, [], _, _=>rfl
  | k+1, r::todo, seen, h=>by
    unfold reach
    rw[if_pos (h r (by simp))]
    exact reach_lowC H base k todo seen fun x hx=>h x (by simp [hx])
theorem reach_app (H:Heap) (base:Nat) : ∀ (k:Nat) (todo low seen:List Nat), (∀ r, r∈low→r<base)→reach H base k (todo++low) seen=reach H base k todo seen
  | 0, _, _, _, _=>rfl
  | k+1, [], low, seen, h=>by
    rw[List.nil_append, reach_lowC H base (k+1) low seen h]
    rfl
  | k+1, r::todo, low, seen, h=>by
    rw[List.cons_append]
    unfold reach
    split
    · exact reach_app H base k todo low seen h
    · split
      · exact reach_app H base k todo low seen h
      · split
        · exact reach_app H base k todo low seen h
        · rw[←List.append_assoc]
          exact reach_app H base k _ low _ h
def Blk.roB:Blk→Bool
  | .row _ _ ro _ _=>ro
  | _=>false
theorem dropped_ro (ks:List Nat) : ∀ (E:Heap) (j:Nat), (∀ b, b∈E→b.roB=false)→droppedGo ks E j=[]
  | [], _, _=>rfl
  | b::E, j, h=>by
    have ih:=dropped_ro ks E (j+1) fun x hx=>h x (by simp [hx])
    have hb:=h b (by simp)
    cases b with
    | row n els ro fl fam=>
      simp only[Blk.roB] at hb
      subst hb
      exact ih
    | _=>exact ih
theorem norm_cl {live:List Nat} {tm:List AV} {H E:Heap} {m rb:Nat} {L L':List AV} {ks:List Nat} {K:Heap} (hm:m=H.length) (hC:Cl H) (hE : ∀ b, b∈E→b.roB=false) (hL:keepLive live 0 tm=L) (hr:reach (H++E) m 4000 (L.flatMap (AV.refsN 6)) []=ks)
    (hk : ∀ r, r∈ks→((H++E).getD r .gone).refs=[]) (hi:L.map (AV.renN (renOf m ks) 6)=L') (hK:(ks.map fun r=>(H++E).getD r .gone).map (Blk.ren (renOf m ks) (famRen (H++E) m ks))=K):St.norm live ⟨tm, H++E, m, rb⟩=⟨L', H++K, m, 0⟩:=by
  subst hm
  unfold St.norm St.normTm
  rw[hL]
  have h1:((H++E).take H.length)=H:=by simp
  have h2:((H++E).drop H.length)=E:=by simp
  simp only[h1]
  rw[reach_app _ _ _ _ _ _ (fun r hr=>by
    obtain ⟨b, hb, hr⟩:=List.mem_flatMap.1 hr
    exact hC.refs b hb r hr), hr]
  unfold St.normBy
  simp only[h1, h2]
  rw[dropped_ro ks E _ hE]
  have hc:closedBy (renOf H.length ks) (H++ks.map fun r=>(H++E).getD r .gone)=true:=by
    unfold closedBy
    rw[List.all_eq_true]
    intro b hb
    rw[List.all_eq_true]
    intro q hq
    rcases List.mem_append.1 hb with hb | hb
    · have:=hC.refs b hb q hq
      unfold renOf
      rw[if_pos this]
      rfl
    · obtain ⟨r, h3, rfl⟩:=List.mem_map.1 hb
      rw[hk r h3] at hq
      cases hq
  simp only[hc, roFit, roMark, Bool.and_self, normIf, hi]
  rw[List.map_append, hK]
  have h4:H.map (Blk.ren (renOf H.length ks) (famRen (H++E) H.length ks))=H:=by
    rw[List.map_congr_left (g:=id) (fun b hb=>hC.ren b hb _ _ (fun r hr=>by unfold renOf; rw[if_pos hr]) (fun r hr=>by unfold famRen; rw[if_pos hr])), List.map_id]
  rw[h4]
/-- What a function owes at its end. -/
def PostC (base:Nat) (res:List ResV) (v:AV) (H':Heap) (e:Ex) (s:St):Prop:=(e = .normal∨e = .ret)∧∃ u, results res s=some u∧(tidy base u s.heap).tmps.getD 0 .dead=v∧(tidy base u s.heap).heap=H'
theorem runC_of {C:Ctx} {f:Nat} (fn:AFn) {args:List AV} {H H':Heap} {v:AV} (hf:C.code f=some fn) (h : @withStI (enter fn args H) ⟨aw (RunOf C) (PRun C) fn.body (PostC H.length fn.res v H')⟩):RunOf C f args H v H':=by
  unfold withStI at h
  obtain ⟨e, s, h1, he, u, h2, rfl, rfl⟩:=aw_sound _ _ _ h
  exact .run hf h1 he h2
end Ago
/- Heaps of rows that have no references, of a length that is not told. -/
set_option maxRecDepth 100000
set_option maxHeartbeats 4000000
namespace Ago
open Go (IntKind)

/-- Every block is a row of its own, and no element has a reference. -/
def Flat (H:Heap):Prop:=∀ j b, H[j]?=some b→∃ n els, b=Blk.row n els false true j
theorem Flat.nil:Flat []:=fun j b h=>by simp at h
theorem Flat.push {H:Heap} (h:Flat H) (n:Nat) (els:List AV):Flat (H++[.row n els false true H.length]):=fun j b hj=>by
  by_cases hlt:j<H.length
  · rw[List.getElem?_append_left hlt] at hj
    exact h j b hj
  · rw[List.getElem?_append_right (by omega)] at hj
    have e:j-H.length=0:=by
      have:=(List.getElem?_eq_some_iff.1 hj).1
      simp at this
      omega
    rw[e] at hj
    obtain rfl:j=H.length:=by omega
    cases hj
    exact ⟨n, els, rfl⟩
theorem Flat.set {H:Heap} (h:Flat H) (r n:Nat) (els:List AV):Flat (H.set r (.row n els false true r)):=fun j b hj=>by
  rw[List.getElem?_set] at hj
  split at hj
  · rename_i e
    subst e
    split at hj
    · cases hj
      exact ⟨n, els, rfl⟩
    · cases hj
  · exact h j b hj
theorem strikeGo_flat (r k:Nat) : ∀ (H:Heap) (i:Nat), (∀ j b, H[j]?=some b→∃ n els, b=Blk.row n els false true (i+j))→strikeGo r r k H i=some H
  | [], _, _=>rfl
  | b::H, i, h=>by
    have ih:=strikeGo_flat r k H (i+1) fun j b hj=>by
      obtain ⟨n, els, e⟩:=h (j+1) b (by simpa using hj)
      exact ⟨n, els, by rw[e]; congr 1; omega⟩
    obtain ⟨n, els, rfl⟩:=h 0 b (by simp)
    unfold strikeGo
    rw[ih]
    simp only[Nat.add_zero]
    rw[if_neg (by omega)]
theorem Flat.strike {H:Heap} (h:Flat H) (r k:Nat):strikeGo r r k H 0=some H:=strikeGo_flat r k H 0 fun j b hj=>by
  rw[Nat.zero_add]
  exact h j b hj
theorem Flat.refs {H:Heap} (h:Flat H):H.flatMap Blk.refs=[]:=by
  rw[List.flatMap_eq_nil_iff]
  intro b hb
  obtain ⟨j, hj⟩:=List.getElem?_of_mem hb
  obtain ⟨n, els, rfl⟩:=h j b hj
  rfl
theorem Flat.left {H E:Heap} (h:Flat (H++E)):Flat H:=fun j b hj=>h j b (by
  rw[List.getElem?_append_left (List.getElem?_eq_some_iff.1 hj).1]
  exact hj)

theorem getP0 {H l:Heap} {b:Blk} {m:Nat} (h:m=H.length):(H++b::l)[m]?=some b:=by
  subst h
  rw[List.getElem?_append_right (Nat.le_refl _), Nat.sub_self]
  rfl
theorem getP1 {H l:Heap} {a b:Blk} {m:Nat} (h:m=H.length+1):(H++a::b::l)[m]?=some b:=by
  subst h
  rw[List.getElem?_append_right (by omega), Nat.add_sub_cancel_left]
  rfl
theorem setP1 {H l:Heap} {a b x:Blk} {m:Nat} (h:m=H.length+1):(H++a::b::l).set m x=H++a::x::l:=by
  subst h
  rw[List.set_append_right _ _ (by omega), Nat.add_sub_cancel_left]
  rfl
theorem getL {H l:Heap} {m:Nat} (h:m<H.length):(H++l)[m]?=H[m]?:=List.getElem?_append_left h
/-! ### What the head of a loop keeps -/

theorem Flat.mem {H:Heap} (h:Flat H) : ∀ b, b∈H→∃ n els fam, b=Blk.row n els false true fam:=fun b hb=>by
  obtain ⟨j, hj⟩:=List.getElem?_of_mem hb
  obtain ⟨n, els, rfl⟩:=h j b hj
  exact ⟨n, els, j, rfl⟩
end Ago
/- The names that a schema refers to, gathered in a slice that grows. -/
set_option maxRecDepth 100000
set_option maxHeartbeats 4000000
namespace Ago
open Go (IntKind)
theorem strikeGo_stay (r fam k:Nat) : ∀ (H:Heap) (i:Nat), (∀ j n els ro fl, H[j]?=some (.row n els ro fl fam)→i+j=r∨els.length<k)→strikeGo r fam k H i=some H
  | [], _, _=>rfl
  | b::H, i, h=>by
    have ih:=strikeGo_stay r fam k H (i+1) fun j n els ro fl hj=>by
      have:=h (j+1) n els ro fl hj
      omega
    unfold strikeGo
    rw[ih]
    cases b with
    | row n els ro fl fam'=>
      show (if fam'=fam∧i≠r∧k≤els.length then _ else _)=_
      rw[if_neg]
      rintro ⟨rfl, h1, h2⟩
      have:=h 0 n els ro fl rfl
      omega
    | _=>rfl
theorem strike_stay {H:Heap} {r fam k:Nat} (h : ∀ j n els ro fl, H[j]?=some (.row n els ro fl fam)→j=r∨els.length<k):H.strike r fam k=some H:=strikeGo_stay r fam k H 0 fun j n els ro fl hj=>by
  have:=h j n els ro fl hj
  omega
/-- Families of a heap are numbers of its blocks. -/
def Fb (H:Heap):Prop:=∀ (j n:Nat) (els:List AV) (ro fl:Bool) (f:Nat), H[j]?=some (Blk.row n els ro fl f)→f<H.length
/-- A slice of strings that nobody else writes behind; what comes next has the family fam. -/
inductive Hold (H:Heap):AV→List AV→Nat→Prop
  | nil:Hold H (AV.snil 1) [] H.length
  | row {r fam:Nat} {els:List AV}:els≠[]→H[r]?=some (Blk.row 1 els false true fam)→fam<H.length→(∀ j n e ro fl, H[j]?=some (Blk.row n e ro fl fam)→j=r∨e.length≤els.length)→Hold H (AV.sref 1 r 0 els.length) els fam
theorem Hold.two {H:Heap} {l:AV} {els:List AV} {fam:Nat} (h:Hold H l els fam):(l = .snil 1∧els=[]∧fam=H.length)∨∃ r, l = .sref 1 r 0 els.length∧H[r]?=some (Blk.row 1 els false true fam)∧fam<H.length∧r<H.length∧(∀ j n e ro fl, H[j]?=some (Blk.row n e ro fl fam)→j=r∨e.length≤els.length):=by
  cases h with
  | nil=>exact .inl ⟨rfl, rfl, rfl⟩
  | row h1 h2 h3 h4=>exact .inr ⟨_, rfl, h2, h3, (List.getElem?_eq_some_iff.1 h2).1, h4⟩
def nextV (H:Heap) (l:AV) (els m:List AV):AV:=if m=[] then l else .sref 1 H.length 0 (els++m).length
def nextH (H:Heap) (els m:List AV) (fam:Nat):Heap:=if m=[] then H else H++[.row 1 (els++m) false true fam]
theorem getA {H:Heap} {j:Nat} {b c:Blk} (h:(H++[b])[j]?=some c):H[j]?=some c∨(j=H.length∧b=c):=by
  rcases Nat.lt_or_ge j H.length with hj | hj
  · rw[List.getElem?_append_left hj] at h
    exact .inl h
  · rw[List.getElem?_append_right hj] at h
    have:j-H.length=0:=by
      have:=(List.getElem?_eq_some_iff.1 h).1
      simp at this
      omega
    rw[this] at h
    simp at h
    exact .inr ⟨by omega, h⟩
theorem Hold.fam_le {H:Heap} {l:AV} {els:List AV} {fam:Nat} (h:Hold H l els fam):fam≤H.length:=by
  cases h with
  | nil=>exact Nat.le_refl _
  | row _ _ h _=>omega
theorem Hold.next {H:Heap} {l:AV} {els:List AV} {fam:Nat} (h:Hold H l els fam) (hf:Fb H) (m:List AV):Hold (nextH H els m fam) (nextV H l els m) (els++m) (if m=[] then fam else fam)∧Fb (nextH H els m fam):=by
  have hle:=h.fam_le
  unfold nextH nextV
  by_cases hm:m=[]
  · subst hm
    simp only[if_true, List.append_nil]
    exact ⟨h, hf⟩
  · rw[if_neg hm, if_neg hm, if_neg hm]
    refine ⟨.row (by simp [hm]) (by simp) (by simp; omega) fun j n e ro fl hj=>?_, fun j n e ro fl f hj=>?_⟩
    · rcases getA hj with hj2 | ⟨rfl, hj2⟩
      · cases h with
        | nil=>
          have:=hf _ _ _ _ _ _ hj2
          omega
        | row h1 h2 h3 h4=>
          rcases h4 j n e ro fl hj2 with rfl | h5
          · rw[h2] at hj2
            cases hj2
            simp
          · right
            simp
            omega
      · exact .inl rfl
    · rcases getA hj with hj | ⟨_, hj⟩
      · have:=hf _ _ _ _ _ _ hj
        simp
        omega
      · cases hj
        simp
        omega
theorem Cl.next {H:Heap} {l:AV} {els:List AV} {fam:Nat} (hC:Cl H) (h:Hold H l els fam) (m:List AV):Cl (nextH H els m fam):=by
  unfold nextH
  split
  · exact hC
  · exact hC.push _ _ _ _ h.fam_le
theorem reach_single {H:Heap} {base k q:Nat} {b:Blk} (h1:base≤q) (h2:H[q]?=some b) (h3:b.refs=[]):reach H base (k+2) [q] []=[q]:=by
  rw[reach, if_neg (by omega), if_neg (by simp), h2]
  simp only[h3, List.nil_append]
  rfl
/-- Slots of which one alone refers to the heap. -/
structure OneRef (S:AV→List AV):Prop where
  ren : ∀ f a, (S a).map (AV.renN f 6)=S (AV.renN f 6 a)
  refs : ∀ a, (S a).flatMap (AV.refsN 6)=AV.refsN 6 a
theorem renOf_lowW {m r:Nat} (ks:List Nat) (h:r<m):renOf m ks r=some r:=by
  unfold renOf
  rw[if_pos h]
theorem norm_hold0 {S:AV→List AV} (hS:OneRef S) {live:List Nat} {tm:List AV} {H E:Heap} {m rb:Nat} {a:AV} (hm:m=H.length) (hC:Cl H) (hE : ∀ b, b∈E→b.roB=false) (hL:keepLive live 0 tm=S a) (ha : ∀ r, r∈AV.refsN 6 a→r<m)
    (hr : ∀ f:Nat→Option Nat, (∀ r, r<m→f r=some r)→AV.renN f 6 a=a):St.norm live ⟨tm, H++E, m, rb⟩=⟨S a, H, m, 0⟩:=by
  have:=norm_cl (rb:=rb) (ks:=[]) (K:=[]) (L':=S a) hm hC hE hL (by rw[hS.refs]; exact reach_lowC _ _ _ _ _ ha) (by simp) (by rw[hS.ren, hr _ fun r hr=>renOf_lowW _ hr]) rfl
  rw[List.append_nil] at this
  exact this
theorem norm_hold1 {S:AV→List AV} (hS:OneRef S) {live:List Nat} {tm:List AV} {H E:Heap} {m rb q n fam:Nat} {els:List AV} (hm:m=H.length) (hC:Cl H) (hE : ∀ b, b∈E→b.roB=false) (hL:keepLive live 0 tm=S (.sref 1 q 0 n)) (hq:m≤q)
    (hb:(H++E)[q]?=some (.row 1 els false true fam)):St.norm live ⟨tm, H++E, m, rb⟩=⟨S (.sref 1 m 0 n), H++[.row 1 els false true (if fam<m then fam else m)], m, 0⟩:=by
  refine norm_cl (ks:=[q]) hm hC hE hL (by rw[hS.refs]; exact reach_single hq hb rfl) (fun r hr=>?_) ?_ ?_
  · rw[List.mem_singleton.1 hr, List.getD_eq_getElem?_getD, hb]
    rfl
  · rw[hS.ren]
    congr 1
    simp only[AV.renN, renOf]
    rw[if_neg (by omega)]
    simp [List.idxOf?, List.findIdx?, List.findIdx?.go]
  · simp only[List.map_cons, List.map_nil, List.getD_eq_getElem?_getD, hb, Option.getD_some, Blk.ren, if_true, famRen]
    congr 2
    split
    · rfl
    · simp [List.findIdx, List.findIdx.go, hb, Blk.famOf]
theorem one_self:OneRef fun a=>[a]:=⟨fun _ _=>rfl, fun a=>by simp⟩
theorem post_hold0 {m:Nat} {res:List ResV} {a:AV} {H E:Heap} {tm:List AV} {b rb:Nat} {e:Ex} (he:e = .normal∨e = .ret) (hres:results res ⟨tm, H++E, b, rb⟩=some a) (hm:m=H.length) (hC:Cl H) (hE : ∀ b, b∈E→b.roB=false) (ha : ∀ r, r∈AV.refsN 6 a→r<m)
    (hr : ∀ f:Nat→Option Nat, (∀ r, r<m→f r=some r)→AV.renN f 6 a=a):PostC m res a H e ⟨tm, H++E, b, rb⟩:=by
  have:=norm_hold0 (rb:=0) one_self (live:=[0]) (tm:=[a]) hm hC hE rfl ha hr
  refine ⟨he, a, hres, ?_, ?_⟩
  · unfold tidy
    rw[this]
    rfl
  · unfold tidy
    rw[this]
theorem post_hold1 {m:Nat} {res:List ResV} {H E:Heap} {tm:List AV} {b rb q n fam:Nat} {els:List AV} {e:Ex} (he:e = .normal∨e = .ret) (hres:results res ⟨tm, H++E, b, rb⟩=some (.sref 1 q 0 n)) (hm:m=H.length) (hC:Cl H) (hE : ∀ b, b∈E→b.roB=false) (hq:m≤q)
    (hb:(H++E)[q]?=some (.row 1 els false true fam)):PostC m res (.sref 1 m 0 n) (H++[.row 1 els false true (if fam<m then fam else m)]) e ⟨tm, H++E, b, rb⟩:=by
  have:=norm_hold1 (rb:=0) one_self (live:=[0]) (tm:=[.sref 1 q 0 n]) hm hC hE rfl hq hb
  refine ⟨he, _, hres, ?_, ?_⟩
  · unfold tidy
    rw[this]
    rfl
  · unfold tidy
    rw[this]
theorem Hold.low {H:Heap} {l:AV} {els:List AV} {fam:Nat} (h:Hold H l els fam):(∀ r, r∈AV.refsN 6 l→r<H.length)∧∀ f:Nat→Option Nat, (∀ r, r<H.length→f r=some r)→AV.renN f 6 l=l:=by
  cases h with
  | nil=>exact ⟨fun r hr=>by simp [AV.refsN] at hr, fun f _=>rfl⟩
  | row h1 h2 h3 h4=>
    have:=(List.getElem?_eq_some_iff.1 h2).1
    refine ⟨fun r hr=>?_, fun f hf=>?_⟩
    · simp only[AV.refsN, List.mem_singleton] at hr
      omega
    · simp only[AV.renN]
      rw[hf _ this]
theorem ro_cons {b:Blk} {E:Heap} (h1:b.roB=false) (h2 : ∀ b, b∈E→b.roB=false) : ∀ x, x∈b::E→x.roB=false:=fun x hx=>by
  rcases List.mem_cons.1 hx with rfl | hx
  · exact h1
  · exact h2 x hx
theorem ro_nil : ∀ b, b∈([]:Heap)→b.roB=false:=fun b h=>by cases h
theorem Hold.fam_if {H:Heap} {l:AV} {els:List AV} {fam:Nat} (h:Hold H l els fam):(if fam<H.length then fam else H.length)=fam:=by
  have:=h.fam_le
  split<;>omega
theorem Hold.fam_nil {H:Heap} {l:AV} {els:List AV} {fam:Nat} (h:Hold H l els fam) (he:els=[]):fam=H.length:=by
  cases h with
  | nil=>rfl
  | row h1 _ _ _=>exact (h1 he).elim
theorem Fb.push {H:Heap} (h:Fb H) {n:Nat} {els:List AV} {ro fl:Bool} {f:Nat} (hf:f≤H.length):Fb (H++[.row n els ro fl f]):=fun j n' e ro' fl' f' hj=>by
  rcases getA hj with hj2 | ⟨_, hj2⟩
  · have:=h _ _ _ _ _ _ hj2
    simp
    omega
  · cases hj2
    simp
    omega
theorem strike_two {H:Heap} {r fam:Nat} {els:List AV} (hf:fam<H.length) (h4 : ∀ j n e ro fl, H[j]?=some (Blk.row n e ro fl fam)→j=r∨e.length≤els.length) (n1 n2:Nat) (e1 e2:List AV) :
    strikeGo r fam (els.length+1) (H++[.row n1 e1 false true H.length, .row n2 e2 false true (H.length+1)]) 0=some (H++[.row n1 e1 false true H.length, .row n2 e2 false true (H.length+1)]):=strike_stay fun j n' e ro' fl' hj=>by
  rw[show H++[Blk.row n1 e1 false true H.length, Blk.row n2 e2 false true (H.length+1)]=(H++[Blk.row n1 e1 false true H.length])++[Blk.row n2 e2 false true (H.length+1)] by simp] at hj
  rcases getA hj with hj2 | ⟨_, h⟩
  · rcases getA hj2 with hj3 | ⟨_, h⟩
    · have:=h4 _ _ _ _ _ hj3
      omega
    · cases h
      omega
  · cases h
    omega
theorem Hold.box {H:Heap} {l:AV} {els:List AV} {fam:Nat} (h:Hold H l els fam) (n:Nat) (e:List AV) (ro fl:Bool) : ∃ fam2, Hold (H++[.row n e ro fl H.length]) l els fam2∧(fam2=fam∨(els=[]∧H.length≤fam2)):=by
  cases h with
  | nil=>exact ⟨_, .nil, .inr ⟨rfl, by simp⟩⟩
  | row h1 h2 h3 h4=>
    have hr:=(List.getElem?_eq_some_iff.1 h2).1
    refine ⟨fam, .row h1 (by rw[List.getElem?_append_left hr]; exact h2) (by simp; omega) (fun j n' e' ro' fl' hj=>?_), .inl rfl⟩
    rcases getA hj with hj2 | ⟨_, hj2⟩
    · exact h4 _ _ _ _ _ hj2
    · cases hj2
      omega
end Ago
/- Automata: what is given, few, the reference's state, Next. -/
set_option maxRecDepth 100000
set_option maxHeartbeats 4000000
namespace Ago
open Go (IntKind)
structure Arc where
  lo:Int
  hi:Int
  next:Int
structure Sta where
  acc:Bool
  arcs:List Arc
def encArc (a:Arc):AV:=.agg [.int .i64 a.lo, .int .i64 a.hi, .int .i64 a.next]
def encSta (s:Sta):AV:=.agg [.bool s.acc, .tsl 3 (s.arcs.map encArc)]
def encMa (m:List Sta):AV:=.agg [.tsl 2 (m.map encSta)]
theorem mget {α:Type} {g:α→AV} {l:List α} {k:Nat} {x:α} (hx:l[k]?=some x):(l.map g)[k]?=some (g x):=by rw[List.getElem?_map, hx]; rfl
theorem dropC {α:Type} {l:List α} {k:Nat} {x:α} (hx:l[k]?=some x):l.drop k=x::l.drop (k+1):=by
  obtain ⟨h3, h4⟩:=List.getElem?_eq_some_iff.1 hx
  rw[List.drop_eq_getElem_cons h3, h4]
theorem exAt {α:Type} {l:List α} {k:Nat} (h:k<l.length) : ∃ x, l[k]?=some x:=⟨_, List.getElem?_eq_getElem h⟩
/-! ### few -/
theorem few_run (m:List Sta) (n:Int) (hm:m.length<2^30) : ∃ b, PRun CB 317 [encMa m, .int .i64 n] (.bool b)∧(b=true→(m.length:Int)≤n∧∀ s, s∈m→s.arcs.length≤20):=by
  have h:=prunE_of (C:=CB) (f:=317) (ts:=[encMa m, .int .i64 n]) (k:=fun w=>∃ b, w = .bool b∧(b=true→(m.length:Int)≤n∧∀ s, s∈m→s.arcs.length≤20)) ac317 rfl (by
    unfold encMa
    by_cases hn:(m.length:Int)>n
    · (repeat' first|simp (disch:=omega) only[go_sem, ac317, enter, List.length_map]|(apply spl<;>intro h<;>try simp (disch:=omega) only[go_sem, ac317, enter, List.length_map, h]))
      all_goals first | omega | exact ⟨false, rfl, fun h=>by cases h⟩
    · (repeat' first|simp (disch:=omega) only[go_sem, ac317, enter, List.length_map]|(apply spl<;>intro h<;>try simp (disch:=omega) only[go_sem, ac317, enter, List.length_map, h]))
      all_goals try omega
      refine loop_of (α:=Nat) (fun a=>{ tmps:=slots 26 [(2, .ptr 1 0 0 0), (5, .int .i64 a)], heap:=[.row 1 [.agg [.tsl 2 (m.map encSta)]] false true 0], base:=0 }) (fun a=>a≤m.length∧∀ s, s∈m.take a→s.arcs.length≤20) (fun a=>m.length-a) 0 rfl ⟨Nat.zero_le _, by simp⟩ ?_
      rintro k ⟨hk, hs⟩
      skip
      by_cases hlt:k<m.length
      · obtain ⟨x, hx⟩:=exAt hlt
        have hx2:(m.map encSta)[k]?=some (.agg [.bool x.acc, .tsl 3 (x.arcs.map encArc)]):=mget hx
        by_cases h20:x.arcs.length≤20
        · (repeat' first|simp (disch:=omega) only[go_sem, hx2, List.length_map]|(apply spl<;>intro h<;>try simp (disch:=omega) only[go_sem, hx2, List.length_map, h]))
          all_goals try omega
          refine ⟨k+1, rfl, ⟨hlt, fun y hy=>?_⟩, by omega⟩
          rw[List.take_add_one, hx] at hy
          rcases List.mem_append.1 hy with hy | hy
          · exact hs y hy
          · have e:y=x:=by simpa using hy
            rw[e]
            exact h20
        · (repeat' first|simp (disch:=omega) only[go_sem, hx2, List.length_map]|(apply spl<;>intro h<;>try simp (disch:=omega) only[go_sem, hx2, List.length_map, h]))
          all_goals first | omega | exact ⟨false, rfl, fun h=>by cases h⟩
      · have hk2:k=m.length:=by omega
        rw[hk2, List.take_length] at hs
        (repeat' first|simp (disch:=omega) only[go_sem, List.length_map]|(apply spl<;>intro h<;>try simp (disch:=omega) only[go_sem, List.length_map, h]))
        all_goals first | omega | exact ⟨true, rfl, fun _=>⟨by omega, hs⟩⟩ | exact ⟨true, rfl, fun _=>hs⟩)
  obtain ⟨w, k1, b, rfl, k2⟩:=h
  exact ⟨b, k1, k2⟩
/-! ### the reference's state and Valid -/
def arcsOk (n:Int):Int→List Arc→Bool
  | lo, []=>lo == 256
  | lo, a::l=>decide (a.lo=lo) && decide (lo≤a.hi) && decide (a.hi≤255) && decide (0≤a.next) && decide (a.next<n) && arcsOk n (a.hi+1) l
theorem arcsOk_nil (n lo:Int):arcsOk n lo []=(lo == 256):=(rfl)
theorem arcsOk_cons (n lo:Int) (a:Arc) (l:List Arc):arcsOk n lo (a::l)=(decide (a.lo=lo) && decide (lo≤a.hi) && decide (a.hi≤255) && decide (0≤a.next) && decide (a.next<n) && arcsOk n (a.hi+1) l):=(rfl)
def validM (m:List Sta):Bool:=decide (1≤m.length) && decide (m.length≤1024) && m.all fun s=>arcsOk m.length 0 s.arcs
theorem state_run (s:Sta) (n:Int) (hs:s.arcs.length<2^30):PRun CB 350 [encSta s, .int .i64 n] (.bool (arcsOk n 0 s.arcs)):=by
  refine prun_of ac350 rfl ?_
  unfold encSta
  (repeat' first|simp (disch:=omega) only[go_sem, ac350, enter, List.length_map]|(apply spl<;>intro h<;>try simp (disch:=omega) only[go_sem, ac350, enter, List.length_map, h]))
  all_goals try omega
  refine loop_of (α:=Nat × Int) (fun a=>{ tmps:=slots 52 [(1, .int .i64 n), (2, .ptr 2 0 0 0), (5, .int .i64 a.2), (6, .int .i64 a.1)], heap:=[.row 2 [.agg [.bool s.acc, .tsl 3 (s.arcs.map encArc)]] false true 0], base:=0 }) (fun a=>a.1≤s.arcs.length∧0≤a.2∧a.2≤256∧arcsOk n a.2 (s.arcs.drop a.1)=arcsOk n 0 s.arcs) (fun a=>s.arcs.length-a.1) (0, 0) rfl ⟨Nat.zero_le _, by decide, by decide, rfl⟩ ?_
  rintro ⟨k, lo⟩ ⟨hk, h1, h2, h3⟩
  simp only at hk h1 h2 h3
  by_cases hlt:k<s.arcs.length
  · obtain ⟨x, hx⟩:=exAt hlt
    have hx2:(s.arcs.map encArc)[k]?=some (.agg [.int .i64 x.lo, .int .i64 x.hi, .int .i64 x.next]):=mget hx
    rw[dropC hx, arcsOk_cons] at h3
    by_cases c:x.lo=lo∧lo≤x.hi∧x.hi≤255∧0≤x.next∧x.next<n
    · obtain ⟨c1, c2, c3, c4, c5⟩:=c
      simp only[c1, c2, c3, c4, c5, decide_true, Bool.true_and] at h3
      (repeat' first|simp (disch:=omega) only[go_sem, hx2, List.length_map]|(apply spl<;>intro h<;>try simp (disch:=omega) only[go_sem, hx2, List.length_map, h]))
      all_goals try omega
      exact ⟨(k+1, x.hi+1), rfl, ⟨hlt, by simp only; omega, by simp only; omega, h3⟩, by simp only; omega⟩
    · have h4:arcsOk n 0 s.arcs=false:=by
        rw[←h3]
        by_cases c1:x.lo=lo<;>by_cases c2:lo≤x.hi<;>by_cases c3:x.hi≤255<;>by_cases c4:0≤x.next<;>by_cases c5:x.next<n<;>simp [c1, c2, c3, c4, c5]
        exact (c ⟨c1, c2, c3, c4, c5⟩).elim
      rw[h4]
      (repeat' first|simp (disch:=omega) only[go_sem, hx2, List.length_map]|(apply spl<;>intro h<;>try simp (disch:=omega) only[go_sem, hx2, List.length_map, h]))
      all_goals omega
  · have hk2:k=s.arcs.length:=by omega
    rw[hk2, List.drop_length, arcsOk_nil] at h3
    rw[←h3]
    (repeat' first|simp (disch:=omega) only[go_sem, List.length_map]|(apply spl<;>intro h<;>try simp (disch:=omega) only[go_sem, List.length_map, h]))
    all_goals first | omega | skip
end Ago
/- Automata: Valid on both sides, a step, Accepts. -/
set_option maxRecDepth 100000
set_option maxHeartbeats 4000000
namespace Ago
open Go (IntKind)
/-- Few states, few arcs. -/
def SmallM (m:List Sta):Prop:=m.length<2^30∧∀ s, s∈m→s.arcs.length<2^30
theorem refValid_run (m:List Sta) (h:SmallM m):PRun CB 326 [encMa m] (.bool (validM m)):=by
  obtain ⟨hm, ha⟩:=h
  refine prun_of ac326 rfl ?_
  unfold encMa
  (repeat' first|simp (disch:=omega) only[go_sem, ac326, enter, List.length_map]|(apply spl<;>intro h<;>try simp (disch:=omega) only[go_sem, ac326, enter, List.length_map, h]))
  all_goals try omega
  refine loop_of (α:=Nat) (fun a=>{ tmps:=slots 31 [(1, .ptr 1 0 0 0), (3, .int .i64 a)], heap:=[.row 1 [.agg [.tsl 2 (m.map encSta)]] false true 0], base:=0 }) (fun a=>a≤m.length∧∀ s, s∈m.take a→arcsOk m.length 0 s.arcs=true) (fun a=>m.length-a) 0 rfl ⟨Nat.zero_le _, by simp⟩ ?_
  rintro k ⟨hk, hs⟩
  by_cases hlt:k<m.length
  · obtain ⟨x, hx⟩:=exAt hlt
    have hxm:=List.mem_of_getElem? hx
    have hx2:(m.map encSta)[k]?=some (.agg [.bool x.acc, .tsl 3 (x.arcs.map encArc)]):=mget hx
    have h3:=state_run x m.length (ha x hxm)
    unfold encSta at h3
    cases hv:arcsOk m.length 0 x.arcs with
    | true=>
      rw[hv] at h3
      (repeat' first|simp (disch:=omega) only[go_sem, hx2, List.length_map]|refine pure_of _ (h3) ?_|(apply spl<;>intro h<;>try simp (disch:=omega) only[go_sem, hx2, List.length_map , h]))
      all_goals try omega
      refine ⟨k+1, rfl, ⟨hlt, fun y hy=>?_⟩, by omega⟩
      rw[List.take_add_one, hx] at hy
      rcases List.mem_append.1 hy with hy | hy
      · exact hs y hy
      · have e:y=x:=by simpa using hy
        rw[e]
        exact hv
    | false=>
      have h4:validM m=false:=by
        unfold validM
        have:(m.all fun s=>arcsOk m.length 0 s.arcs)=false:=by
          rw[List.all_eq_false]
          exact ⟨x, hxm, by rw[hv]; simp⟩
        rw[this, Bool.and_false]
      rw[hv] at h3
      rw[h4]
      (repeat' first|simp (disch:=omega) only[go_sem, hx2, List.length_map]|refine pure_of _ (h3) ?_|(apply spl<;>intro h<;>try simp (disch:=omega) only[go_sem, hx2, List.length_map , h]))
      all_goals omega
  · have hk2:k=m.length:=by omega
    rw[hk2, List.take_length] at hs
    have h4:validM m=(decide (1≤m.length) && decide (m.length≤1024)):=by
      unfold validM
      have:(m.all fun s=>arcsOk m.length 0 s.arcs)=true:=List.all_eq_true.2 hs
      rw[this, Bool.and_true]
    rw[h4]
    by_cases c1:1≤m.length<;>by_cases c2:m.length≤1024<;>simp only[c1, c2, decide_true, decide_false, Bool.and_true, Bool.and_false, Bool.true_and, Bool.false_and]<;>(repeat' first|simp (disch:=omega) only[go_sem, List.length_map]|(apply spl<;>intro h<;>try simp (disch:=omega) only[go_sem, List.length_map, h]))<;>omega
theorem validM_false {m:List Sta} {x:Sta} (hx:x∈m) (h:arcsOk m.length 0 x.arcs=false):validM m=false:=by
  unfold validM
  have:(m.all fun s=>arcsOk m.length 0 s.arcs)=false:=by
    rw[List.all_eq_false]
    exact ⟨x, hx, by rw[h]; simp⟩
  rw[this, Bool.and_false]
theorem valid_run (m:List Sta) (h:SmallM m):PRun CB 231 [encMa m] (.bool (validM m)):=by
  obtain ⟨hm, ha⟩:=h
  refine prun_of ac231 rfl ?_
  unfold encMa
  by_cases hlen:m.length<1∨1024<m.length
  · have h4:validM m=false:=by
      unfold validM
      by_cases c1:1≤m.length<;>by_cases c2:m.length≤1024<;>simp only[c1, c2, decide_true, decide_false, Bool.and_true, Bool.and_false, Bool.true_and, Bool.false_and]
      omega
    rw[h4]
    (repeat' first|simp (disch:=omega) only[go_sem, ac231, enter, List.length_map]|(apply spl<;>intro h<;>try simp (disch:=omega) only[go_sem, ac231, enter, List.length_map, h]))
    all_goals omega
  (repeat' first|simp (disch:=omega) only[go_sem, ac231, enter, List.length_map]|(apply spl<;>intro h<;>try simp (disch:=omega) only[go_sem, ac231, enter, List.length_map, h]))
  all_goals try omega
  refine loop_of (α:=Nat) (fun a=>{ tmps:=slots 68 [(1, .ptr 1 0 0 0), (19, .tsl 2 (m.map encSta)), (20, .int .i64 m.length), (21, .int .i64 a)], heap:=[.row 1 [.agg [.tsl 2 (m.map encSta)]] false true 0], base:=0 }) (fun a=>a≤m.length∧∀ s, s∈m.take a→arcsOk m.length 0 s.arcs=true) (fun a=>m.length-a) 0 rfl ⟨Nat.zero_le _, by simp⟩ ?_
  rintro k ⟨hk, hs⟩
  by_cases hlt:k<m.length
  · obtain ⟨x, hx⟩:=exAt hlt
    have hxm:=List.mem_of_getElem? hx
    have hxa:=ha x hxm
    have hx2:(m.map encSta)[k]?=some (.agg [.bool x.acc, .tsl 3 (x.arcs.map encArc)]):=mget hx
    (repeat' first|simp (disch:=omega) only[go_sem, hx2, List.length_map]|(apply spl<;>intro h<;>try simp (disch:=omega) only[go_sem, hx2, List.length_map, h]))
    all_goals try omega
    refine loop_of (α:=Nat × Int) (fun a=>{ tmps:=slots 68 [(1, .ptr 1 0 0 0), (5, .int .i64 a.2), (19, .tsl 2 (m.map encSta)), (20, .int .i64 m.length), (21, .int .i64 k), (26, .tsl 3 (x.arcs.map encArc)), (27, .int .i64 x.arcs.length), (28, .int .i64 a.1)], heap:=[.row 1 [.agg [.tsl 2 (m.map encSta)]] false true 0], base:=0 }) (fun a=>a.1≤x.arcs.length∧0≤a.2∧a.2≤256∧arcsOk m.length a.2 (x.arcs.drop a.1)=arcsOk m.length 0 x.arcs) (fun a=>x.arcs.length-a.1) (0, 0) rfl ⟨Nat.zero_le _, by decide, by decide, rfl⟩ ?_
    rintro ⟨j, lo⟩ ⟨hj, h1, h2, h3⟩
    simp only at hj h1 h2 h3
    by_cases hjt:j<x.arcs.length
    · obtain ⟨y, hy⟩:=exAt hjt
      have hy2:(x.arcs.map encArc)[j]?=some (.agg [.int .i64 y.lo, .int .i64 y.hi, .int .i64 y.next]):=mget hy
      rw[dropC hy, arcsOk_cons] at h3
      by_cases c:y.lo=lo∧lo≤y.hi∧y.hi≤255∧0≤y.next∧y.next<m.length
      · obtain ⟨c1, c2, c3, c4, c5⟩:=c
        simp only[c1, c2, c3, c4, c5, decide_true, Bool.true_and] at h3
        (repeat' first|simp (disch:=omega) only[go_sem, hy2, List.length_map]|(apply spl<;>intro h<;>try simp (disch:=omega) only[go_sem, hy2, List.length_map, h]))
        all_goals try omega
        exact ⟨(j+1, y.hi+1), rfl, ⟨hjt, by simp only; omega, by simp only; omega, h3⟩, by simp only; omega⟩
      · have h4:arcsOk m.length 0 x.arcs=false:=by
          rw[←h3]
          by_cases c1:y.lo=lo<;>by_cases c2:lo≤y.hi<;>by_cases c3:y.hi≤255<;>by_cases c4:0≤y.next<;>by_cases c5:y.next<m.length<;>simp [c1, c2, c3, c4, c5]
          exact (c ⟨c1, c2, c3, c4, c5⟩).elim
        rw[validM_false hxm h4]
        (repeat' first|simp (disch:=omega) only[go_sem, hy2, List.length_map]|(apply spl<;>intro h<;>try simp (disch:=omega) only[go_sem, hy2, List.length_map, h]))
        all_goals omega
    · have hj2:j=x.arcs.length:=by omega
      rw[hj2, List.drop_length, arcsOk_nil] at h3
      by_cases c:lo=256
      · have hv:arcsOk m.length 0 x.arcs=true:=by
          rw[←h3, c]
          rfl
        (repeat' first|simp (disch:=omega) only[go_sem, List.length_map]|(apply spl<;>intro h<;>try simp (disch:=omega) only[go_sem, List.length_map, h]))
        all_goals try omega
        refine ⟨k+1, rfl, ⟨hlt, fun y hy=>?_⟩, by omega⟩
        rw[List.take_add_one, hx] at hy
        rcases List.mem_append.1 hy with hy | hy
        · exact hs y hy
        · have e:y=x:=by simpa using hy
          rw[e]
          exact hv
      · have h4:arcsOk m.length 0 x.arcs=false:=by
          rw[←h3]
          simpa using c
        rw[validM_false hxm h4]
        (repeat' first|simp (disch:=omega) only[go_sem, List.length_map]|(apply spl<;>intro h<;>try simp (disch:=omega) only[go_sem, List.length_map, h]))
        all_goals omega
  · have hk2:k=m.length:=by omega
    rw[hk2, List.take_length] at hs
    have h4:validM m=true:=by
      unfold validM
      have:(m.all fun s=>arcsOk m.length 0 s.arcs)=true:=List.all_eq_true.2 hs
      rw[this]
      simp
      omega
    rw[h4]
    (repeat' first|simp (disch:=omega) only[go_sem, List.length_map]|(apply spl<;>intro h<;>try simp (disch:=omega) only[go_sem, List.length_map, h]))
    all_goals omega
end Ago
/- Automata: a step, Accepts, the law AutomatonValids. -/
set_option maxRecDepth 100000
set_option maxHeartbeats 4000000
namespace Ago
open Go (IntKind)
def nextGo (b:Int):List Arc→Int
  | []=>0
  | a::l=>if a.lo≤b∧b≤a.hi then a.next else nextGo b l
theorem nextGo_nil (b:Int):nextGo b []=0:=(rfl)
theorem nextGo_cons (b:Int) (a:Arc) (l:List Arc):nextGo b (a::l)=if a.lo≤b∧b≤a.hi then a.next else nextGo b l:=(rfl)
theorem next_in {n:Int} {b:Int} : ∀ (l:List Arc) (lo:Int), arcsOk n lo l=true→lo≤b→b<256→0≤nextGo b l∧nextGo b l<n
  | [], lo, h, hb, hb2=>by
    rw[arcsOk_nil] at h
    have:lo=256:=by simpa using h
    omega
  | a::l, lo, h, hb, hb2=>by
    rw[arcsOk_cons] at h
    simp only[Bool.and_eq_true, decide_eq_true_eq] at h
    obtain ⟨⟨⟨⟨⟨h1, h2⟩, h3⟩, h4⟩, h5⟩, h6⟩:=h
    rw[nextGo_cons]
    by_cases c:a.lo≤b∧b≤a.hi
    · rw[if_pos c]
      exact ⟨h4, h5⟩
    · rw[if_neg c]
      exact next_in l _ h6 (by omega) hb2
theorem next_run (m:List Sta) (h:SmallM m) (q:Nat) (x:Sta) (hx:m[q]?=some x) (b:Int):PRun CB 351 [encMa m, .int .i64 q, .int .i64 b] (.int .i64 (nextGo b x.arcs)):=by
  obtain ⟨hm, ha⟩:=h
  have hxm:=List.mem_of_getElem? hx
  have hxa:=ha x hxm
  have hq:=(List.getElem?_eq_some_iff.1 hx).1
  have hx2:(m.map encSta)[q]?=some (.agg [.bool x.acc, .tsl 3 (x.arcs.map encArc)]):=mget hx
  refine prun_of ac351 rfl ?_
  unfold encMa
  (repeat' first|simp (disch:=omega) only[go_sem, ac351, enter, List.length_map]|(apply spl<;>intro h<;>try simp (disch:=omega) only[go_sem, ac351, enter, List.length_map, h]))
  all_goals try omega
  refine loop_of (α:=Nat) (fun a=>{ tmps:=slots 41 [(1, .int .i64 q), (2, .int .i64 b), (3, .ptr 1 0 0 0), (7, .int .i64 a)], heap:=[.row 1 [.agg [.tsl 2 (m.map encSta)]] false true 0], base:=0 }) (fun a=>a≤x.arcs.length∧nextGo b (x.arcs.drop a)=nextGo b x.arcs) (fun a=>x.arcs.length-a) 0 rfl ⟨Nat.zero_le _, rfl⟩ ?_
  rintro j ⟨hj, h3⟩
  by_cases hjt:j<x.arcs.length
  · obtain ⟨y, hy⟩:=exAt hjt
    have hy2:(x.arcs.map encArc)[j]?=some (.agg [.int .i64 y.lo, .int .i64 y.hi, .int .i64 y.next]):=mget hy
    rw[dropC hy, nextGo_cons] at h3
    by_cases c1:y.lo≤b<;>by_cases c2:b≤y.hi
    · rw[if_pos ⟨c1, c2⟩] at h3
      rw[←h3]
      (repeat' first|simp (disch:=omega) only[go_sem, hx2, hy2, List.length_map]|(apply spl<;>intro h<;>try simp (disch:=omega) only[go_sem, hx2, hy2, List.length_map, h]))
      all_goals omega
    all_goals
      rw[if_neg (by omega)] at h3
      (repeat' first|simp (disch:=omega) only[go_sem, hx2, hy2, List.length_map]|(apply spl<;>intro h<;>try simp (disch:=omega) only[go_sem, hx2, hy2, List.length_map, h]))
      all_goals try omega
      exact ⟨j+1, rfl, ⟨hjt, h3⟩, by omega⟩
  · have hj2:j=x.arcs.length:=by omega
    rw[hj2, List.drop_length, nextGo_nil] at h3
    rw[←h3]
    (repeat' first|simp (disch:=omega) only[go_sem, hx2, List.length_map]|(apply spl<;>intro h<;>try simp (disch:=omega) only[go_sem, hx2, List.length_map, h]))
    all_goals omega
theorem valid_arcs {m:List Sta} (h:validM m=true) {x:Sta} (hx:x∈m):arcsOk m.length 0 x.arcs=true:=by
  unfold validM at h
  simp only[Bool.and_eq_true] at h
  exact List.all_eq_true.1 h.2 x hx
theorem valid_len {m:List Sta} (h:validM m=true):1≤m.length:=by
  unfold validM at h
  simp only[Bool.and_eq_true, decide_eq_true_eq] at h
  exact h.1.1
end Ago
/- The strings that an automaton accepts, in order; the plain law of Some. -/
set_option maxRecDepth 100000
set_option maxHeartbeats 4000000
namespace Ago
open Go (IntKind)
def accM (m:List Sta) (q:Nat):Bool:=match m[q]? with
  | some x=>x.acc
  | none=>false
def nxtM (m:List Sta) (q:Nat) (b:Nat):Nat:=match m[q]? with
  | some x=>(nextGo b x.arcs).toNat
  | none=>0
/-- From which states is a string of n bytes accepted? -/
def rowM (m:List Sta):Nat→List Bool
  | 0=>m.map (·.acc)
  | n+1=>m.map fun s=>s.arcs.any fun a=>(rowM m n).getD a.next.toNat false
/-- All strings of n bytes that are accepted from a state, in order. -/
def allS (m:List Sta):Nat→Nat→List (List UInt8)
  | 0, q=>if accM m q=true then [[]] else []
  | n+1, q=>(List.range 256).flatMap fun b=>(allS m n (nxtM m q b)).map (UInt8.ofNat b :: ·)
theorem rowM_len (m:List Sta) : ∀ n, (rowM m n).length=m.length
  | 0=>by simp [rowM]
  | n+1=>by simp [rowM]
theorem rowM_at {m:List Sta} {q:Nat} {x:Sta} (hx:m[q]?=some x) : ∀ n, (rowM m n)[q]?=some (match n with
  | 0=>x.acc
  | n+1=>x.arcs.any fun a=>(rowM m n).getD a.next.toNat false)
  | 0=>by simp [rowM, hx]
  | n+1=>by simp [rowM, hx]
/-- Which bytes an arc takes. -/
theorem arcs_cover {n:Int} : ∀ (l:List Arc) (lo:Int), arcsOk n lo l=true→0≤lo→∀ b:Int, lo≤b→b<256→∃ a, a∈l∧a.lo≤b∧b≤a.hi∧nextGo b l=a.next
  | [], lo, h, h0, b, h1, h2=>by
    rw[arcsOk_nil] at h
    have:lo=256:=by simpa using h
    omega
  | a::l, lo, h, h0, b, h1, h2=>by
    rw[arcsOk_cons] at h
    simp only[Bool.and_eq_true, decide_eq_true_eq] at h
    obtain ⟨⟨⟨⟨⟨k1, k2⟩, k3⟩, k4⟩, k5⟩, k6⟩:=h
    by_cases hb:b≤a.hi
    · refine ⟨a, by simp, by omega, hb, ?_⟩
      rw[nextGo_cons, if_pos ⟨by omega, hb⟩]
    · obtain ⟨c, c1, c2, c3, c4⟩:=arcs_cover l (a.hi+1) k6 (by omega) b (by omega) h2
      refine ⟨c, by simp [c1], c2, c3, ?_⟩
      rw[nextGo_cons, if_neg (by omega), c4]
theorem arcs_hit {n:Int} : ∀ (l:List Arc) (lo:Int), arcsOk n lo l=true→0≤lo→∀ a, a∈l→lo≤a.lo∧a.lo≤a.hi∧a.hi≤255∧0≤a.next∧a.next<n∧∀ b:Int, a.lo≤b→b≤a.hi→nextGo b l=a.next
  | [], lo, h, h0, a, ha=>by cases ha
  | c::l, lo, h, h0, a, ha=>by
    rw[arcsOk_cons] at h
    simp only[Bool.and_eq_true, decide_eq_true_eq] at h
    obtain ⟨⟨⟨⟨⟨k1, k2⟩, k3⟩, k4⟩, k5⟩, k6⟩:=h
    rcases List.mem_cons.1 ha with rfl | ha
    · refine ⟨by omega, by omega, k3, k4, k5, fun b h1 h2=>?_⟩
      rw[nextGo_cons, if_pos ⟨h1, h2⟩]
    · obtain ⟨j1, j2, j3, j4, j5, j6⟩:=arcs_hit l (c.hi+1) k6 (by omega) a ha
      refine ⟨by omega, j2, j3, j4, j5, fun b h1 h2=>?_⟩
      rw[nextGo_cons, if_neg (by omega), j6 b h1 h2]
theorem nxt_at {m:List Sta} {q:Nat} {x:Sta} (hx:m[q]?=some x) (b:Nat):nxtM m q b=(nextGo b x.arcs).toNat:=by
  unfold nxtM
  rw[hx]
theorem nxt_lt {m:List Sta} (hv:validM m=true) {q:Nat} (hq:q<m.length) {b:Nat} (hb:b<256):nxtM m q b<m.length:=by
  obtain ⟨x, hx⟩:=exAt hq
  rw[nxt_at hx]
  have:=next_in x.arcs 0 (valid_arcs hv (List.mem_of_getElem? hx)) (b:=(b:Int)) (by omega) (by omega)
  omega
/-- A row tells where a string is found. -/
theorem row_iff {m:List Sta} (hv:validM m=true) : ∀ (n q:Nat), q<m.length→((rowM m n).getD q false=true↔allS m n q≠[])
  | 0, q, hq=>by
    obtain ⟨x, hx⟩:=exAt hq
    have h:=rowM_at hx 0
    rw[List.getD_eq_getElem?_getD, h]
    unfold allS accM
    rw[hx]
    cases hb:x.acc<;>simp [hb]
  | n+1, q, hq=>by
    obtain ⟨x, hx⟩:=exAt hq
    have h:=rowM_at hx (n+1)
    have ha:=valid_arcs hv (List.mem_of_getElem? hx)
    rw[List.getD_eq_getElem?_getD, h]
    show (x.arcs.any fun a=>(rowM m n).getD a.next.toNat false)=true↔_
    rw[List.any_eq_true]
    constructor
    · rintro ⟨a, h1, h2⟩ he
      obtain ⟨j1, j2, j3, j4, j5, j6⟩:=arcs_hit x.arcs 0 ha (Int.le_refl _) a h1
      have hn:=(row_iff hv n a.next.toNat (by omega)).1 h2
      have:a.lo.toNat∈List.range 256:=List.mem_range.2 (by omega)
      have hz:=(List.flatMap_eq_nil_iff.1 he) _ this
      rw[List.map_eq_nil_iff, nxt_at hx, show ((a.lo.toNat:Nat):Int)=a.lo by omega, j6 a.lo (Int.le_refl _) j2] at hz
      exact hn hz
    · intro he
      obtain ⟨b, hb, hz⟩ : ∃ b, b∈List.range 256∧allS m n (nxtM m q b)≠[]:=by
        cases Classical.em (∃ b, b∈List.range 256∧allS m n (nxtM m q b)≠[]) with
        | inl h=>exact h
        | inr h=>
          exfalso
          refine he ?_
          show List.flatMap _ _=[]
          rw[List.flatMap_eq_nil_iff]
          intro b hb
          rw[List.map_eq_nil_iff]
          cases hc:allS m n (nxtM m q b) with
          | nil=>rfl
          | cons y l=>exact (h ⟨b, hb, by rw[hc]; simp⟩).elim
      have hb2:=List.mem_range.1 hb
      obtain ⟨a, c1, c2, c3, c4⟩:=arcs_cover x.arcs 0 ha (Int.le_refl _) b (by omega) (by omega)
      obtain ⟨j1, j2, j3, j4, j5, j6⟩:=arcs_hit x.arcs 0 ha (Int.le_refl _) a c1
      refine ⟨a, c1, (row_iff hv n _ (by omega)).2 ?_⟩
      rw[nxt_at hx, c4] at hz
      exact hz
/-- The state that is reached. -/
def goM (m:List Sta):Nat→List UInt8→Nat
  | q, []=>q
  | q, c::s=>goM m (nxtM m q c.toNat) s
theorem goM_app (m:List Sta) : ∀ (s t:List UInt8) (q:Nat), goM m q (s++t)=goM m (goM m q s) t
  | [], t, q=>rfl
  | c::s, t, q=>goM_app m s t _
theorem mem_allS (m:List Sta) : ∀ (n q:Nat) (w:List UInt8), w∈allS m n q↔w.length=n∧accM m (goM m q w)=true
  | 0, q, w=>by
    unfold allS
    constructor
    · intro h
      split at h
      · rename_i ha
        have:w=[]:=by simpa using h
        subst this
        exact ⟨rfl, ha⟩
      · cases h
    · rintro ⟨h1, h2⟩
      have:w=[]:=List.length_eq_zero_iff.1 h1
      subst this
      have h2:accM m q=true:=h2
      rw[if_pos h2]
      simp
  | n+1, q, w=>by
    show w∈List.flatMap _ _↔_
    rw[List.mem_flatMap]
    constructor
    · rintro ⟨b, hb, hw⟩
      obtain ⟨u, hu, rfl⟩:=List.mem_map.1 hw
      obtain ⟨h1, h2⟩:=(mem_allS m n _ u).1 hu
      have hb2:=List.mem_range.1 hb
      refine ⟨by simp [h1], ?_⟩
      show accM m (goM m (nxtM m q (UInt8.ofNat b).toNat) u)=true
      rw[UInt8.toNat_ofNat_of_lt' (by omega)]
      exact h2
    · rintro ⟨h1, h2⟩
      cases w with
      | nil=>cases h1
      | cons c u=>
        refine ⟨c.toNat, List.mem_range.2 (UInt8.toNat_lt c), List.mem_map.2 ⟨u, (mem_allS m n _ u).2 ⟨by simpa using h1, h2⟩, ?_⟩⟩
        rw[UInt8.ofNat_toNat]
theorem goM_lt {m:List Sta} (hv:validM m=true) : ∀ (w:List UInt8) (q:Nat), q<m.length→goM m q w<m.length
  | [], q, h=>h
  | c::w, q, h=>goM_lt hv w _ (nxt_lt hv h (UInt8.toNat_lt c))
/-- Of more states than there are, two are the same. -/
theorem twice (f:Nat→Nat) (S:Nat) (hf : ∀ i, i≤S→f i<S) : ∃ i j, i<j∧j≤S∧f i=f j:=by
  cases Classical.em (∃ i j, i<j∧j≤S∧f i=f j) with
  | inl h=>exact h
  | inr h=>
    exfalso
    have hn:((List.range (S+1)).map f).Nodup:=by
      rw[List.nodup_iff_pairwise_ne, List.pairwise_map]
      refine List.pairwise_lt_range.imp_of_mem fun {a b} ha hb hab he=>h ⟨a, b, hab, ?_, he⟩
      have:=List.mem_range.1 hb
      omega
    have:=List.Nodup.length_le_of_subset (l₂:=List.range S) hn fun x hx=>by
      obtain ⟨i, hi, rfl⟩:=List.mem_map.1 hx
      exact List.mem_range.2 (hf i (by have:=List.mem_range.1 hi; omega))
    simp at this
    omega
/-- If no string of as many lengths as there are states is accepted, none of the next length is. -/
theorem pump {m:List Sta} (hv:validM m=true) {q L:Nat} (hq:q<m.length) (h : ∀ k, L<k→k≤L+m.length→allS m k q=[]):allS m (L+m.length+1) q=[]:=by
  cases hc:allS m (L+m.length+1) q with
  | nil=>rfl
  | cons w l=>
    exfalso
    obtain ⟨h1, h2⟩:=(mem_allS m _ q w).1 (by rw[hc]; simp)
    obtain ⟨i, j, hij, hj, he⟩:=twice (fun i=>goM m q (w.take i)) m.length fun i _=>goM_lt hv _ _ hq
    have hw:w=w.take j++w.drop j:=(List.take_append_drop j w).symm
    have h3:accM m (goM m q (w.take i++w.drop j))=true:=by
      rw[goM_app, show goM m q (w.take i)=goM m q (w.take j) from he, ← goM_app, ← hw]
      exact h2
    have hlen:(w.take i++w.drop j).length=L+m.length+1-(j-i):=by
      rw[List.length_append, List.length_take, List.length_drop, h1]
      omega
    have:=(mem_allS m _ q _).2 ⟨hlen, h3⟩
    rw[h _ (by omega) (by omega)] at this
    cases this
end Ago
