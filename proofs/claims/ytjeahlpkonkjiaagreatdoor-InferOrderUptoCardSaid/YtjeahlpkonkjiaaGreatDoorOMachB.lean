/- The relation between the abstract machine's values and heap and the model's values and worlds. -/
import Derived.Test.YtjeahlpkonkjiaaGreatDoorOMachA
import Derived.Deep.AppendSrc
import Derived.Orders
import Derived.Laws.Tables
import Derived.Laws.StructEq
import Derived.Below
import Derived.ChangeKeysEq
import Derived.DeepKeys
import Derived.Laws.MakeOwn
import Derived.Laws.IdiomCopy
set_option linter.unusedSimpArgs false
set_option linter.unusedVariables false
namespace Ago
open Go

abbrev Mem:=Nat→Nat→Option Value

structure Loc where
 blk:Nat
 off:Nat
 size:Nat

def Present (H:Heap) (r:Nat):Prop:=∃ b,H[r]?=some b∧b ≠ .resv

def qqs (L:Loc) (n i len cap tot:Nat) (a:Option Addr):Prop:=
 i+len≤tot∧(0<cap→a=some ⟨L.blk,L.off+i * n,none⟩∧L.off+(i+cap) * n≤L.size)

inductive VRel (fid:FuncId→Option Nat) (M:Mem) (H:Heap) (φ:Nat→Loc):AV→Value→Prop where
 | dead (v:Value):VRel fid M H φ .dead v
 | int (k:IntKind) (n:Int):VRel fid M H φ (.int k n) (.int k n)
 | bool (b:Bool):VRel fid M H φ (.bool b) (.bool b)
 | str (s:ByteArray) (l:List UInt8) (h:s.data.toList=l):VRel fid M H φ (.str l) (.string s)
 | nilp:VRel fid M H φ .nilp (.pointer none)
 | nilf:VRel fid M H φ .nilf .nilFunc
 | nili:VRel fid M H φ .nili .nilIface
 | nilm:VRel fid M H φ .nilm (.map none)
 | snil (n:Nat) (a:Option Addr):VRel fid M H φ (.snil n) (.slice a 0 0)
 | tsl (n:Nat) (l:List AV) (a:Option Addr) (len cap b o:Nat) (vf:Nat→Nat→Value) (hl:l.length=len) (hc:len≤cap) (ha:0<len→a=some ⟨b,o,none⟩)
   (hn : ∀ (i:Nat) (x:AV),l[i]?=some x→x.isPure=true∧x.cells.length=n∧x.cells.all AV.one=true) (hm : ∀ i j,i<len→j<n→M b (o+i * n+j)=some (vf i j))
   (hv : ∀ (i:Nat) (x:AV) (j:Nat) (y:AV),l[i]?=some x→x.cells[j]?=some y→VRel fid M H φ y (vf i j)):VRel fid M H φ (.tsl n l) (.slice a len cap)
 | sref (n r i len cap:Nat) (a:Option Addr) (hc:len≤cap) (ha:0<len→a.isSome=true) (hp:Present H r) (h : ∀ els ro fl fam,H[r]?=some (.row n els ro fl fam)→qqs (φ r) n i len cap els.length a) :
   VRel fid M H φ (.sref n r i len) (.slice a len cap)
 | ptr (n r i off:Nat) (ad:Addr) (hp:Present H r) (h : ∀ els ro fl fam,H[r]?=some (.row n els ro fl fam)→ad=⟨(φ r).blk,(φ r).off+i * n+off,none⟩):VRel fid M H φ (.ptr n r i off) (.pointer (some ad))
 | tptr (cs:List AV) (off b o:Nat) (vf:Nat→Value) (hm : ∀ j,j<cs.length→M b (o+j)=some (vf j)) (hp : ∀ (j:Nat) (y:AV),cs[j]?=some y→y.isPure=true∧y.one=true)
   (hv : ∀ (j:Nat) (y:AV),cs[j]?=some y→VRel fid M H φ y (vf j)):VRel fid M H φ (.tptr cs off) (.pointer (some ⟨b,o+off,none⟩))
 | mref (r b:Nat) (hp:Present H r) (h : ∀ es,H[r]?=some (.map es)→b=(φ r).blk):VRel fid M H φ (.mref r) (.map (some b))
 | agg (cs:List AV) (vs:Array Value) (hl:cs.length=vs.size) (hv : ∀ (i:Nat) (x:AV) (v:Value),cs[i]?=some x→vs[i]?=some v→VRel fid M H φ x v):VRel fid M H φ (.agg cs) (.agg vs)
 | tup (cs:List AV) (vs:Array Value) (hl:cs.length=vs.size) (hv : ∀ (i:Nat) (x:AV) (v:Value),cs[i]?=some x→vs[i]?=some v→VRel fid M H φ x v):VRel fid M H φ (.tup cs) (.tuple vs)
 | fn (f g:Nat) (cs:List AV) (vs:Array Value) (hg:fid g=some f) (hl:cs.length=vs.size) (hv : ∀ (i:Nat) (x:AV) (v:Value),cs[i]?=some x→vs[i]?=some v→VRel fid M H φ x v) :
   VRel fid M H φ (.fn f cs) (.func (.func g) #[] vs)
 | ifc (t:Nat) (x:AV) (v:Value) (hv:VRel fid M H φ x v):VRel fid M H φ (.ifc t x) (.iface t v)

def VRels (fid:FuncId→Option Nat) (M:Mem) (H:Heap) (φ:Nat→Loc) (cs:List AV) (vs:List Value):Prop:=
 cs.length=vs.length∧∀ (i:Nat) (x:AV) (v:Value),cs[i]?=some x→vs[i]?=some v→VRel fid M H φ x v

theorem q1t : ∀ (k:Nat) (x:AV),AV.pureN k x=true→AV.pureN (k+1) x=true
 | 0,_,h=>by cases h
 | k+1,.agg cs,h=>Ki.2 fun y hy=>q1t k y (Ki.1 h y hy)
 | k+1,.tup cs,h=>Ki.2 fun y hy=>q1t k y (Ki.1 h y hy)
 | k+1,.fn _ cs,h=>Ki.2 fun y hy=>q1t k y (Ki.1 h y hy)
 | k+1,.ifc _ v,h=>q1t k v h
 | _+1,.dead,_=>rfl
 | _+1,.int ..,_=>rfl
 | _+1,.bool _,_=>rfl
 | _+1,.str _,_=>rfl
 | _+1,.nilp,_=>rfl
 | _+1,.nilf,_=>rfl
 | _+1,.nili,_=>rfl
 | _+1,.nilm,_=>rfl
 | _+1,.snil _,_=>rfl
 | _+1,.tsl ..,_=>rfl
 | _+1,.tptr ..,_=>rfl
 | _+1,.sref ..,h=>by cases h
 | _+1,.ptr ..,h=>by cases h
 | _+1,.mref _,h=>by cases h
 | _+1,.iref _,h=>by cases h

theorem q4q {x y:AV} {j:Nat} (hx:x.isPure=true) (hy:x.cells[j]?=some y):y.isPure=true:=by
 cases x with
 | agg cs=>exact q1t 5 y (Ki.1 (show cs.all (AV.pureN 5)=true from hx) y (Kc hy))
 | _=>
  simp only[AV.cells] at hy
  cases j with
  | zero=>simp at hy; subst hy; exact hx
  | succ j=>simp at hy

section
variable {fid:FuncId→Option Nat} {M M':Mem} {H H':Heap} {φ φ':Nat→Loc}

theorem VRel.oneCell {x:AV} {v:Value} (h:VRel fid M H φ x v) (h1:x.one=true):v.oneCell'=true:=by
 cases h<;>first | rfl | cases h1

theorem VRels.nil:VRels fid M H φ [] []:=⟨rfl,fun i x v h=>by cases h⟩
theorem VRels.cons {x:AV} {v:Value} {cs:List AV} {vs:List Value} (h:VRel fid M H φ x v) (hs:VRels fid M H φ cs vs):VRels fid M H φ (x::cs) (v::vs):=
 ⟨by simp [hs.1],fun i y u hy hu=>by
  cases i with
  | zero=>simp at hy hu; subst hy; subst hu; exact h
  | succ i=>exact hs.2 i y u (by simpa using hy) (by simpa using hu)⟩
theorem VRels.head {x:AV} {v:Value} {cs:List AV} {vs:List Value} (h:VRels fid M H φ (x::cs) (v::vs)):VRel fid M H φ x v:=h.2 0 x v rfl rfl
theorem VRels.tail {x:AV} {v:Value} {cs:List AV} {vs:List Value} (h:VRels fid M H φ (x::cs) (v::vs)):VRels fid M H φ cs vs:=
 ⟨by have:=h.1; simpa using this,fun i y u hy hu=>h.2 (i+1) y u (by simpa using hy) (by simpa using hu)⟩
theorem VRels.append {cs ds:List AV} {vs us:List Value} (h:VRels fid M H φ cs vs) (h':VRels fid M H φ ds us):VRels fid M H φ (cs++ds) (vs++us):=by
 refine ⟨by simp [h.1,h'.1],fun i x v hx hv=>?_⟩
 rw[Vj] at hx hv
 split at hx
 ·rename_i hlt
  rw[if_pos (h.1▸hlt)] at hv
  exact h.2 i x v hx hv
 ·rename_i hlt
  rw[if_neg (h.1▸hlt)] at hv
  rw[h.1] at hx
  exact h'.2 _ x v hx hv
theorem VRels.take {cs:List AV} {vs:List Value} (h:VRels fid M H φ cs vs) (n:Nat):VRels fid M H φ (cs.take n) (vs.take n):=by
 refine ⟨by simp [h.1],fun i x v hx hv=>?_⟩
 rw[Vw] at hx hv
 split at hx
 ·exact h.2 i x v hx (by simpa [*] using hv)
 ·cases hx
theorem VRels.drop {cs:List AV} {vs:List Value} (h:VRels fid M H φ cs vs) (n:Nat):VRels fid M H φ (cs.drop n) (vs.drop n):=
 ⟨by simp [h.1],fun i x v hx hv=>h.2 (n+i) x v (by simpa using hx) (by simpa using hv)⟩

theorem VRel.aggs {cs:List AV} {v:Value} (h:VRel fid M H φ (.agg cs) v) : ∃ vs,v = .agg vs∧VRels fid M H φ cs vs.toList:=by
 cases h with
 | agg _ vs hl hv=>exact ⟨vs,rfl,by simpa using hl,fun i x v hx hu=>hv i x v hx (by simpa using hu)⟩
theorem VRel.ofAggs {cs:List AV} {vs:List Value} (h:VRels fid M H φ cs vs):VRel fid M H φ (.agg cs) (.agg vs.toArray):=
 .agg cs _ (by simpa using h.1) (fun i x v hx hu=>h.2 i x v hx (by simpa using hu))
theorem VRel.ofTups {cs:List AV} {vs:List Value} (h:VRels fid M H φ cs vs):VRel fid M H φ (.tup cs) (.tuple vs.toArray):=
 .tup cs _ (by simpa using h.1) (fun i x v hx hu=>h.2 i x v hx (by simpa using hu))

theorem VRel.cells {x:AV} {v:Value} (h:VRel fid M H φ x v) (h1:x.cells.all AV.one=true):VRels fid M H φ x.cells v.cells.toList:=by
 cases x with
 | agg cs=>
  obtain ⟨vs,rfl,hs⟩:=h.aggs
  exact hs
 | dead=>simp [AV.cells,AV.one] at h1
 | tup cs=>simp [AV.cells,AV.one] at h1
 | _=>
  have hv:v.cells = #[v]:=by
   have:=h.oneCell (by simp only[AV.cells,K7,VV,VG] at h1; exact h1)
   cases v<;>first | rfl | cases this
  rw[hv]
  exact VRels.cons h VRels.nil


def Blk.le:Blk→Blk→Prop
 | .gone,b=>b = .gone
 | .resv,_=>True
 | .row n els _ _ _,b=>b = .gone∨∃ els' ro' fl' fam',b = .row n els' ro' fl' fam'∧els'.length=els.length
 | .map _,b=>b = .gone∨∃ es',b = .map es'
 | .iter _ _,b=>b = .gone∨∃ s p,b = .iter s p

def HLe (k:Nat) (H H':Heap) (φ φ':Nat→Loc):Prop:=
 H.length≤H'.length∧∀ r b,r<k→H[r]?=some b→∃ b',H'[r]?=some b'∧b.le b'∧(b ≠ .resv→b' ≠ .resv∧φ' r=φ r)

theorem Blk.le_refl (b:Blk):b.le b:=by
 cases b with
 | gone=>rfl
 | resv=>trivial
 | row n els ro fl fam=>exact .inr ⟨els,ro,fl,fam,rfl,rfl⟩
 | map es=>exact .inr ⟨es,rfl⟩
 | iter s p=>exact .inr ⟨s,p,rfl⟩

theorem Blk.le_trans {a b c:Blk} (h:a.le b) (h':b.le c) (hr:a ≠ .resv→b ≠ .resv):a.le c:=by
 cases a with
 | gone=>cases h; exact h'
 | resv=>trivial
 | row n els ro fl fam=>
  rcases h with rfl | ⟨els',ro',fl',fam',rfl,hl⟩
  ·exact .inl h'
  ·rcases h' with rfl | ⟨els2,ro2,fl2,fam2,rfl,hl2⟩
   ·exact .inl rfl
   ·exact .inr ⟨els2,ro2,fl2,fam2,rfl,hl2.trans hl⟩
 | map es=>
  rcases h with rfl | ⟨es',rfl⟩
  ·exact .inl h'
  ·exact h'
 | iter s p=>
  rcases h with rfl | ⟨_,_,rfl⟩
  ·exact .inl h'
  ·exact h'

theorem HLe.refl (k:Nat) (H:Heap) (φ:Nat→Loc):HLe k H H φ φ:=⟨Ko _,fun r b _ h=>⟨b,h,b.le_refl,fun hb=>⟨hb,rfl⟩⟩⟩
theorem HLe.trans {k:Nat} {H1 H2 H3:Heap} {φ1 φ2 φ3:Nat→Loc} (h:HLe k H1 H2 φ1 φ2) (h':HLe k H2 H3 φ2 φ3):HLe k H1 H3 φ1 φ3:=
 ⟨KZ h.1 h'.1,fun r b hr hb=>by
  obtain ⟨b2,h2,l2,e2⟩:=h.2 r b hr hb
  obtain ⟨b3,h3,l3,e3⟩:=h'.2 r b2 hr h2
  exact ⟨b3,h3,Blk.le_trans l2 l3 (fun hb=>(e2 hb).1),fun hb=>⟨(e3 (e2 hb).1).1,((e3 (e2 hb).1).2).trans (e2 hb).2⟩⟩⟩
theorem HLe.mono {k k':Nat} {H H':Heap} {φ φ':Nat→Loc} (h:HLe k H H' φ φ') (hk:k'≤k):HLe k' H H' φ φ':=
 ⟨h.1,fun r b hr hb=>h.2 r b (Nat.lt_of_lt_of_le hr hk) hb⟩

theorem q0b {α:Type} {l:List α} {i:Nat} {x:α} (h:l[i]?=some x):i<l.length:=(Ky.1 h).1

theorem Present.mono (h:HLe H.length H H' φ φ') {r:Nat} (hp:Present H r):Present H' r:=by
 obtain ⟨b,hb,hn⟩:=hp
 obtain ⟨b',h',_,e⟩:=h.2 r b (q0b hb) hb
 exact ⟨b',h',(e hn).1⟩

theorem VRel.mono (hM : ∀ b o v,M b o=some v→M' b o=some v) (h:HLe H.length H H' φ φ') {x:AV} {v:Value} (hx:VRel fid M H φ x v):VRel fid M' H' φ' x v:=by
 induction hx with
 | dead v=>exact .dead v
 | int k n=>exact .int k n
 | bool b=>exact .bool b
 | str s l h=>exact .str s l h
 | nilp=>exact .nilp
 | nilf=>exact .nilf
 | nili=>exact .nili
 | nilm=>exact .nilm
 | snil n a=>exact .snil n a
 | tsl n l a len cap b o vf hl hc ha hn hm hv ih=>exact .tsl n l a len cap b o vf hl hc ha hn (fun i j hi hj=>hM _ _ _ (hm i j hi hj)) ih
 | sref n r i len cap a hc ha hp hs=>
  refine .sref n r i len cap a hc ha (hp.mono h) fun els ro fl fam he=>?_
  obtain ⟨b,hb,hn⟩:=hp
  obtain ⟨b',hb',hle,e⟩:=h.2 r b (q0b hb) hb
  rw[he] at hb'
  cases hb'
  obtain ⟨hn',hφ⟩:=e hn
  cases b with
  | gone=>cases hle
  | resv=>exact (hn rfl).elim
  | row n0 els0 ro0 fl0 fam0=>
   rcases hle with hle | ⟨_,_,_,_,hle,hll⟩
   ·cases hle
   ·cases hle
    rw[hφ,hll]
    exact hs _ _ _ _ hb
  | map es=>rcases hle with hle | ⟨_,hle⟩<;>cases hle
  | iter s p=>rcases hle with hle | ⟨_,_,hle⟩<;>cases hle
 | ptr n r i off ad hp hs=>
  refine .ptr n r i off ad (hp.mono h) fun els ro fl fam he=>?_
  obtain ⟨b,hb,hn⟩:=hp
  obtain ⟨b',hb',hle,e⟩:=h.2 r b (q0b hb) hb
  rw[he] at hb'
  cases hb'
  obtain ⟨hn',hφ⟩:=e hn
  cases b with
  | gone=>cases hle
  | resv=>exact (hn rfl).elim
  | row n0 els0 ro0 fl0 fam0=>
   rcases hle with hle | ⟨_,_,_,_,hle,hll⟩
   ·cases hle
   ·cases hle
    rw[hφ]
    exact hs _ _ _ _ hb
  | map es=>rcases hle with hle | ⟨_,hle⟩<;>cases hle
  | iter s p=>rcases hle with hle | ⟨_,_,hle⟩<;>cases hle
 | tptr cs off b o vf hm hp hv ih=>exact .tptr cs off b o vf (fun j hj=>hM _ _ _ (hm j hj)) hp ih
 | mref r b0 hp hs=>
  refine .mref r b0 (hp.mono h) fun es he=>?_
  obtain ⟨b,hb,hn⟩:=hp
  obtain ⟨b',hb',hle,e⟩:=h.2 r b (q0b hb) hb
  rw[he] at hb'
  cases hb'
  obtain ⟨hn',hφ⟩:=e hn
  cases b with
  | gone=>cases hle
  | resv=>exact (hn rfl).elim
  | row n0 els0 ro0 fl0 fam0=>rcases hle with hle | ⟨_,_,_,_,hle,_⟩<;>cases hle
  | map es=>
   rw[hφ]
   exact hs _ hb
  | iter s p=>rcases hle with hle | ⟨_,_,hle⟩<;>cases hle
 | agg cs vs hl hv ih=>exact .agg cs vs hl ih
 | tup cs vs hl hv ih=>exact .tup cs vs hl ih
 | fn f g cs vs hg hl hv ih=>exact .fn f g cs vs hg hl ih
 | ifc t x v hv ih=>exact .ifc t x v ih

theorem VRels.mono (hM : ∀ b o v,M b o=some v→M' b o=some v) (h:HLe H.length H H' φ φ') {cs:List AV} {vs:List Value} (hx:VRels fid M H φ cs vs):VRels fid M' H' φ' cs vs:=
 ⟨hx.1,fun i x v h1 h2=>(hx.2 i x v h1 h2).mono hM h⟩

theorem VRel.pure {x:AV} {v:Value} (hx:VRel fid M H φ x v) : ∀ (k:Nat),AV.pureN k x=true→VRel fid M H' φ' x v:=by
 induction hx with
 | dead v=>exact fun _ _=>.dead v
 | int k n=>exact fun _ _=>.int k n
 | bool b=>exact fun _ _=>.bool b
 | str s l h=>exact fun _ _=>.str s l h
 | nilp=>exact fun _ _=>.nilp
 | nilf=>exact fun _ _=>.nilf
 | nili=>exact fun _ _=>.nili
 | nilm=>exact fun _ _=>.nilm
 | snil n a=>exact fun _ _=>.snil n a
 | tsl n l a len cap b o vf hl hc ha hn hm hv ih=>
  intro k hk
  refine .tsl n l a len cap b o vf hl hc ha hn hm fun i x j y hi hj=>?_
  have hp:=(hn i x hi).1
  have hy : ∃ k',AV.pureN k' y=true:=by
   cases x with
   | agg cs=>exact ⟨5,Ki.1 (show cs.all (AV.pureN 5)=true from hp) y (Kc hj)⟩
   | _=>
    simp only[AV.cells] at hj
    cases j with
    | zero=>simp at hj; subst hj; exact ⟨6,hp⟩
    | succ j=>simp at hj
  obtain ⟨k',hk'⟩:=hy
  exact ih i x j y hi hj k' hk'
 | sref n r i len cap a hc ha hp hs=>exact fun k hk=>by cases k<;>cases hk
 | ptr n r i off ad hp hs=>exact fun k hk=>by cases k<;>cases hk
 | tptr cs off b o vf hm hp hv ih=>exact fun _ _=>.tptr cs off b o vf hm hp fun j y hj=>ih j y hj 6 (hp j y hj).1
 | mref r b0 hp hs=>exact fun k hk=>by cases k<;>cases hk
 | agg cs vs hl hv ih=>
  intro k hk
  cases k with
  | zero=>cases hk
  | succ k=>exact .agg cs vs hl fun i x v hi hv'=>ih i x v hi hv' k (Ki.1 hk x (Kc hi))
 | tup cs vs hl hv ih=>
  intro k hk
  cases k with
  | zero=>cases hk
  | succ k=>exact .tup cs vs hl fun i x v hi hv'=>ih i x v hi hv' k (Ki.1 hk x (Kc hi))
 | fn f g cs vs hg hl hv ih=>
  intro k hk
  cases k with
  | zero=>cases hk
  | succ k=>exact .fn f g cs vs hg hl fun i x v hi hv'=>ih i x v hi hv' k (Ki.1 hk x (Kc hi))
 | ifc t x v hv ih=>
  intro k hk
  cases k with
  | zero=>cases hk
  | succ k=>exact .ifc t x v (ih k hk)
end
end Ago
namespace Ago
open Go

section
variable {P:Program} {fid:FuncId→Option Nat} {pf:Nat→Bool} {M:Mem} {H:Heap} {φ:Nat→Loc}

theorem qqC {x:AV} {v:Value} (h:qnZ x v=true):VRel fid M H φ x v∧x.one=true:=by
 unfold qnZ at h
 split at h
 ·simp only[Kd,beq_iff_eq] at h
  obtain ⟨rfl,rfl⟩:=h
  exact ⟨.int _ _,rfl⟩
 ·simp only[beq_iff_eq] at h
  subst h
  exact ⟨.bool _,rfl⟩
 ·simp only[beq_iff_eq] at h
  exact ⟨.str _ _ h.symm,rfl⟩
 ·exact ⟨.nilp,rfl⟩
 ·exact ⟨.snil _ _,rfl⟩
 ·exact ⟨.nilm,rfl⟩
 ·exact ⟨.nilf,rfl⟩
 ·exact ⟨.nili,rfl⟩
 ·cases h

theorem qb4 : ∀ {cs:List AV} {vs:List Value},q8F cs vs=true→VRels fid M H φ cs vs∧cs.all AV.one=true
 | [],[],_=>⟨VRels.nil,rfl⟩
 | x::cs,v::vs,h=>by
  simp only[q8F,Kd] at h
  obtain ⟨h1,h2⟩:=qqC (fid:=fid) (M:=M) (H:=H) (φ:=φ) h.1
  obtain ⟨h3,h4⟩:=qb4 h.2
  exact ⟨VRels.cons h1 h3,by simp [h2,h4]⟩
 | [],_::_,h=>by cases h
 | _::_,[],h=>by cases h

theorem ql5 {t:TypeId} {v:Value} {x:AV} (h:qe0 P t v=some x):VRel fid M H φ x v:=by
 unfold qe0 at h
 split at h
 ·cases h; exact .int _ _
 ·cases h; exact .bool _
 ·cases h; exact .str _ _ rfl
 ·cases h; exact .nilp
 ·split at h<;>cases h<;>exact .snil _ _
 ·cases h; exact .nilm
 ·cases h; exact .nilf
 ·cases h; exact .nili
 ·split at h
  ·split at h
   ·rename_i hl
    cases h
    obtain ⟨h1,h2⟩:=(qb4 (fid:=fid) (M:=M) (H:=H) (φ:=φ) hl).1
    exact .agg _ _ (by simpa using h1) (fun i x v hx hv=>h2 i x v hx (by simpa using hv))
   ·cases h
  ·cases h
 ·cases h

theorem qbR {s:St} {a:Act} (ht:VRels fid M H φ s.tmps a.tmps.toList) {t:TypeId} {x:Operand} {d:Opd} (hd:qc2 P fid t x=some d):VRel fid M H φ (s.eval d) (a.eval x):=by
 cases x with
 | tmp i=>
  cases hd
  show VRel fid M H φ (s.tmps.getD i undef) (a.tmps.getD i Go.undef)
  simp only[List.getD,Array.getD_eq_getD_getElem?]
  cases hx:s.tmps[i]? with
  | none=>
   have hlen:=List.getElem?_eq_none_iff.1 hx
   rw[ht.1] at hlen
   have:a.tmps[i]?=none:=by simpa using hlen
   rw[this]
   exact .tup [] #[] rfl (fun i x v h=>by cases h)
  | some y=>
   have hlen:=q0b hx
   rw[ht.1] at hlen
   have hv:a.tmps.toList[i]?=some (a.tmps.toList[i]):=Kh hlen
   have hr:=ht.2 i y _ hx hv
   have hv':a.tmps[i]?=some (a.tmps.toList[i]):=by rw[←VJ]; exact hv
   rw[hv']
   exact hr
 | const v=>
  simp only[qc2,Kf] at hd
  obtain ⟨y,hy,rfl⟩:=hd
  exact ql5 hy
 | func f=>
  simp only[qc2,Kf] at hd
  obtain ⟨g,hg,rfl⟩:=hd
  exact .fn g f [] #[] hg rfl (fun i x v h=>by cases h)
 | global g=>cases hd

theorem q6O {s:St} {a:Act} (ht:VRels fid M H φ s.tmps a.tmps.toList) : ∀ {l:List (TypeId × Operand)} {ds:List Opd},q6Y P fid l=some ds →
  VRels fid M H φ (ds.map s.eval) (l.map fun p=>a.eval p.2)
 | [],ds,h=>by cases h; exact VRels.nil
 | (t,x)::l,ds,h=>by
  unfold q6Y at h
  cases h1:qc2 P fid t x with
  | none=>simp [h1] at h
  | some d=>
   cases h2:q6Y P fid l with
   | none=>simp [h1,h2] at h
   | some ds'=>
    simp only[h1,h2,Kn] at h
    subst h
    exact VRels.cons (qbR ht h1) (q6O ht h2)

theorem q05 {op op':AOp} {l:List (TypeId × Operand)} {ds:List Opd} (h:q0e P fid op l=some (op',ds)):op=op'∧q6Y P fid l=some ds:=by
 simp only[q0e,Kf] at h
 obtain ⟨as,h1,h2⟩:=h
 cases h2
 exact ⟨rfl,h1⟩


variable {as:List AV} {v:AV}

theorem qom {X:Value} (h:VRels fid M H φ as [X]) (hv:qmU as=some v):VRel fid M H φ v X:=by
 unfold qmU at hv
 split at hv
 ·cases hv; exact h.head
 ·cases hv

theorem qui {C X Y:Value} (h:VRels fid M H φ as [C,X,Y]) (hv:qlx as=some v) : ∃ b,C = .bool b∧VRel fid M H φ v (if b then X else Y):=by
 unfold qlx at hv
 split at hv
 ·rename_i c x y
  cases hv
  have hc:=h.head
  cases hc
  refine ⟨c,rfl,?_⟩
  cases c
  ·exact h.tail.tail.head
  ·exact h.tail.head
 ·cases hv

theorem qpT (w:World) {op:BinOp} {T:TypeId} {x y:Operand} {X Y:Value} (h:VRels fid M H φ as [X,Y]) (hv:qwi op as=some v) :
  ∃ r,(do eqGuard op T x y X Y; binOp op T X Y:Sem Value).run P w = .ok r w∧VRel fid M H φ v r:=by
 unfold qwi at hv
 split at hv
 ·rename_i a b
  unfold qpH at hv
  split at hv
  ·rename_i k n
   split at hv
   ·rename_i k' m
    have h1:=h.head
    have h2:=h.tail.head
    cases h1; cases h2
    unfold qjq at hv
    cases op<;>simp only[q8n,qjn] at hv<;>(repeat' split at hv)<;>(try cases hv) <;>
     simp_all [eqGuard,binOp,Op.intArith,Op.intDiv,Op.intBits,Op.intCmp,Op.shift] <;>
     first
      | exact .int _ _
      | exact .bool _
      | (split<;>first | (exfalso; omega) | exact ⟨_,rfl,.int _ _⟩)
   ·cases hv
  ·rename_i s
   split at hv
   ·rename_i t
    have h1:=h.head
    have h2:=h.tail.head
    cases h1 with
    | str S _ hS=>
    cases h2 with
    | str T' _ hT=>
    subst hS; subst hT
    have e1:S.toList=S.data.toList:=by rw[ByteArray.toList_eq]
    have e2:T'.toList=T'.data.toList:=by rw[ByteArray.toList_eq]
    cases op<;>simp only[qjl] at hv<;>(repeat' split at hv)<;>(try cases hv)
    ·rename_i hl
     have hl' : ¬ (IntKind.i64.max<(S.size:Int)+(T'.size:Int)):=by
      have:IntKind.i64.max=9223372036854775807:=by decide
      rw[this]
      have h1:S.data.toList.length=S.size:=by simp
      have h2:T'.data.toList.length=T'.size:=by simp
      rw[h1,h2] at hl
      unfold lim at hl
      omega
     refine ⟨.string (S++T'),?_,.str _ _ (by simp)⟩
     have hl2:((S.size:Int)+(T'.size:Int))≤9223372036854775807:=by
      have:IntKind.i64.max=9223372036854775807:=by decide
      omega
     simp [eqGuard,binOp,Op.stringOp,hl',hl2]
    all_goals (refine ⟨_,by simp [eqGuard,binOp,Op.stringOp,e1,e2],.bool _⟩)
   ·cases hv
  ·cases hv
 ·cases hv

theorem qya (w:World) {op:UnOp} {X:Value} (h:VRels fid M H φ as [X]) (hv:xUn op as=some v) : ∃ r,(Op.unary op X).run P w = .ok r w∧VRel fid M H φ v r:=by
 unfold xUn at hv
 split at hv
 ·rename_i x
  unfold qwv at hv
  split at hv
  ·have h1:=h.head
   cases h1
   cases op<;>simp only at hv<;>(try cases hv)<;>exact ⟨_,rfl,.int _ _⟩
  ·have h1:=h.head
   cases h1
   cases op<;>simp only at hv<;>(try cases hv)<;>exact ⟨_,rfl,.bool _⟩
  ·cases hv
 ·cases hv

theorem q32 {t:TypeId} (h:(P.underlying t).isSome=true) : ∃ d,P.underlying t=some d:=KV.1 h

theorem q4K {t:TypeId} (h:(P.underlying t).isSome=true) (w:World):(Go.sizeOf t).run P w = .ok (q0j P t) w:=by
 obtain ⟨d,hd⟩:=q32 h
 obtain ⟨i,hi⟩:=info_of_underlying hd
 simp [Go.sizeOf,typeInfo,hi,q0j]

theorem q58 {t:TypeId} (h:(P.underlying t).isSome=true) (w:World):(isAgg t).run P w = .ok (q0v P t) w:=by
 obtain ⟨d,hd⟩:=q32 h
 simp only[isAgg,Sem.run_bind,run_underlying hd,Result.andThen_ok,q0v,hd]
 cases d<;>rfl

theorem q0V {cs:List AV} {vs:List Value} (h:VRels fid M H φ cs vs) {i:Nat} {x:AV} (hx:cs[i]?=some x) : ∃ u,vs[i]?=some u∧VRel fid M H φ x u:=by
 have hlt:=q0b hx
 rw[h.1] at hlt
 exact ⟨_,Kh hlt,h.2 i x _ hx (Kh hlt)⟩

theorem qoj (w:World) {t:TypeId} {cs:List AV} {vs:Array Value} {off:Nat} (hu:(P.underlying t).isSome=true) (h:VRels fid M H φ cs vs.toList) (hv:part cs off (q0j P t) (q0v P t)=some v) :
  ∃ r,(Go.part t vs off).run P w = .ok r w∧VRel fid M H φ v r:=by
 simp only[Go.part,Sem.run_bind,q58 hu,Result.andThen_ok]
 cases hg:q0v P t with
 | true=>
  simp only[part,hg] at hv
  split at hv
  ·rename_i hle
   cases hv
   refine ⟨.agg (vs.extract off (off+q0j P t)),by simp [q4K hu],?_⟩
   have:=VRel.ofAggs ((h.drop off).take (q0j P t))
   have e:((vs.toList.drop off).take (q0j P t)).toArray=vs.extract off (off+q0j P t):=by
    apply Array.ext'
    simp [List.extract]
   rwa [e] at this
  ·cases hv
 | false=>
  simp only[part,hg] at hv
  obtain ⟨u,hu',hr⟩:=q0V h hv
  refine ⟨u,?_,hr⟩
  have hu2:vs[off]?=some u:=by simpa using hu'
  simp [hu2]

theorem qqg (w:World) {t:TypeId} {f:Nat} {fd:Go.Field} {X:Value} (hf:q7u P t f=some fd) (h:VRels fid M H φ as [X]) (hv:qfq fd.offset (q0j P fd.type) (q0v P fd.type) as=some v) :
  ∃ r,(Instr.field t X f).run P w = .ok r w∧VRel fid M H φ v r:=by
 unfold q7u at hf
 split at hf
 ·rename_i fs hs
  cases hfd:fs[f]? with
  | none=>simp [hfd] at hf
  | some fd'=>
   simp only[hfd,Vy] at hf
   split at hf
   ·rename_i hu
    cases hf
    unfold qfq at hv
    split at hv
    ·rename_i cs
     obtain ⟨vs,rfl,hvs⟩:=h.head.aggs
     obtain ⟨r,hr,hrel⟩:=qoj w hu hvs hv
     exact ⟨r,by simp [Instr.field,run_underlying hs,hfd,asAgg,hr],hrel⟩
    ·cases hv
   ·cases hf
 ·cases hf

theorem qwE (w:World) {i:Nat} {X:Value} (h:VRels fid M H φ as [X]) (hv:qvA i as=some v) : ∃ r,(Instr.extract X i).run P w = .ok r w∧VRel fid M H φ v r:=by
 unfold qvA at hv
 split at hv
 ·rename_i vs
  have h1:=h.head
  cases h1 with
  | tup _ us hl hr=>
   have hlt:=q0b hv
   rw[hl] at hlt
   have hu:us[i]?=some us[i]:=KD hlt
   exact ⟨us[i],by simp [Instr.extract,hu],hr i v _ hv hu⟩
 ·cases hv

theorem qnB (w:World) {t:TypeId} {X I:Value} (ht:P.underlying t=some .string) (h:VRels fid M H φ as [X,I]) (hv:qbp as=some v) : ∃ r,(Instr.index t X I).run P w = .ok r w∧VRel fid M H φ v r:=by
 unfold qbp at hv
 split at hv
 ·rename_i s k i
  have h1:=h.head
  have h2:=h.tail.head
  cases h1 with
  | str S _ hS=>
  cases h2
  subst hS
  split at hv
  ·rename_i h0
   cases hb:S.data.toList[i.toNat]? with
   | none=>simp [hb,qfG] at hv
   | some b=>
    simp only[hb,qfG,Kn] at hv
    subst hv
    have hb':S[i.toNat]?=some b:=by
     have hlt:=q0b hb
     have hlt':i.toNat<S.size:=by simpa using hlt
     rw[getElem?_pos S i.toNat hlt']
     rw[Kh hlt] at hb
     rw[←hb]
     simp only[Array.getElem_toList]
     rfl
    refine ⟨.int .u8 b.toNat,?_,.int _ _⟩
    simp [Instr.index,asIntOf,run_underlying ht,h0,hb']
  ·cases hv
 ·cases hv

theorem qns (w:World) {t e:TypeId} {ln:Nat} {X I:Value} (ht:P.underlying t=some (.array ln e)) (hu:(P.underlying e).isSome=true) (h:VRels fid M H φ as [X,I]) (hv:qba ln (q0j P e) (q0v P e) as=some v) :
  ∃ r,(Instr.index t X I).run P w = .ok r w∧VRel fid M H φ v r:=by
 unfold qba at hv
 split at hv
 ·rename_i cs k i
  obtain ⟨vs,rfl,hvs⟩:=h.head.aggs
  have h2:=h.tail.head
  cases h2
  split at hv
  ·rename_i h0
   obtain ⟨r,hr,hrel⟩:=qoj w hu hvs hv
   exact ⟨r,by simp [Instr.index,asIntOf,run_underlying ht,h0,q4K hu,hr],hrel⟩
  ·cases hv
 ·cases hv

theorem q2b (b o k:Nat):(⟨b,o,none⟩:Addr).add k=⟨b,o+k,none⟩:=by
 unfold Addr.add
 split
 ·rename_i h; subst h; rfl
 ·rfl

theorem qqv (w:World) {t:TypeId} {f:Nat} {fd:Go.Field} {X:Value} (hf:q7u P t f=some fd) (hz:q0j P fd.type≠0) (h:VRels fid M H φ as [X]) (hv:qfl fd.offset as=some v) :
  ∃ r,(Instr.fieldAt t X f).run P w = .ok r w∧VRel fid M H φ v r:=by
 unfold q7u at hf
 split at hf
 ·rename_i fs hs
  cases hfd:fs[f]? with
  | none=>simp [hfd] at hf
  | some fd'=>
   simp only[hfd,Vy] at hf
   split at hf
   ·rename_i hu
    cases hf
    have hrun : ∀ ad:Addr,(Instr.fieldAt t (.pointer (some ad)) f).run P w = .ok (.pointer (some (ad.add fd.offset))) w:=fun ad=>by
     simp [Instr.fieldAt,run_underlying hs,hfd,Instr.sureAddr,fieldPlace,q4K hu,hz]
    unfold qfl at hv
    split at hv
    ·have h1:=h.head
     cases h1 with
     | ptr n r i off ad hp hh=>
      cases hv
      refine ⟨_,hrun ad,.ptr _ _ _ _ _ hp fun els ro fl fam he=>?_⟩
      rw[hh els ro fl fam he,q2b]
      simp [Vk]
    ·have h1:=h.head
     cases h1 with
     | tptr _ _ b o vf hm hp hvv=>
      cases hv
      refine ⟨_,hrun _,?_⟩
      rw[q2b,Vk]
      exact .tptr _ _ b o vf hm hp hvv
    ·cases hv
   ·cases hf
 ·cases hf
end
end Ago
namespace Ago
open Go

section
variable {P:Program} {fid:FuncId→Option Nat} {pf:Nat→Bool} {M:Mem} {H:Heap} {φ:Nat→Loc} {as:List AV} {v:AV}

theorem qm1 (w:World) {t e:TypeId} {X I:Value} (ht:P.underlying t=some (.slice e)) (hz:q0j P e≠0) (h:VRels fid M H φ as [X,I]) (hv:qaY (q0j P e) as=some v) :
  ∃ r,(Instr.indexAt t X I).run P w = .ok r w∧VRel fid M H φ v r:=by
 have hsz:(Go.sizeOf e).run P w = .ok (q0j P e) w:=by
  unfold q0j at hz ⊢
  cases hi:P.info? e with
  | none=>simp [hi] at hz
  | some i=>simp [Go.sizeOf,typeInfo,hi]
 have hrun : ∀ (ad:Addr) (len cap:Nat) (k:IntKind) (i:Int),0≤i→i<len→(Instr.indexAt t (.slice (some ad) len cap) (.int k i)).run P w = .ok (.pointer (some (ad.add (i.toNat * q0j P e)))) w:=fun ad len cap k i h0 h1=>by
  simp [Instr.indexAt,asIntOf,run_underlying ht,h0,h1,hsz]
 unfold qaY at hv
 split at hv
 ·rename_i m l k i
  split at hv
  ·rename_i h0
   obtain ⟨h0,rfl⟩:=h0
   have h1:=h.head
   have h2:=h.tail.head
   cases h2
   cases h1 with
   | tsl _ _ a len cap b o vf hl hc ha hn hm hvv=>
    cases hx:l[i.toNat]? with
    | none=>simp [hx,qgj] at hv
    | some x=>
     simp only[hx,qgj,Kn] at hv
     subst hv
     have hlt:i.toNat<len:=hl▸q0b hx
     have hae:=ha (by omega)
     subst hae
     obtain ⟨hp,hcl,hone⟩:=hn _ _ hx
     refine ⟨_,hrun _ _ _ _ _ h0 (by omega),?_⟩
     rw[q2b]
     refine .tptr x.cells 0 b (o+i.toNat * q0j P e) (vf i.toNat) (fun j hj=>hm _ _ hlt (hcl▸hj)) (fun j y hy=>⟨q4q hp hy,Ki.1 hone y (Kc hy)⟩) (fun j y hy=>hvv _ _ _ _ hx hy)
  ·cases hv
 ·rename_i m r j ln k i
  split at hv
  ·rename_i h0
   obtain ⟨h0,h1,rfl⟩:=h0
   cases hv
   have h1':=h.head
   have h2:=h.tail.head
   cases h2
   cases h1' with
   | sref _ _ _ _ cap a hc ha hp hh=>
    obtain ⟨ad,rfl⟩:=KV.1 (ha (by omega))
    refine ⟨_,hrun _ _ _ _ _ h0 h1,.ptr _ _ _ _ _ hp fun els ro fl fam he=>?_⟩
    obtain ⟨hle,hcap⟩:=hh els ro fl fam he
    obtain ⟨hae,_⟩:=hcap (by omega)
    cases hae
    rw[q2b,K5]
    simp [Vk]
  ·cases hv
 ·cases hv

theorem qmK (w:World) {t e:TypeId} {ln:Nat} {X I:Value} (ht:P.underlying t=some (.array ln e)) (hz:q0j P e≠0) (h:VRels fid M H φ as [X,I]) (hv:qbz ln (q0j P e) as=some v) :
  ∃ r,(Instr.indexAt t X I).run P w = .ok r w∧VRel fid M H φ v r:=by
 have hsz:(Go.sizeOf e).run P w = .ok (q0j P e) w:=by
  unfold q0j at hz ⊢
  cases hi:P.info? e with
  | none=>simp [hi] at hz
  | some i=>simp [Go.sizeOf,typeInfo,hi]
 have hrun : ∀ (ad:Addr) (k:IntKind) (i:Int),0≤i→i<ln→(Instr.indexAt t (.pointer (some ad)) (.int k i)).run P w = .ok (.pointer (some (ad.add (i.toNat * q0j P e)))) w:=fun ad k i h0 h1=>by
  simp [Instr.indexAt,Instr.sureAddr,asIntOf,run_underlying ht,h0,h1,hsz]
 unfold qbz at hv
 split at hv
 ·rename_i m r j off k i
  split at hv
  ·rename_i h0
   have h1:=h.head
   have h2:=h.tail.head
   cases h2
   cases h1 with
   | ptr _ _ _ _ ad hp hh=>
    split at hv
    ·rename_i hmn
     obtain ⟨rfl,rfl⟩:=hmn
     cases hv
     refine ⟨_,hrun _ _ _ h0.1 h0.2,.ptr _ _ _ _ _ hp fun els ro fl fam he=>?_⟩
     rw[hh els ro fl fam he,q2b,K5]
     simp [Vk]
    ·cases hv
     refine ⟨_,hrun _ _ _ h0.1 h0.2,.ptr _ _ _ _ _ hp fun els ro fl fam he=>?_⟩
     rw[hh els ro fl fam he,q2b]
     simp [Vk]
  ·cases hv
 ·rename_i cs0 o0 k i
  split at hv
  ·rename_i h0
   have h1:=h.head
   have h2:=h.tail.head
   cases h2
   cases h1 with
   | tptr _ _ b o vf hm hp hvv=>
    cases hv
    refine ⟨_,hrun _ _ _ h0.1 h0.2,?_⟩
    rw[q2b,Vk]
    exact .tptr _ _ b o vf hm hp hvv
  ·cases hv
 ·cases hv

theorem q8s (w:World) (isSlice:Bool) {len cap:Nat} (hc:len≤cap) {lo hi mx:Option Value} {bs:List AV} (h:VRels fid M H φ bs (lo.toList++hi.toList++mx.toList)) {l u:Nat} {z:Bool}
  (hb:q2U len lo.isSome hi.isSome mx.isSome bs=some (l,u,z)) :
  ∃ m,(Instr.sliceBounds isSlice len cap lo hi mx).run P w = .ok (l,u,m) w∧l≤u∧u≤len∧u≤m∧m≤cap∧(z=true→m=l)∧(mx=none→z=false):=by
 have sb : ∀ (k:IntKind) (i:Int) (y:Nat) (code:BoundsCode),0≤i→i≤y→(Instr.sliceBound (.int k i) y code).run P w = .ok i.toNat w:=fun k i y code h0 h1=>by
  simp [Instr.sliceBound,asIntOf,h0,h1]
 cases lo with
 | none=>
  cases hi with
  | none=>
   cases mx with
   | none=>
    simp only[Option.isSome,q2U] at hb
    split at hb
    ·unfold q72 at hb
     split at hb
     ·cases hb
      exact ⟨cap,by simp [Instr.sliceBounds],by omega,by omega,by omega,by omega,(fun h=>by cases h),fun _=>rfl⟩
     ·cases hb
    ·cases hb
   | some m=>simp [q2U] at hb
  | some u'=>
   cases mx with
   | none=>
    simp only[Option.isSome,q2U] at hb
    split at hb
    ·rename_i k i _
     have h1:=h.head
     cases h1
     unfold q72 at hb
     split at hb
     ·cases hb
      exact ⟨cap,by simp [Instr.sliceBounds,sb _ i cap _ (by omega) (by omega)],by omega,by omega,by omega,by omega,(fun h=>by cases h),fun _=>rfl⟩
     ·cases hb
    ·rename_i h'; simp at h'
    ·cases hb
   | some m=>
    simp only[Option.isSome,q2U] at hb
    split at hb
    ·rename_i h' ; simp at h'
    ·rename_i k i k' j _
     have h1:=h.head
     cases h1
     have h2:=h.tail.head
     cases h2
     unfold qct at hb
     split at hb
     ·rename_i hcond
      cases hb
      refine ⟨j.toNat,by simp [Instr.sliceBounds,sb _ j cap _ (by omega) (by omega),sb _ i j.toNat _ (by omega) (by omega)],by omega,by omega,by omega,by omega,fun h=>?_,fun h=>by cases h⟩
      have:=of_decide_eq_true h
      omega
     ·cases hb
    ·cases hb
 | some l'=>
  cases hi with
  | none=>
   cases mx with
   | none=>
    simp only[Option.isSome,q2U] at hb
    split at hb
    ·rename_i k i _
     have h1:=h.head
     cases h1
     unfold q72 at hb
     split at hb
     ·cases hb
      exact ⟨cap,by simp [Instr.sliceBounds,sb _ i len _ (by omega) (by omega)],by omega,by omega,by omega,by omega,(fun h=>by cases h),fun _=>rfl⟩
     ·cases hb
    ·cases hb
   | some m=>simp [q2U] at hb
  | some u'=>
   cases mx with
   | none=>
    simp only[Option.isSome,q2U] at hb
    split at hb
    ·rename_i k i k' j _
     have h1:=h.head
     cases h1
     have h2:=h.tail.head
     cases h2
     unfold q72 at hb
     split at hb
     ·cases hb
      exact ⟨cap,by simp [Instr.sliceBounds,sb _ j cap _ (by omega) (by omega),sb _ i j.toNat _ (by omega) (by omega)],by omega,by omega,by omega,by omega,(fun h=>by cases h),fun _=>rfl⟩
     ·cases hb
    ·rename_i h'; simp at h'
    ·cases hb
   | some m=>
    simp only[Option.isSome,q2U] at hb
    split at hb
    ·rename_i h'; simp at h'
    ·rename_i k i k' j k'' q _
     have h1:=h.head
     cases h1
     have h2:=h.tail.head
     cases h2
     have h3:=h.tail.tail.head
     cases h3
     unfold qct at hb
     split at hb
     ·cases hb
      refine ⟨q.toNat,by simp [Instr.sliceBounds,sb _ q cap _ (by omega) (by omega),sb _ j q.toNat _ (by omega) (by omega),sb _ i j.toNat _ (by omega) (by omega)],by omega,by omega,by omega,by omega,fun h=>?_,fun h=>by cases h⟩
      have:=of_decide_eq_true h
      omega
     ·cases hb
    ·cases hb

theorem qnA (w:World) {t e:TypeId} {X:Value} {lo hi mx:Option Value} (ht:P.underlying t=some (.slice e)) (hz:q0j P e≠0) (h:VRels fid M H φ as (X::(lo.toList++hi.toList++mx.toList)))
  (hv:q9a (q0j P e) lo.isSome hi.isSome mx.isSome as=some v) : ∃ r,(Instr.sliceAt t X lo hi mx).run P w = .ok r w∧VRel fid M H φ v r:=by
 have hsz:(Go.sizeOf e).run P w = .ok (q0j P e) w:=by
  unfold q0j at hz ⊢
  cases hi:P.info? e with
  | none=>simp [hi] at hz
  | some i=>simp [Go.sizeOf,typeInfo,hi]
 unfold q9a at hv
 split at hv
 ·rename_i m xs bs
  split at hv
  ·rename_i hm
   subst hm
   have h1:=h.head
   cases h1 with
   | tsl _ _ a len cap b o vf hl hc ha hn hmm hvv=>
    cases hb:q2U xs.length lo.isSome hi.isSome mx.isSome bs with
    | none=>simp [hb,q8l] at hv
    | some q=>
     obtain ⟨l,u,z⟩:=q
     rw[hl] at hb
     obtain ⟨m,hrun,hlu,hul,hum,hmc,hz1,hz2⟩:=q8s (P:=P) w true hc h.tail hb
     have hres:(Instr.sliceAt t (.slice a len cap) lo hi mx).run P w = .ok (.slice (if m=l then a else a.map (·.add (l * q0j P e))) (u-l) (m-l)) w:=by
      simp [Instr.sliceAt,Instr.slice,run_underlying ht,hrun,hsz]
     refine ⟨_,hres,?_⟩
     rw[←hl] at hb
     simp only[hb,q8l] at hv
     split at hv
     ·rename_i hzt
      cases hv
      have:=hz1 hzt
      subst this
      have e1:u-m=0:=by omega
      have e2:m-m=0:=by omega
      rw[e1,e2]
      exact .snil _ _
     ·cases hv
      refine .tsl _ _ _ _ _ b (o+l * q0j P e) (fun i j=>vf (l+i) j) (by simp; omega) (by omega) (fun hpos=>?_) (fun i x hx=>?_) (fun i j hi hj=>?_) (fun i x j y hx hy=>?_)
      ·rw[if_neg (by omega),ha (by omega)]
       simp [q2b]
      ·rw[VN,Vw] at hx
       split at hx
       ·exact hn _ _ hx
       ·cases hx
      ·have:=hmm (l+i) j (by omega) hj
       rwa [K5,←Vk] at this
      ·rw[VN,Vw] at hx
       split at hx
       ·exact hvv _ _ _ _ hx hy
       ·cases hx
  ·cases hv
 ·rename_i m r i len bs
  split at hv
  ·rename_i hm
   subst hm
   have h1:=h.head
   cases h1 with
   | sref _ _ _ _ cap a hc ha hp hh=>
    cases hb:q2U len lo.isSome hi.isSome mx.isSome bs with
    | none=>simp [hb,q8e] at hv
    | some q=>
     obtain ⟨l,u,z⟩:=q
     obtain ⟨m,hrun,hlu,hul,hum,hmc,hz1,hz2⟩:=q8s (P:=P) w true hc h.tail hb
     have hres:(Instr.sliceAt t (.slice a len cap) lo hi mx).run P w = .ok (.slice (if m=l then a else a.map (·.add (l * q0j P e))) (u-l) (m-l)) w:=by
      simp [Instr.sliceAt,Instr.slice,run_underlying ht,hrun,hsz]
     refine ⟨_,hres,?_⟩
     simp only[hb,q8e] at hv
     split at hv
     ·rename_i hzt
      cases hv
      have:=hz1 hzt
      subst this
      have e1:u-m=0:=by omega
      have e2:m-m=0:=by omega
      rw[e1,e2]
      exact .snil _ _
     ·cases hv
      refine .sref _ _ _ _ _ _ (by omega) (fun hpos=>?_) hp fun els ro fl fam he=>?_
      ·rw[if_neg (by omega)]
       simp [ha (by omega)]
      ·obtain ⟨hle,hcap⟩:=hh els ro fl fam he
       refine ⟨by omega,fun hpos=>?_⟩
       obtain ⟨hae,hbd⟩:=hcap (by omega)
       rw[if_neg (by omega),hae]
       refine ⟨by simp [q2b,K5,Vk],?_⟩
       have:(i+l+(m-l)) * q0j P e≤(i+cap) * q0j P e:=K3 _ (by omega)
       omega
  ·cases hv
 ·rename_i m bs
  have h1:=h.head
  cases h1 with
  | snil _ a=>
   cases hb:q2U 0 lo.isSome hi.isSome mx.isSome bs with
   | none=>simp [hb,q86] at hv
   | some q=>
    obtain ⟨l,u,z⟩:=q
    obtain ⟨m',hrun,hlu,hul,hum,hmc,hz1,hz2⟩:=q8s (P:=P) w true (Ko 0) h.tail hb
    have hres:(Instr.sliceAt t (.slice a 0 0) lo hi mx).run P w = .ok (.slice (if m'=l then a else a.map (·.add (l * q0j P e))) (u-l) (m'-l)) w:=by
     simp [Instr.sliceAt,Instr.slice,run_underlying ht,hrun,hsz]
    refine ⟨_,hres,?_⟩
    simp only[hb,q86,Kn] at hv
    subst hv
    have e1:u-l=0:=by omega
    have e2:m'-l=0:=by omega
    rw[e1,e2]
    exact .snil _ _
 ·cases hv

theorem qnq (w:World) {t:TypeId} {X:Value} {lo hi:Option Value} (ht:P.underlying t=some .string) (h:VRels fid M H φ as (X::(lo.toList++hi.toList)))
  (hv:q93 lo.isSome hi.isSome as=some v) : ∃ r,(Instr.sliceAt t X lo hi none).run P w = .ok r w∧VRel fid M H φ v r:=by
 unfold q93 at hv
 split at hv
 ·rename_i s bs
  have h1:=h.head
  cases h1 with
  | str S _ hS=>
   subst hS
   cases hb:q2U S.data.toList.length lo.isSome hi.isSome false bs with
   | none=>rw[hb] at hv; cases hv
   | some q=>
    obtain ⟨l,u,z⟩:=q
    have hl:S.data.toList.length=S.size:=by simp
    rw[hl] at hb
    obtain ⟨m,hrun,hlu,hul,hum,hmc,hz1,hz2⟩:=q8s (P:=P) (lo:=lo) (hi:=hi) (mx:=none) w false (Ko S.size) (by simpa using h.tail) hb
    rw[←hl] at hb
    simp only[hb,qbF,Kn] at hv
    subst hv
    refine ⟨.string (S.extract l u),by simp [Instr.sliceAt,Instr.slice,run_underlying ht,hrun],.str _ _ ?_⟩
    rw[ByteArray.data_extract,Array.toList_extract,List.extract,←List.drop_take]
 ·cases hv

theorem qtQ (w:World) {t ty:TypeId} {X:Value} (ht:P.underlying t=some .string) (h:VRels fid M H φ as [X]) (hv:qlT as=some v) : ∃ r,(Builtin.len_ #[t] ty #[X]).run P w = .ok r w∧VRel fid M H φ v r:=by
 unfold qlT at hv
 split at hv
 ·have h1:=h.head
  cases h1 with
  | str S _ hS=>
   cases hv
   subst hS
   refine ⟨goInt S.size,by simp [Builtin.len_,run_underlying ht],?_⟩
   have hl:S.data.toList.length=S.size:=by simp
   rw[hl]
   exact .int _ _
 ·cases hv

theorem qv3 (w:World) {t ty e:TypeId} {X:Value} (ht:P.underlying t=some (.slice e)) (h:VRels fid M H φ as [X]) (hv:qo5 as=some v) : ∃ r,(Builtin.len_ #[t] ty #[X]).run P w = .ok r w∧VRel fid M H φ v r:=by
 unfold qo5 at hv
 split at hv
 ·have h1:=h.head
  cases h1 with
  | tsl _ _ a len cap b o vf hl hc ha hn hm hvv=>
   cases hv
   rw[hl]
   exact ⟨goInt len,by simp [Builtin.len_,run_underlying ht],.int _ _⟩
 ·have h1:=h.head
  cases h1
  cases hv
  exact ⟨_,by simp [Builtin.len_,run_underlying ht]; rfl,.int _ _⟩
 ·have h1:=h.head
  cases h1
  cases hv
  exact ⟨_,by simp [Builtin.len_,run_underlying ht]; rfl,.int _ _⟩
 ·cases hv

theorem qu3 (w:World) {t ty e:TypeId} {n:Nat} {X:Value} (ht:P.underlying t=some (.array n e)):(Builtin.len_ #[t] ty #[X]).run P w = .ok (goInt n) w:=by
 simp [Builtin.len_,run_underlying ht]

theorem quO (w:World) {s d:TypeId} {k k':IntKind} {X:Value} (hs:P.underlying s=some (.int k')) (hd:P.underlying d=some (.int k)) (h:VRels fid M H φ as [X]) (hv:qnh k as=some v) :
  ∃ r,(convert s d X).run P w = .ok r w∧VRel fid M H φ v r:=by
 unfold qnh at hv
 split at hv
 ·have h1:=h.head
  cases h1
  cases hv
  exact ⟨.int k _,by simp [convert,run_underlying hs,run_underlying hd,Conv.intToInt],.int _ _⟩
 ·cases hv

theorem qjz (w:World) {s d:TypeId} {X:Value} (hs:P.underlying s=some .string) (hd:P.underlying d=some .string) (h:VRels fid M H φ as [X]) (hv:q8c as=some v) :
  ∃ r,(convert s d X).run P w = .ok r w∧VRel fid M H φ v r:=by
 unfold q8c at hv
 split at hv
 ·have h1:=h.head
  cases hv
  cases h1 with
  | str S _ hS=>exact ⟨.string S,by simp [convert,run_underlying hs,run_underlying hd],.str S _ hS⟩
 ·cases hv

theorem qsp (w:World) {s d:TypeId} {k:IntKind} {X:Value} (hs:P.underlying s=some (.int k)) (hd:P.underlying d=some .string) (h:VRels fid M H φ as [X]) (hv:qqw as=some v) :
  ∃ r,(convert s d X).run P w = .ok r w∧VRel fid M H φ v r:=by
 unfold qqw at hv
 split at hv
 ·have h1:=h.head
  cases hv
  cases h1
  exact ⟨.string _,by simp [convert,run_underlying hs,run_underlying hd,Conv.intToString],.str _ _ rfl⟩
 ·cases hv

theorem qwX (w:World) {m:Bool} : ∀ {as:List AV} {x:AV} {X:Value} {Xs:List Value},VRel fid M H φ x X→VRels fid M H φ as Xs→qrw m x as=some v →
  ∃ r,(Xs.foldlM (if m then Builtin.max2 else Builtin.min2) X).run P w = .ok r w∧VRel fid M H φ v r
 | [],x,X,Xs,hx,hs,hv=>by
  cases Xs with
  | nil=>unfold qrw at hv; cases hv; exact ⟨X,by simp,hx⟩
  | cons _ _=>have:=hs.1; simp at this
 | a::as,x,X,Xs,hx,hs,hv=>by
  cases Xs with
  | nil=>have:=hs.1; simp at this
  | cons Y Ys=>
   unfold qrw at hv
   split at hv
   ·rename_i heq; cases heq
   ·rename_i k n k' n' rest heq
    cases heq
    split at hv
    ·rename_i hk
     subst hk
     have h1:=hs.head
     cases hx; cases h1
     obtain ⟨r,hr,hrel⟩:=qwX w (.int k _) hs.tail hv
     refine ⟨r,?_,hrel⟩
     cases m<;>simp_all [Builtin.max2,Builtin.min2]
    ·cases hv
   ·cases hv
end
end Ago
namespace Ago
open Go

def q39:CK→Value→Value→Option Bool
 | .int,.int k a,.int k' b=>if k=k' then some (a == b) else none
 | .bool,.bool a,.bool b=>some (a == b)
 | .str,.string a,.string b=>some (a.toList == b.toList)
 | _,_,_=>none

def q0y:List CK→List Value→List Value→Option Bool
 | [],[],[]=>some true
 | c::cs,x::xs,y::ys=>
  match q39 c x y with
  | none=>none
  | some a=>
   match q0y cs xs ys with
   | none=>none
   | some b=>some (a && b)
 | _,_,_=>none

section
variable {P:Program} {fid:FuncId→Option Nat} {pf:Nat→Bool} {M:Mem} {H:Heap} {φ:Nat→Loc} {as:List AV} {v:AV}

theorem q5F {c:CK} {x y:AV} {X Y:Value} {r:Bool} (hx:VRel fid M H φ x X) (hy:VRel fid M H φ y Y) (h:q3X c x y=some r):q39 c X Y=some r:=by
 unfold q3X at h
 split at h
 ·cases hx; cases hy; exact h
 ·cases hx; cases hy; exact h
 ·cases hx with
  | str S _ hS=>
  cases hy with
  | str T _ hT=>
   subst hS; subst hT
   simpa [q39,ByteArray.toList_eq] using h
 ·cases h

theorem q3e : ∀ {cs:List CK} {xs ys:List AV} {X Y:List Value} {r:Bool},VRels fid M H φ xs X→VRels fid M H φ ys Y→q2J cs xs ys=some r→q0y cs X Y=some r
 | [],[],[],X,Y,r,hx,hy,h=>by
  have h1:=hx.1
  have h2:=hy.1
  cases X with
  | cons _ _=>simp at h1
  | nil=>
   cases Y with
   | cons _ _=>simp at h2
   | nil=>exact h
 | c::cs,x::xs,y::ys,X,Y,r,hx,hy,h=>by
  cases X with
  | nil=>have:=hx.1; simp at this
  | cons X0 X=>
   cases Y with
   | nil=>have:=hy.1; simp at this
   | cons Y0 Y=>
    unfold q2J at h
    cases h1:q3X c x y with
    | none=>simp [h1] at h
    | some a=>
     cases h2:q2J cs xs ys with
     | none=>simp [h1,h2] at h
     | some b=>
      simp only[h1,h2] at h
      simp only[q0y,q5F hx.head hy.head h1,q3e hx.tail hy.tail h2,h]
 | [],x::xs,_,_,_,_,_,_,h=>by simp [q2J] at h
 | [],[],y::ys,_,_,_,_,_,h=>by simp [q2J] at h
 | c::cs,[],_,_,_,_,_,_,h=>by simp [q2J] at h
 | c::cs,x::xs,[],_,_,_,_,_,h=>by simp [q2J] at h

theorem q1w : ∀ {cs:List CK} {X Y:List Value} {r:Bool},q0y cs X Y=some r→X.length=cs.length∧Y.length=cs.length
 | [],[],[],_,_=>⟨rfl,rfl⟩
 | c::cs,x::X,y::Y,r,h=>by
  unfold q0y at h
  cases h1:q39 c x y with
  | none=>simp [h1] at h
  | some a=>
   cases h2:q0y cs X Y with
   | none=>simp [h1,h2] at h
   | some b=>have:=q1w h2; simp [this.1,this.2]
 | [],x::xs,_,_,h=>by simp [q0y] at h
 | [],[],y::ys,_,h=>by simp [q0y] at h
 | c::cs,[],_,_,h=>by simp [q0y] at h
 | c::cs,x::xs,[],_,h=>by simp [q0y] at h

theorem q5q : ∀ {cs ds:List CK} {X Y:List Value} {r:Bool},q0y (cs++ds) X Y=some r →
  ∃ a b,q0y cs (X.take cs.length) (Y.take cs.length)=some a∧q0y ds (X.drop cs.length) (Y.drop cs.length)=some b∧r=(a && b)
 | [],ds,X,Y,r,h=>⟨true,r,rfl,h,by simp⟩
 | c::cs,ds,X,Y,r,h=>by
  cases X with
  | nil=>simp [q0y] at h
  | cons x X=>
   cases Y with
   | nil=>simp [q0y] at h
   | cons y Y=>
    simp only[Kr,q0y] at h
    cases h1:q39 c x y with
    | none=>simp [h1] at h
    | some a=>
     cases h2:q0y (cs++ds) X Y with
     | none=>simp [h1,h2] at h
     | some b=>
      simp only[h1,h2,Kn] at h
      obtain ⟨p,q,hp,hq,rfl⟩:=q5q h2
      refine ⟨a && p,q,by simp [q0y,h1,hp],by simpa using hq,?_⟩
      rw[←h,Bool.and_assoc]

def qfr (P:Program) (t:TypeId) (X:Value) (xs:List Value):Prop:=(q0v P t=true→X = .agg xs.toArray)∧(q0v P t=false→xs=[X])

theorem q3S {t:TypeId} (hu:(P.underlying t).isSome=true) (w:World) (A:Array Value) (off:Nat) (hsz:q0v P t=false→q0j P t=1) (hle:off+q0j P t≤A.size) :
  ∃ X,(Go.part t A off).run P w = .ok X w∧qfr P t X ((A.toList.drop off).take (q0j P t)):=by
 simp only[Go.part,Sem.run_bind,q58 hu,Result.andThen_ok]
 cases hg:q0v P t with
 | true=>
  refine ⟨.agg (A.extract off (off+q0j P t)),by simp [q4K hu],fun _=>?_,fun h=>by rw[hg] at h; cases h⟩
  congr 1
  apply Array.ext'
  simp [List.extract]
 | false=>
  have h1:=hsz hg
  have hlt:off<A.size:=by omega
  refine ⟨A[off],by simp [KD hlt],fun h=>by (rw[hg] at h; cases h),fun _=>?_⟩
  rw[h1,Vt (by simpa using hlt)]
  simp

theorem qaK {k:Nat} {t:TypeId} {sh:List CK} (h:q1E P k t=some sh):(P.underlying t).isSome=true∧(q0v P t=false→sh.length=1):=by
 cases k with
 | zero=>cases h
 | succ k=>
  unfold q1E at h
  cases hu:P.underlying t with
  | none=>simp [hu] at h
  | some d=>
   refine ⟨rfl,fun hg=>?_⟩
   cases d<;>simp only[hu] at h<;>first | (cases h; done) | (cases h; rfl) | (simp [q0v,hu] at hg)

def qkL (P:Program) (d k:Nat):Prop:=∀ (t:TypeId) (sh:List CK) (w:World) (X Y:Value) (xs ys:List Value) (r:Bool),q1E P k t=some sh→qfr P t X xs→qfr P t Y ys→q0y sh xs ys=some r →
  (Op.equalIn (d+k) t X Y).run P w = .ok r w

theorem qay {d k:Nat} (ih:qkL P d k) {e:TypeId} {s rest:List CK} (hs:q1E P k e=some s) (hlen:s.length=q0j P e) (w:World) {xs ys:List Value} {o:Nat} {r:Bool}
  (hr:q0y (s++rest) (xs.drop o) (ys.drop o)=some r) :
  ∃ X Y a b,(Go.part e xs.toArray o).run P w = .ok X w∧(Go.part e ys.toArray o).run P w = .ok Y w∧(Op.equalIn (d+k) e X Y).run P w = .ok a w ∧
   q0y rest (xs.drop (o+s.length)) (ys.drop (o+s.length))=some b∧r=(a && b):=by
 obtain ⟨a,b,h1,h2,h3⟩:=q5q hr
 obtain ⟨hu,h0⟩:=qaK hs
 obtain ⟨l1,l2⟩:=q1w h1
 simp only[Vi,List.length_drop] at l1 l2
 have hz:q0v P e=false→q0j P e=1:=fun hg=>hlen▸h0 hg
 have hn:s=[]∨0<s.length:=by cases s<;>simp
 by_cases hpos:0<s.length
 ·obtain ⟨X,pX,fX⟩:=q3S hu w xs.toArray o hz (by simp; omega)
  obtain ⟨Y,pY,fY⟩:=q3S hu w ys.toArray o hz (by simp; omega)
  refine ⟨X,Y,a,b,pX,pY,ih e s w X Y _ _ a hs fX fY (by simpa [hlen] using h1),by simpa [List.drop_drop] using h2,h3⟩
 ·have hg:q0v P e=true:=by
   cases hg:q0v P e with
   | true=>rfl
   | false=>have:=h0 hg; omega
  have hz0:q0j P e=0:=by omega
  have pp : ∀ zs:List Value,(Go.part e zs.toArray o).run P w = .ok (.agg (zs.toArray.extract o (o+0))) w:=fun zs=>by
   simp only[Go.part,Sem.run_bind,q58 hu,Result.andThen_ok,hg,if_true,q4K hu,hz0,Sem.run_pure]
  have ff : ∀ zs:List Value,qfr P e (.agg (zs.toArray.extract o (o+0))) []:=fun zs=>⟨fun _=>by simp,fun h=>by (rw[hg] at h; cases h)⟩
  have hs0:s=[]:=Kw (by omega)
  subst hs0
  refine ⟨_,_,a,b,pp xs,pp ys,ih e [] w _ _ [] [] a hs (ff xs) (ff ys) (by simpa using h1),by simpa [List.drop_drop] using h2,h3⟩

theorem qdP (d:Nat) : ∀ (k:Nat),qkL P d k:=by
 intro k
 induction k with
 | zero=>intro t sh w X Y xs ys r h; cases h
 | succ k ih=>
  intro t sh w X Y xs ys r h fx fy hr
  unfold q1E at h
  cases hu:P.underlying t with
  | none=>simp [hu] at h
  | some desc=>
   cases desc<;>simp only[hu] at h<;>try (cases h; done)
   case bool=>
    cases h
    have hg:q0v P t=false:=by simp [q0v,hu]
    have ex:=fx.2 hg
    have ey:=fy.2 hg
    subst ex; subst ey
    simp only[q0y] at hr
    cases X<;>cases Y<;>simp [q39] at hr
    rw[←hr]
    exact run_equalIn_bool' w _ t _ _ hu
   case int q=>
    cases h
    have hg:q0v P t=false:=by simp [q0v,hu]
    have ex:=fx.2 hg
    have ey:=fy.2 hg
    subst ex; subst ey
    simp only[q0y] at hr
    cases X<;>cases Y<;>simp [q39] at hr
    rename_i k1 a k2 b
    by_cases hk:k1=k2
    ·subst hk
     simp at hr
     rw[←hr]
     exact run_equalIn_int w _ t _ _ a b hu
    ·simp [hk] at hr
   case string=>
    cases h
    have hg:q0v P t=false:=by simp [q0v,hu]
    have ex:=fx.2 hg
    have ey:=fy.2 hg
    subst ex; subst ey
    simp only[q0y] at hr
    cases X<;>cases Y<;>simp [q39] at hr
    rw[←hr]
    exact run_equalIn_string w _ t _ _ hu
   case array n e=>
    have hg:q0v P t=true:=by simp [q0v,hu]
    have ex:=fx.1 hg
    have ey:=fy.1 hg
    subst ex; subst ey
    cases hs:q1E P k e with
    | none=>simp [hs] at h
    | some s=>
     simp only[hs] at h
     split at h
     ·rename_i hlen
      cases h
      obtain ⟨hue,h1⟩:=qaK hs
      obtain ⟨de,hde⟩:=q32 hue
      obtain ⟨i,hi⟩:=info_of_underlying hde
      have hc:P.cellsOf e=s.length:=by simp [Program.cellsOf,hlen,q0j,hi]
      rw[show d+(k+1)=(d+k)+1 from rfl,run_equalIn_array w (d+k) xs.toArray ys.toArray hu hi,hc]
      have key : ∀ (m j:Nat) (r:Bool),q0y (List.replicate m s).flatten (xs.drop (j * s.length)) (ys.drop (j * s.length))=some r →
        (Op.eqItems (d+k) e s.length xs.toArray ys.toArray (List.range' j m)).run P w = .ok r w:=by
       intro m
       induction m with
       | zero=>
        intro j r hr
        simp only[List.replicate_zero,List.flatten_nil] at hr
        have:=q1w hr
        have e1:=Kw this.1
        have e2:=Kw this.2
        rw[e1,e2] at hr
        cases hr
        rfl
       | succ m ihm=>
        intro j r hr
        rw[Vs,List.flatten_cons] at hr
        obtain ⟨X,Y,a,b,pX,pY,he,hb,hrr⟩:=qay ih hs hlen w hr
        rw[List.range'_succ]
        simp only[Op.eqItems,Sem.run_bind,pX,pY,he,Result.andThen_ok]
        cases a
        ·simp [hrr]
        ·simp only[V4,Ke,if_false]
         rw[hrr,KH]
         exact ihm (j+1) b (by rw[K5,Nat.one_mul]; exact hb)
      rw[List.range_eq_range']
      exact key n 0 r (by simpa using hr)
     ·cases h
   case struct fs=>
    have hg:q0v P t=true:=by simp [q0v,hu]
    have ex:=fx.1 hg
    have ey:=fy.1 hg
    subst ex; subst ey
    split at h
    ·cases h
    ·rename_i hst
     have hst':P.stoodInHeld t=false:=by simpa using hst
     have hfs:P.fieldsOf t=fs:=by simp [Program.fieldsOf,hu]
     rw[show d+(k+1)=(d+k)+1 from rfl,run_equalIn_struct w (d+k) t xs.toArray ys.toArray (by rw[hfs]; exact hu) hst',hfs]
     have key : ∀ (fl:List Field) (o:Nat) (sh:List CK) (r:Bool),q3P P (q1E P k) fl o=some sh→q0y sh (xs.drop o) (ys.drop o)=some r →
       (Op.eqFields (d+k) xs.toArray ys.toArray fl).run P w = .ok r w:=by
      intro fl
      induction fl with
      | nil=>
       intro o sh r h hr
       cases h
       have:=q1w hr
       have e1:=Kw this.1
       have e2:=Kw this.2
       rw[e1,e2] at hr
       cases hr
       rfl
      | cons f fl ihf=>
       intro o sh r h hr
       unfold q3P at h
       split at h
       ·cases h
       ·rename_i hno
        have hname : f.name ≠ "_" := fun e => hno (.inl e)
        have hoff:f.offset=o:=Classical.not_not.1 fun e=>hno (.inr e)
        cases hs:q1E P k f.type with
        | none=>simp [hs] at h
        | some s=>
         cases hrest:q3P P (q1E P k) fl (o+s.length) with
         | none=>simp [hs,hrest] at h
         | some rest=>
          simp only[hs,hrest] at h
          split at h
          ·rename_i hlen
           cases h
           obtain ⟨X,Y,a,b,pX,pY,he,hb,hrr⟩:=qay ih hs hlen w hr
           simp only[Op.eqFields,hname,ne_eq,not_false_eq_true,if_true,Sem.run_bind,hoff,pX,pY,he,Result.andThen_ok]
           cases a
           ·simp [hrr]
           ·simp only[V4,Ke,if_false]
            rw[hrr,KH]
            exact ihf (o+s.length) rest b hrest hb
          ·cases h
     exact key fs.toList 0 sh r h (by simpa using hr)

theorem qut (w:World) {T:TypeId} {x y:Operand} {X Y:Value} {sh:List CK} {neg:Bool} (hsh:q1E P 6 T=some sh) (hag:q0v P T=true) (hg:P.eqGuardType P.depth T=false) (h:VRels fid M H φ as [X,Y]) (hv:qvO sh neg as=some v) :
  ∃ r,(do eqGuard (if neg then .neq else .eql) T x y X Y; binOp (if neg then .neq else .eql) T X Y:Sem Value).run P w = .ok r w∧VRel fid M H φ v r:=by
 unfold qvO at hv
 split at hv
 ·rename_i cs ds
  obtain ⟨vs,rfl,hvs⟩:=h.head.aggs
  obtain ⟨us,rfl,hus⟩:=h.tail.head.aggs
  cases hc:q2J sh cs ds with
  | none=>simp [hc,qa3] at hv
  | some b=>
   simp only[hc,qa3,Kn] at hv
   subst hv
   have he:=q3e hvs hus hc
   have hrun:=qdP (P:=P) 9994 6 T sh w (.agg vs) (.agg us) vs.toList us.toList b hsh ⟨fun _=>by simp,fun h=>by (rw[hag] at h; cases h)⟩ ⟨fun _=>by simp,fun h=>by (rw[hag] at h; cases h)⟩ he
   refine ⟨.bool (if neg then !b else b),?_,.bool _⟩
   simp only[Sem.run_bind,run_eqGuard_agg w _ T x y vs us hg,Result.andThen_ok]
   cases neg
   ·simp only[Ke,if_false,run_eql_struct]
    rw[show (10000:Nat)=9994+6 from rfl,hrun]
    rfl
   ·simp only[if_true,run_neq_struct]
    rw[show (10000:Nat)=9994+6 from rfl,hrun]
    rfl
 ·cases hv

theorem qwZ (w:World) {T:TypeId} {x y:Operand} {X Y:Value} {neg:Bool} (hT:P.underlying T=some .bool) (h:VRels fid M H φ as [X,Y]) (hv:qvK neg as=some v) :
  ∃ r,(do eqGuard (if neg then .neq else .eql) T x y X Y; binOp (if neg then .neq else .eql) T X Y:Sem Value).run P w = .ok r w∧VRel fid M H φ v r:=by
 unfold qvK at hv
 split at hv
 ·rename_i a b
  cases hc:q3X .bool a b with
  | none=>simp [hc,qa3] at hv
  | some r=>
   simp only[hc,qa3,Kn] at hv
   subst hv
   unfold q3X at hc
   split at hc
   ·contradiction
   ·have h1:=h.head
    have h2:=h.tail.head
    cases h1; cases h2
    cases hc
    refine ⟨_,?_,.bool _⟩
    cases neg<;>simp [eqGuard,binOp,run_equal_bool w T _ _ hT]
   ·contradiction
   ·cases hc
 ·cases hv

theorem qob (w:World) {T:TypeId} {x y:Operand} {X Y:Value} {neg:Bool} {kind:Nat}
  (hT:(kind=0∧∃ e,P.underlying T=some (.pointer e))∨(kind=1∧∃ k e,P.underlying T=some (.map k e))∨(kind=2∧∃ p r b,P.underlying T=some (.func p r b))∨(kind=3∧∃ ms,P.underlying T=some (.interface ms)))
  (h:VRels fid M H φ as [X,Y]) (hv:qvR kind neg as=some v) :
  ∃ r,(do eqGuard (if neg then .neq else .eql) T x y X Y; binOp (if neg then .neq else .eql) T X Y:Sem Value).run P w = .ok r w∧VRel fid M H φ v r:=by
 have fin : ∀ b:Bool,qa3 neg (some b)=some v→v = .bool (if neg then !b else b):=fun b hb=>by
  simp only[qa3,Kn] at hb
  exact hb.symm
 unfold qvR at hv
 split at hv
 ·rename_i a b
  have h1:=h.head
  have h2:=h.tail.head
  unfold qpC at hv
  split at hv
  ·rcases hT with ⟨_,e,hT⟩ | ⟨hk,_⟩ | ⟨hk,_⟩ | ⟨hk,_⟩<;>first | (exact absurd hk (by decide)) | skip
   have he0 : ∀ d:Nat,(Op.equalIn (d+1) T X Y).run P w = .ok true w:=fun d=>by
    cases h1; cases h2
    simp only[Op.equalIn,Sem.run_bind,run_underlying hT,Result.andThen_ok]
    rfl
   have he:(Op.equal T X Y).run P w = .ok true w:=he0 9999
   rw[fin _ hv]
   cases h1; cases h2
   exact ⟨.bool (if neg then !true else true),by cases neg<;>simp [eqGuard,binOp,he],.bool _⟩
  ·rcases hT with ⟨_,e,hT⟩ | ⟨hk,_⟩ | ⟨hk,_⟩ | ⟨hk,_⟩<;>first | (exact absurd hk (by decide)) | skip
   have he0 : ∀ d:Nat,(Op.equalIn (d+1) T X Y).run P w = .ok false w:=fun d=>by
    cases h1; cases h2
    simp only[Op.equalIn,Sem.run_bind,run_underlying hT,Result.andThen_ok]
    rfl
   have he:(Op.equal T X Y).run P w = .ok false w:=he0 9999
   rw[fin _ hv]
   cases h1; cases h2
   exact ⟨.bool (if neg then !false else false),by cases neg<;>simp [eqGuard,binOp,he],.bool _⟩
  ·rcases hT with ⟨_,e,hT⟩ | ⟨hk,_⟩ | ⟨hk,_⟩ | ⟨hk,_⟩<;>first | (exact absurd hk (by decide)) | skip
   have he0 : ∀ d:Nat,(Op.equalIn (d+1) T X Y).run P w = .ok false w:=fun d=>by
    cases h1; cases h2
    simp only[Op.equalIn,Sem.run_bind,run_underlying hT,Result.andThen_ok]
    rfl
   have he:(Op.equal T X Y).run P w = .ok false w:=he0 9999
   rw[fin _ hv]
   cases h1; cases h2
   exact ⟨.bool (if neg then !false else false),by cases neg<;>simp [eqGuard,binOp,he],.bool _⟩
  ·rcases hT with ⟨_,e,hT⟩ | ⟨hk,_⟩ | ⟨hk,_⟩ | ⟨hk,_⟩<;>first | (exact absurd hk (by decide)) | skip
   have he0 : ∀ d:Nat,(Op.equalIn (d+1) T X Y).run P w = .ok false w:=fun d=>by
    cases h1; cases h2
    simp only[Op.equalIn,Sem.run_bind,run_underlying hT,Result.andThen_ok]
    rfl
   have he:(Op.equal T X Y).run P w = .ok false w:=he0 9999
   rw[fin _ hv]
   cases h1; cases h2
   exact ⟨.bool (if neg then !false else false),by cases neg<;>simp [eqGuard,binOp,he],.bool _⟩
  ·rcases hT with ⟨_,e,hT⟩ | ⟨hk,_⟩ | ⟨hk,_⟩ | ⟨hk,_⟩<;>first | (exact absurd hk (by decide)) | skip
   have he0 : ∀ d:Nat,(Op.equalIn (d+1) T X Y).run P w = .ok false w:=fun d=>by
    cases h1; cases h2
    simp only[Op.equalIn,Sem.run_bind,run_underlying hT,Result.andThen_ok]
    rfl
   have he:(Op.equal T X Y).run P w = .ok false w:=he0 9999
   rw[fin _ hv]
   cases h1; cases h2
   exact ⟨.bool (if neg then !false else false),by cases neg<;>simp [eqGuard,binOp,he],.bool _⟩
  ·rcases hT with ⟨hk,_⟩ | ⟨_,k,e,hT⟩ | ⟨hk,_⟩ | ⟨hk,_⟩<;>first | (exact absurd hk (by decide)) | skip
   have he0 : ∀ d:Nat,(Op.equalIn (d+1) T X Y).run P w = .ok true w:=fun d=>by
    cases h1; cases h2
    simp only[Op.equalIn,Sem.run_bind,run_underlying hT,Result.andThen_ok]
    rfl
   have he:(Op.equal T X Y).run P w = .ok true w:=he0 9999
   rw[fin _ hv]
   cases h1; cases h2
   exact ⟨.bool (if neg then !true else true),by cases neg<;>simp [eqGuard,binOp,he],.bool _⟩
  ·rcases hT with ⟨hk,_⟩ | ⟨_,k,e,hT⟩ | ⟨hk,_⟩ | ⟨hk,_⟩<;>first | (exact absurd hk (by decide)) | skip
   have he0 : ∀ d:Nat,(Op.equalIn (d+1) T X Y).run P w = .ok false w:=fun d=>by
    cases h1; cases h2
    simp only[Op.equalIn,Sem.run_bind,run_underlying hT,Result.andThen_ok]
    rfl
   have he:(Op.equal T X Y).run P w = .ok false w:=he0 9999
   rw[fin _ hv]
   cases h1; cases h2
   exact ⟨.bool (if neg then !false else false),by cases neg<;>simp [eqGuard,binOp,he],.bool _⟩
  ·rcases hT with ⟨hk,_⟩ | ⟨_,k,e,hT⟩ | ⟨hk,_⟩ | ⟨hk,_⟩<;>first | (exact absurd hk (by decide)) | skip
   have he0 : ∀ d:Nat,(Op.equalIn (d+1) T X Y).run P w = .ok false w:=fun d=>by
    cases h1; cases h2
    simp only[Op.equalIn,Sem.run_bind,run_underlying hT,Result.andThen_ok]
    rfl
   have he:(Op.equal T X Y).run P w = .ok false w:=he0 9999
   rw[fin _ hv]
   cases h1; cases h2
   exact ⟨.bool (if neg then !false else false),by cases neg<;>simp [eqGuard,binOp,he],.bool _⟩
  ·rcases hT with ⟨hk,_⟩ | ⟨hk,_⟩ | ⟨_,p,r,b,hT⟩ | ⟨hk,_⟩<;>first | (exact absurd hk (by decide)) | skip
   have he0 : ∀ d:Nat,(Op.equalIn (d+1) T X Y).run P w = .ok true w:=fun d=>by
    cases h1; cases h2
    simp only[Op.equalIn,Sem.run_bind,run_underlying hT,Result.andThen_ok]
    rfl
   have he:(Op.equal T X Y).run P w = .ok true w:=he0 9999
   rw[fin _ hv]
   cases h1; cases h2
   exact ⟨.bool (if neg then !true else true),by cases neg<;>simp [eqGuard,binOp,he],.bool _⟩
  ·rcases hT with ⟨hk,_⟩ | ⟨hk,_⟩ | ⟨_,p,r,b,hT⟩ | ⟨hk,_⟩<;>first | (exact absurd hk (by decide)) | skip
   have he0 : ∀ d:Nat,(Op.equalIn (d+1) T X Y).run P w = .ok false w:=fun d=>by
    cases h1; cases h2
    simp only[Op.equalIn,Sem.run_bind,run_underlying hT,Result.andThen_ok]
    rfl
   have he:(Op.equal T X Y).run P w = .ok false w:=he0 9999
   rw[fin _ hv]
   cases h1; cases h2
   exact ⟨.bool (if neg then !false else false),by cases neg<;>simp [eqGuard,binOp,he],.bool _⟩
  ·rcases hT with ⟨hk,_⟩ | ⟨hk,_⟩ | ⟨_,p,r,b,hT⟩ | ⟨hk,_⟩<;>first | (exact absurd hk (by decide)) | skip
   have he0 : ∀ d:Nat,(Op.equalIn (d+1) T X Y).run P w = .ok false w:=fun d=>by
    cases h1; cases h2
    simp only[Op.equalIn,Sem.run_bind,run_underlying hT,Result.andThen_ok]
    rfl
   have he:(Op.equal T X Y).run P w = .ok false w:=he0 9999
   rw[fin _ hv]
   cases h1; cases h2
   exact ⟨.bool (if neg then !false else false),by cases neg<;>simp [eqGuard,binOp,he],.bool _⟩
  ·rcases hT with ⟨hk,_⟩ | ⟨hk,_⟩ | ⟨hk,_⟩ | ⟨_,ms,hT⟩<;>first | (exact absurd hk (by decide)) | skip
   have he0 : ∀ d:Nat,(Op.equalIn (d+1) T X Y).run P w = .ok false w:=fun d=>by
    cases h1; cases h2
    simp only[Op.equalIn,Sem.run_bind,run_underlying hT,Result.andThen_ok]
    rfl
   have he:(Op.equal T X Y).run P w = .ok false w:=he0 9999
   rw[fin _ hv]
   cases h1; cases h2
   exact ⟨.bool (if neg then !false else false),by cases neg<;>simp [eqGuard,binOp,he],.bool _⟩
  ·rcases hT with ⟨hk,_⟩ | ⟨hk,_⟩ | ⟨hk,_⟩ | ⟨_,ms,hT⟩<;>first | (exact absurd hk (by decide)) | skip
   have he0 : ∀ d:Nat,(Op.equalIn (d+1) T X Y).run P w = .ok false w:=fun d=>by
    cases h1; cases h2
    simp only[Op.equalIn,Sem.run_bind,run_underlying hT,Result.andThen_ok]
    rfl
   have he:(Op.equal T X Y).run P w = .ok false w:=he0 9999
   rw[fin _ hv]
   cases h1; cases h2
   exact ⟨.bool (if neg then !false else false),by cases neg<;>simp [eqGuard,binOp,he],.bool _⟩
  ·cases hv
 ·cases hv


theorem qho (vs:List Value) : ∀ (k:Nat) (cells:Array Value),k+vs.length≤cells.size→((vs.zipIdx k).foldl (fun cs (p:Value × Nat)=>cs.setIfInBounds p.2 p.1) cells).toList=cells.toList.take k++vs++cells.toList.drop (k+vs.length):=by
 induction vs with
 | nil=>intro k cells _; simp
 | cons x vs ih=>
  intro k cells h
  simp only[List.zipIdx_cons,VD,Kb] at h ⊢
  rw[ih (k+1) (cells.setIfInBounds k x) (by simp; omega)]
  simp only[Array.toList_setIfInBounds]
  have hk:k<cells.toList.length:=by simp; omega
  rw[List.take_set,List.drop_set_of_lt (by omega),List.take_succ_eq_append_getElem hk,List.set_append_right _ _ (by simp; omega)]
  have hm:min k cells.toList.length=k:=VE (Nat.le_of_lt hk)
  simp only[Vi,hm,V7,List.set_cons_zero,Kq,List.singleton_append,Kr,Kv,Vk,Nat.add_comm 1]

theorem VRel.cells' {x:AV} {u:Value} (h:VRel fid M H φ x u) (h1:x.solid=true):VRels fid M H φ x.cells u.cells.toList:=by
 cases x with
 | agg cs=>
  obtain ⟨vs,rfl,hs⟩:=h.aggs
  exact hs
 | dead=>cases h1
 | tup cs=>cases h1
 | _=>exact h.cells (by simp [AV.cells,AV.one])

theorem q8w (place:Nat→Option (Nat × Nat)) : ∀ (parts:List (Nat × Value)) (pl:List (Nat × Nat)) (args:List AV) (z:List AV) (cells:Array Value) (cs:List AV),VRels fid M H φ z cells.toList→VRels fid M H φ args (parts.map (·.2)) →
  args.all AV.solid=true→pl.length=args.length→(∀ (i:Nat) (p:Nat × Value) (q:Nat × Nat),parts[i]?=some p→pl[i]?=some q→place p.1=some q)→q3j z (pl.zip args)=some cs →
  ∃ out,Instr.fill place cells parts=some out∧VRels fid M H φ cs out.toList
 | [],pl,args,z,cells,cs,hz,ha,hs,hl,hp,ho=>by
  have:=ha.1
  have h0:args=[]:=Kw (by simpa using this)
  subst h0
  have h1:pl=[]:=Kw (by simpa using hl)
  subst h1
  cases ho
  exact ⟨cells,rfl,hz⟩
 | (i,u)::parts,pl,args,z,cells,cs,hz,ha,hs,hl,hp,ho=>by
  cases args with
  | nil=>have:=ha.1; simp at this
  | cons x args=>
   cases pl with
   | nil=>simp at hl
   | cons q pl=>
    obtain ⟨off,n⟩:=q
    simp only[List.zip_cons_cons,q3j] at ho
    split at ho
    ·rename_i hc
     obtain ⟨hcl,hle⟩:=hc
     simp only[K7,Kd] at hs
     have hcells:=ha.head.cells' hs.1
     have hpl:=hp 0 _ _ rfl rfl
     have hsz:u.cells.size=n:=by have:=hcells.1; simp at this; omega
     have hcs:cells.size=z.length:=by have:=hz.1; simp at this; omega
     have hset:(u.cells.zipIdx.foldl (fun cs (x:Value × Nat)=>cs.setIfInBounds (off+x.2) x.1) cells).toList=cells.toList.take off++u.cells.toList++cells.toList.drop (off+n):=by
      have h0:=qho u.cells.toList off cells (by simp; omega)
      have e:(u.cells.zipIdx.foldl (fun cs (x:Value × Nat)=>cs.setIfInBounds (off+x.2) x.1) cells)=((u.cells.toList.zipIdx off).foldl (fun cs (p:Value × Nat)=>cs.setIfInBounds p.2 p.1) cells):=by
       rw[←Array.foldl_toList,Array.toList_zipIdx,List.zipIdx_eq_map_add (i:=off),List.foldl_map]
       first | done | simp [Nat.add_comm]
      rw[e,h0]
      simp [hsz]
     obtain ⟨out,hout,hrel⟩:=q8w place parts pl args _ (u.cells.zipIdx.foldl (fun cs (x:Value × Nat)=>cs.setIfInBounds (off+x.2) x.1) cells) cs (by
      rw[hset]
      exact ((hz.take off).append hcells).append (hz.drop (off+n))) ha.tail hs.2 (by simpa using hl) (fun i p q h1 h2=>hp (i+1) p q (by simpa using h1) (by simpa using h2)) ho
     refine ⟨out,?_,hrel⟩
     simp only[Instr.fill,hpl]
     rw[if_neg (by simp [hsz]; omega)]
     exact hout
    ·cases ho
end
end Ago
namespace Ago
open Go

structure RowAt (fid:FuncId→Option Nat) (M:Mem) (H:Heap) (φ:Nat→Loc) (B:Nat) (w:World) (L:Loc) (r n:Nat) (els:List AV) (fl:Bool) (fam:Nat):Prop where
 base:B≤L.blk
 pos:0<n
 fits:L.off+els.length * n≤L.size
 cells : ∃ c t fr,w.heap[L.blk]?=some (.cells c t fr)∧c.size=L.size∧(∀ o,o<L.size→¬ (fr.1≤o∧o<fr.2)) ∧
  ∀ (i:Nat) (x:AV) (j:Nat) (y:AV),els[i]?=some x→x.cells[j]?=some y→∃ v,c[L.off+i * n+j]?=some v∧VRel fid M H φ y v
 wide : ∀ x,x∈els→x.cells.length=n∧x.cells.all AV.one=true
 flat:fl=true→∀ x,x∈els→x.isPure=true

structure MapAt (fid:FuncId→Option Nat) (M:Mem) (H:Heap) (φ:Nat→Loc) (B:Nat) (w:World) (L:Loc) (es:List (AV × AV)):Prop where
 base:B≤L.blk
 ents : ∃ ces clock,w.heap[L.blk]?=some (.map ces clock)∧ces.size=es.length∧∀ (i:Nat) (k u:AV),es[i]?=some (k,u)→∃ e,ces[i]?=some e∧VRel fid M H φ k e.key∧VRel fid M H φ u e.val

structure HRel (fid:FuncId→Option Nat) (M:Mem) (H:Heap) (φ:Nat→Loc) (B:Nat) (w:World):Prop where
 mem : ∀ b o v,M b o=some v→w.cell? ⟨b,o,none⟩=some v
 row : ∀ r n els ro fl fam,H[r]?=some (.row n els ro fl fam)→RowAt fid M H φ B w (φ r) r n els fl fam
 map : ∀ r es,H[r]?=some (.map es)→MapAt fid M H φ B w (φ r) es
 sepRR : ∀ r r' n els ro fl fam n' els' ro' fl' fam',r≠r'→H[r]?=some (.row n els ro fl fam)→H[r']?=some (.row n' els' ro' fl' fam')→(φ r).blk=(φ r').blk→fam=fam'∧n=n'∧(φ r).off=(φ r').off
 sepMM : ∀ r r' es es',r≠r'→H[r]?=some (.map es)→H[r']?=some (.map es')→(φ r).blk≠(φ r').blk
 ownR : ∀ r n els ro fl fam,H[r]?=some (.row n els ro fl fam)→∀ o v,M (φ r).blk o=some v→∃ r2 els2 fl2,H[r2]?=some (.row n els2 true fl2 fam)∧(φ r2).blk=(φ r).blk∧o<(φ r).off+els2.length * n
 ownM : ∀ r es,H[r]?=some (.map es)→∀ o,M (φ r).blk o=none

section
variable {P:Program} {fid:FuncId→Option Nat} {pf:Nat→Bool} {M:Mem} {H:Heap} {φ:Nat→Loc} {B:Nat} {w:World} {as:List AV} {v:AV}

theorem q35 {α:Type} {b:Option Blk} {k:Nat→List AV→Bool→Bool→Nat→Option α} {x:α} (h:q6M b k=some x) : ∃ n els ro fl fam,b=some (.row n els ro fl fam)∧k n els ro fl fam=some x:=by
 unfold q6M at h
 split at h
 ·exact ⟨_,_,_,_,_,rfl,h⟩
 ·cases h

theorem q4r {α:Type} {b:Option Blk} {k:List (AV × AV)→Option α} {x:α} (h:q84 b k=some x) : ∃ es,b=some (.map es)∧k es=some x:=by
 unfold q84 at h
 split at h
 ·exact ⟨_,rfl,h⟩
 ·cases h

theorem q0K {b o:Nat} {c:Array Value} {t:TypeId} {fr:Nat × Nat} (h:w.heap[b]?=some (.cells c t fr)):w.cell? ⟨b,o,none⟩=c[o]?:=by
 simp [World.cell?,h]

theorem q1M {b o:Nat} {c:Array Value} {t:TypeId} {fr:Nat × Nat} (h:w.heap[b]?=some (.cells c t fr)) (hf : ¬ (fr.1≤o∧o<fr.2)):w.frozen? ⟨b,o,none⟩=false:=by
 obtain ⟨lo,hi⟩:=fr
 simp only[World.frozen?,h]
 simp only[not_and,Nat.not_lt] at hf
 by_cases hl:lo≤o
 ·simp [hl,hf hl]
 ·simp [hl]

theorem q7A {b o m:Nat} {cs:List AV} (hm:cs.length=m) (h : ∀ (j:Nat) (y:AV),cs[j]?=some y→∃ u,w.cell? ⟨b,o+j,none⟩=some u∧VRel fid M H φ y u) :
  ∃ vs:List Value,(loadCells ⟨b,o,none⟩ m).run P w = .ok vs.toArray w∧VRels fid M H φ cs vs:=by
 let f:Nat→Value:=fun j=>(w.cell? ⟨b,o+j,none⟩).getD Go.undef
 have hf : ∀ (j:Nat) (y:AV),cs[j]?=some y→w.cell? ⟨b,o+j,none⟩=some (f j)∧VRel fid M H φ y (f j):=fun j y hy=>by
  obtain ⟨u,h1,h2⟩:=h j y hy
  simp only[f,h1,Vc]
  exact ⟨trivial,h2⟩
 refine ⟨(List.range m).map f,?_,by simp [hm],fun i x u hx hu=>?_⟩
 ·refine run_loadCells w _ m f fun j hj=>?_
  rw[q2b]
  exact (hf j cs[j] (Kh (hm▸hj))).1
 ·have hlt:=q0b hx
  simp only[KB,Vm (hm▸hlt),KI,Kn] at hu
  subst hu
  exact (hf i x hx).2

theorem q0B {n:Nat} : ∀ {l:List AV},(∀ x,x∈l→x.cells.length=n)→(flat l).length=l.length * n
 | [],_=>by simp [Ago.flat]
 | x::l,h=>by
  have h1:=h x (Kj ..)
  have h2:=q0B (l:=l) (fun y hy=>h y (Kl _ hy))
  simp only[Ago.flat,Kk,Kb,h1,h2,K5,Nat.one_mul]
  exact Nat.add_comm _ _

theorem q5w {n:Nat} : ∀ {l:List AV} {p:Nat} {y:AV},(∀ x,x∈l→x.cells.length=n)→(flat l)[p]?=some y→∃ i x j,l[i]?=some x∧x.cells[j]?=some y∧p=i * n+j
 | [],p,y,_,h=>by simp [Ago.flat] at h
 | x::l,p,y,hw,h=>by
  simp only[Ago.flat] at h
  have hx:=hw x (by simp)
  rw[Vj] at h
  split at h
  ·exact ⟨0,x,p,rfl,h,by simp⟩
  ·rename_i hge
   obtain ⟨i,x',j,h1,h2,h3⟩:=q5w (fun y hy=>hw y (by simp [hy])) h
   exact ⟨i+1,x',j,by simpa using h1,h2,by rw[hx] at h3 hge; rw[K5]; omega⟩

theorem qea {n:Nat} : ∀ {l:List AV} {i:Nat} {x:AV} {j:Nat} {y:AV},(∀ x,x∈l→x.cells.length=n)→l[i]?=some x→x.cells[j]?=some y→(flat l)[i * n+j]?=some y
 | [],i,x,j,y,_,h,_=>by simp at h
 | z::l,0,x,j,y,hw,h,hy=>by
  simp at h
  subst h
  have hj:=q0b hy
  simp only[Ago.flat,V8,Vo]
  rw[K4 hj]
  exact hy
 | z::l,i+1,x,j,y,hw,h,hy=>by
  have hz:=hw z (Kj ..)
  have ih:=qea (fun y hy=>hw y (Kl _ hy)) (by simpa using h) hy
  simp only[Ago.flat]
  rw[VB (by rw[hz,K5]; omega),hz,show (i+1) * n+j-n=i * n+j by rw[K5]; omega]
  exact ih

theorem q6g {t:TypeId} (hu:(P.underlying t).isSome=true) (hg:q0v P t=true) {ad:Addr} {vs:List Value} (h:(loadCells ad (q0j P t)).run P w = .ok vs.toArray w) :
  (loadVar t ad).run P w = .ok (.agg vs.toArray) w:=by
 simp [loadVar,q58 hu,hg,q4K hu,h]

theorem qet {t:TypeId} (hu:(P.underlying t).isSome=true) (hg:q0v P t=false) {ad:Addr} {u:Value} (h:w.cell? ad=some u):(loadVar t ad).run P w = .ok u w:=by
 simp [loadVar,q58 hu,hg,h]

theorem qoP (hH:HRel fid M H φ B w) {t:TypeId} {X:Value} (hu:(P.underlying t).isSome=true) (h:VRels fid M H φ as [X]) (hv:qip (if q0v P t then some (q0j P t) else none) H as=some v) :
  ∃ r,(Instr.loadAt t X).run P w = .ok r w∧VRel fid M H φ v r:=by
 -- what is known of the cells at an address
 have fin : ∀ (b o:Nat) (cs:List AV),(∀ (j:Nat) (y:AV),cs[j]?=some y→∃ u,w.cell? ⟨b,o+j,none⟩=some u∧VRel fid M H φ y u)→∀ off,q4M cs off (if q0v P t then some (q0j P t) else none)=some v →
   ∃ r,(Instr.loadAt t (.pointer (some ⟨b,o+off,none⟩))).run P w = .ok r w∧VRel fid M H φ v r:=by
  intro b o cs hcs off hl
  cases hg:q0v P t with
  | true=>
   simp only[hg,if_true,q4M] at hl
   split at hl
   ·rename_i hle
    cases hl
    obtain ⟨vs,hrun,hrel⟩:=q7A (P:=P) (b:=b) (o:=o+off) (m:=q0j P t) (cs:=(cs.drop off).take (q0j P t)) (by simp; omega) (fun j y hy=>by
     rw[Vw] at hy
     split at hy
     ·rw[VN] at hy
      rw[Vk]
      exact hcs _ _ hy
     ·cases hy)
    exact ⟨.agg vs.toArray,by simp [Instr.loadAt,Instr.sureAddr,q6g hu hg hrun],VRel.ofAggs hrel⟩
   ·cases hl
  | false=>
   simp only[hg,Ke,if_false,q4M] at hl
   obtain ⟨u,h1,h2⟩:=hcs _ _ hl
   exact ⟨u,by simp [Instr.loadAt,Instr.sureAddr,qet hu hg h1],h2⟩
 unfold qip at hv
 split at hv
 ·rename_i cs off
  have h1:=h.head
  cases h1 with
  | tptr _ _ b o vf hm hp hvv=>
   exact fin b o cs (fun j y hy=>⟨vf j,hH.mem _ _ _ (hm j (q0b hy)),hvv j y hy⟩) off hv
 ·rename_i n r i off
  have h1:=h.head
  cases h1 with
  | ptr _ _ _ _ ad hp hh=>
   unfold Heap.load at hv
   obtain ⟨n',els,ro,fl,fam,hrow,hv2⟩:=q35 hv
   clear hv
   unfold qbT at hv2
   split at hv2
   ·rename_i hn
    subst hn
    have hae:=hh els ro fl fam hrow
    subst hae
    have R:=hH.row _ _ _ _ _ _ hrow
    obtain ⟨c,ty,fr,hc,hsz,hfz,hcell⟩:=R.cells
    have hel : ∀ e,els[i]?=some e→∀ (j:Nat) (y:AV),e.cells[j]?=some y→∃ u,w.cell? ⟨(φ r).blk,(φ r).off+i * n'+j,none⟩=some u∧VRel fid M H φ y u:=fun e he j y hy=>by
     obtain ⟨u,h1,h2⟩:=hcell i e j y he hy
     exact ⟨u,by rw[q0K hc]; exact h1,h2⟩
    cases hg:q0v P t with
    | false=>
     simp only[hg,Ke,if_false] at hv2
     unfold oneCell at hv2
     split at hv2
     ·rename_i e he
      have:=fin _ _ e.cells (hel e he) off (by simpa [hg,q4M] using hv2)
      exact this
     ·cases hv2
    | true=>
     simp only[hg,if_true] at hv2
     split at hv2
     ·unfold qf8 at hv2
      split at hv2
      ·rename_i e he
       split at hv2
       ·rename_i h0
        obtain ⟨rfl,hmn⟩:=h0
        simp only[Kn] at hv2
        subst hv2
        have hw:=(R.wide e (Kc he)).1
        obtain ⟨vs,hrun,hrel⟩:=q7A (P:=P) (m:=q0j P t) (cs:=e.cells) (by omega) (hel e he)
        exact ⟨.agg vs.toArray,by simp [Instr.loadAt,Instr.sureAddr,q6g hu hg hrun],VRel.ofAggs hrel⟩
       ·exact fin _ _ e.cells (hel e he) off (by simpa [hg] using hv2)
      ·cases hv2
     ·split at hv2
      ·rename_i h0
       obtain ⟨rfl,hmod,hle⟩:=h0
       simp only[Kn] at hv2
       subst hv2
       have hwide : ∀ x,x∈(els.drop i).take (q0j P t / n')→x.cells.length=n':=fun x hx=>(R.wide x (KT (Kt hx))).1
       have hlen:(flat ((els.drop i).take (q0j P t / n'))).length=q0j P t:=by
        rw[q0B hwide,Vi,List.length_drop,VE (by omega)]
        exact Nat.div_mul_cancel (Nat.dvd_of_mod_eq_zero hmod)
       obtain ⟨vs,hrun,hrel⟩:=q7A (P:=P) (b:=(φ r).blk) (o:=(φ r).off+i * n') (m:=q0j P t) hlen (fun p y hy=>by
        obtain ⟨i',x,j,h1,h2,rfl⟩:=q5w hwide hy
        rw[Vw] at h1
        split at h1
        ·rw[VN] at h1
         obtain ⟨u,h3,h4⟩:=hcell _ _ _ _ h1 h2
         refine ⟨u,?_,h4⟩
         rw[q0K hc,←h3,K5]
         simp [Vk]
        ·cases h1)
       exact ⟨.agg vs.toArray,by simp [Instr.loadAt,Instr.sureAddr,q6g hu hg hrun],VRel.ofAggs hrel⟩
      ·cases hv2
   ·cases hv2
 ·cases hv
end
end Ago
namespace Ago
open Go

structure Placed (H:Heap) (id:Nat) (b:Blk) (H':Heap):Prop where
 at_:H'[id]?=some b
 other : ∀ r,r≠id→H'[r]?=H[r]?
 free : ∀ x,H[id]?=some x→x = .resv
 len:H.length≤H'.length

theorem Placed.push (H:Heap) (b:Blk):Placed H H.length b (H++[b]):=
 ⟨by simp,fun r hr=>by
  rw[Vj]
  split
  ·rfl
  ·rename_i h
   rw[Vh (by simp; omega),Vh (by omega)],fun x hx=>by (have:=q0b hx; omega),by simp⟩

theorem Placed.set {H:Heap} {id:Nat} (b:Blk) (h:H[id]?=some .resv):Placed H id b (H.set id b):=
 ⟨by simp [q0b h],fun r hr=>by rw[Vf (fun e=>hr e.symm)],fun x hx=>by rw[h] at hx; exact (K8 hx).symm,by simp⟩

def q0R (φ:Nat→Loc) (id:Nat) (L:Loc):Nat→Loc:=fun r=>if r=id then L else φ r

section
variable {P:Program} {fid:FuncId→Option Nat} {pf:Nat→Bool} {M:Mem} {H H':Heap} {φ:Nat→Loc} {B:Nat} {w w':World} {as:List AV} {v:AV}

theorem Placed.le {id:Nat} {b:Blk} {L:Loc} (p:Placed H id b H') (hb:b ≠ .resv∨True):HLe H.length H H' φ (q0R φ id L):=by
 refine ⟨p.len,fun r x hr hx=>?_⟩
 by_cases hid:r=id
 ·subst hid
  have:=p.free x hx
  subst this
  exact ⟨b,p.at_,trivial,fun h=>(h rfl).elim⟩
 ·exact ⟨x,by rw[p.other r hid]; exact hx,x.le_refl,fun h=>⟨h,by simp [q0R,hid]⟩⟩

theorem q4i {b:Nat} {o:Obj} (h:w.heap[b]?=some o):b<w.heap.size:=(VC.1 h).1

theorem q9M (h:HRel fid M H φ B w) {b o:Nat} {u:Value} (hm:M b o=some u):b<w.heap.size:=World.block_lt_of_cell? w _ (h.mem b o u hm)

theorem RowAt.mono {L:Loc} {r n:Nat} {els:List AV} {fl:Bool} {fam:Nat} {M':Mem} {φ':Nat→Loc} (hM : ∀ b o u,M b o=some u→M' b o=some u) (hle:HLe H.length H H' φ φ') (hw:w'.heap[L.blk]?=w.heap[L.blk]?)
  (h:RowAt fid M H φ B w L r n els fl fam):RowAt fid M' H' φ' B w' L r n els fl fam:=by
 obtain ⟨c,t,fr,hc,hsz,hfz,hcell⟩:=h.cells
 refine ⟨h.base,h.pos,h.fits,⟨c,t,fr,by rw[hw]; exact hc,hsz,hfz,fun i x j y hx hy=>?_⟩,h.wide,h.flat⟩
 obtain ⟨u,h1,h2⟩:=hcell i x j y hx hy
 exact ⟨u,h1,h2.mono hM hle⟩

theorem MapAt.mono {L:Loc} {es:List (AV × AV)} {M':Mem} {φ':Nat→Loc} (hM : ∀ b o u,M b o=some u→M' b o=some u) (hle:HLe H.length H H' φ φ') (hw:w'.heap[L.blk]?=w.heap[L.blk]?)
  (h:MapAt fid M H φ B w L es):MapAt fid M' H' φ' B w' L es:=by
 obtain ⟨ces,clock,hc,hsz,he⟩:=h.ents
 refine ⟨h.base,ces,clock,by rw[hw]; exact hc,hsz,fun i k u hx=>?_⟩
 obtain ⟨e,h1,h2,h3⟩:=he i k u hx
 exact ⟨e,h1,h2.mono hM hle,h3.mono hM hle⟩

theorem HRel.placeRow {id n:Nat} {els:List AV} {fl:Bool} {fam:Nat} {c:Array Value} {t:TypeId} {fr:Nat × Nat} (h:HRel fid M H φ B w) (hw : ∀ b,b<w.heap.size→w'.heap[b]?=w.heap[b]?) (hB:B≤w.heap.size)
  (hnew:w'.heap[w.heap.size]?=some (.cells c t fr)) (hfr : ∀ o,o<c.size→¬ (fr.1≤o∧o<fr.2)) (p:Placed H id (.row n els false fl fam) H') (hn:0<n) (hfit:els.length * n≤c.size)
  (hcells : ∀ (q:Nat) (y:AV),(flat els)[q]?=some y→∃ u,c[q]?=some u∧VRel fid M H φ y u) (hwide : ∀ x,x∈els→x.cells.length=n∧x.cells.all AV.one=true) (hfl:fl=true→∀ x,x∈els→x.isPure=true) :
  HRel fid M H' (q0R φ id ⟨w.heap.size,0,c.size⟩) B w':=by
 have hle:HLe H.length H H' φ (q0R φ id ⟨w.heap.size,0,c.size⟩):=p.le (.inr trivial)
 have old : ∀ r b,H'[r]?=some b→r≠id→H[r]?=some b:=fun r b hr hne=>by rw[←p.other r hne]; exact hr
 have new : ∀ b,H'[id]?=some b→b = .row n els false fl fam:=fun b hb=>by rw[p.at_] at hb; exact (K8 hb).symm
 have loc : ∀ r,r≠id→q0R φ id ⟨w.heap.size,0,c.size⟩ r=φ r:=fun r hr=>by simp [q0R,hr]
 have loc0:q0R φ id ⟨w.heap.size,0,c.size⟩ id=⟨w.heap.size,0,c.size⟩:=by simp [q0R]
 have blt : ∀ r n els ro fl fam,H[r]?=some (.row n els ro fl fam)→(φ r).blk<w.heap.size:=fun r n els ro fl fam hr=>by
  obtain ⟨c,t,fr,hc,_⟩:=(h.row _ _ _ _ _ _ hr).cells
  exact q4i hc
 have mlt : ∀ r es,H[r]?=some (.map es)→(φ r).blk<w.heap.size:=fun r es hr=>by
  obtain ⟨c,cl,hc,_⟩:=(h.map _ _ hr).ents
  exact q4i hc
 refine ⟨fun b o u hm=>?_,fun r n' els' ro' fl' fam' hr=>?_,fun r es hr=>?_,fun r r' n1 e1 o1 f1 a1 n2 e2 o2 f2 a2 hne h1 h2 hb=>?_,fun r r' es es' hne h1 h2=>?_,fun r n' els' ro' fl' fam' hr o u hm=>?_,fun r es hr o=>?_⟩
 ·have hlt:=q9M h hm
  rw[World.cell?_of_block (w:=w) (hw b hlt)]
  exact h.mem b o u hm
 ·by_cases hid:r=id
  ·subst hid
   have:=new _ hr
   cases this
   rw[loc0]
   refine ⟨hB,hn,by simpa using hfit,⟨c,t,fr,hnew,rfl,hfr,fun i x j y hx hy=>?_⟩,hwide,hfl⟩
   obtain ⟨u,h1,h2⟩:=hcells (i * n+j) y (qea (fun z hz=>(hwide z hz).1) hx hy)
   exact ⟨u,by simpa using h1,h2.mono (fun _ _ _ h=>h) hle⟩
  ·have hr0:=old _ _ hr hid
   rw[loc r hid]
   exact (h.row _ _ _ _ _ _ hr0).mono (fun _ _ _ h=>h) hle (hw _ (blt _ _ _ _ _ _ hr0))
 ·by_cases hid:r=id
  ·subst hid; cases new _ hr
  ·have hr0:=old _ _ hr hid
   rw[loc r hid]
   exact (h.map _ _ hr0).mono (fun _ _ _ h=>h) hle (hw _ (mlt _ _ hr0))
 ·by_cases hid:r=id
  ·subst hid
   have h2':=old _ _ h2 (fun e=>hne e.symm)
   rw[loc0,loc r' (fun e=>hne e.symm)] at hb
   have:=blt _ _ _ _ _ _ h2'
   simp only at hb
   omega
  ·by_cases hid':r'=id
   ·subst hid'
    have h1':=old _ _ h1 hid
    rw[loc0,loc r hid] at hb
    have:=blt _ _ _ _ _ _ h1'
    simp only at hb
    omega
   ·rw[loc r hid,loc r' hid'] at hb ⊢
    exact h.sepRR r r' _ _ _ _ _ _ _ _ _ _ hne (old _ _ h1 hid) (old _ _ h2 hid') hb
 ·by_cases hid:r=id
  ·subst hid; cases new _ h1
  ·by_cases hid':r'=id
   ·subst hid'; cases new _ h2
   ·rw[loc r hid,loc r' hid']
    exact h.sepMM r r' _ _ hne (old _ _ h1 hid) (old _ _ h2 hid')
 ·by_cases hid:r=id
  ·subst hid
   rw[loc0] at hm
   have:=q9M h hm
   simp only at this
   omega
  ·rw[loc r hid] at hm ⊢
   obtain ⟨r2,els2,fl2,h1,h2,h3⟩:=h.ownR _ _ _ _ _ _ (old _ _ hr hid) o u hm
   have hne:r2≠id:=fun e=>by
    subst e
    have:=p.free _ h1
    cases this
   exact ⟨r2,els2,fl2,by rw[p.other r2 hne]; exact h1,by rw[loc r2 hne]; exact h2,h3⟩
 ·by_cases hid:r=id
  ·subst hid; cases new _ hr
  ·rw[loc r hid]
   exact h.ownM _ _ (old _ _ hr hid) o

theorem HRel.placeGone {id:Nat} (h:HRel fid M H φ B w) (p:Placed H id .gone H'):HRel fid M H' φ B w:=by
 have hle:HLe H.length H H' φ φ:=by
  refine ⟨p.len,fun r x hr hx=>?_⟩
  by_cases hid:r=id
  ·subst hid
   have:=p.free x hx
   subst this
   exact ⟨.gone,p.at_,trivial,fun h=>(h rfl).elim⟩
  ·exact ⟨x,by rw[p.other r hid]; exact hx,x.le_refl,fun h=>⟨h,rfl⟩⟩
 have old : ∀ r b,H'[r]?=some b→b≠Blk.gone→H[r]?=some b:=fun r b hr hne=>by
  by_cases hid:r=id
  ·subst hid; rw[p.at_] at hr; exact (hne (K8 hr).symm).elim
  ·rw[←p.other r hid]; exact hr
 refine ⟨h.mem,fun r n' els' ro' fl' fam' hr=>?_,fun r es hr=>?_,fun r r' n1 e1 o1 f1 a1 n2 e2 o2 f2 a2 hne h1 h2 hb=>?_,fun r r' es es' hne h1 h2=>?_,fun r n' els' ro' fl' fam' hr o u hm=>?_,fun r es hr o=>?_⟩
 ·exact (h.row _ _ _ _ _ _ (old _ _ hr (by simp))).mono (fun _ _ _ h=>h) hle rfl
 ·exact (h.map _ _ (old _ _ hr (by simp))).mono (fun _ _ _ h=>h) hle rfl
 ·exact h.sepRR r r' _ _ _ _ _ _ _ _ _ _ hne (old _ _ h1 (by simp)) (old _ _ h2 (by simp)) hb
 ·exact h.sepMM r r' _ _ hne (old _ _ h1 (by simp)) (old _ _ h2 (by simp))
 ·obtain ⟨r2,els2,fl2,h1,h2,h3⟩:=h.ownR _ _ _ _ _ _ (old _ _ hr (by simp)) o u hm
  have hne:r2≠id:=fun e=>by
   subst e
   have:=p.free _ h1
   cases this
  exact ⟨r2,els2,fl2,by rw[p.other r2 hne]; exact h1,h2,h3⟩
 ·exact h.ownM _ _ (old _ _ hr (by simp)) o
end
end Ago
namespace Ago
open Go

section
variable {P:Program} {fid:FuncId→Option Nat} {pf:Nat→Bool} {M:Mem} {H H':Heap} {φ:Nat→Loc} {B:Nat} {w w':World} {as:List AV} {v:AV}

theorem q7O (n:Nat) : ∀ (k:Nat) (cs:List AV),(q80 n k cs).length=k
 | 0,_=>rfl
 | k+1,cs=>by simp [q80,q7O n k]

theorem q5H {n:Nat} (hn:0<n) : ∀ (k:Nat) (cs:List AV),cs.length=k * n→cs.all AV.one=true→flat (q80 n k cs)=cs∧∀ x,x∈q80 n k cs→x.cells.length=n∧x.cells.all AV.one=true
 | 0,cs,hl,_=>by
  have:cs=[]:=Kw (by simpa using hl)
  subst this
  exact ⟨rfl,fun x hx=>by cases hx⟩
 | k+1,cs,hl,h1=>by
  have hlen:n≤cs.length:=by rw[hl,K5]; omega
  obtain ⟨ih1,ih2⟩:=q5H hn k (cs.drop n) (by rw[List.length_drop,hl,K5]; omega) (Ki.2 fun y hy=>Ki.1 h1 y (KT hy))
  have hx:((if n=1 then (cs[0]?).getD .dead else AV.agg (cs.take n)):AV).cells=cs.take n:=by
   split
   ·rename_i h
    subst h
    cases cs with
    | nil=>simp at hlen
    | cons y ys=>
     have:y.one=true:=Ki.1 h1 y (Kj ..)
     cases y<;>first | rfl | cases this
   ·rfl
  refine ⟨?_,fun x hxm=>?_⟩
  ·simp only[q80,Ago.flat,ih1,hx,K6]
  ·simp only[q80,Ks] at hxm
   rcases hxm with rfl | hxm
   ·rw[hx]
    exact ⟨by simp [hlen],Ki.2 fun y hy=>Ki.1 h1 y (Kt hy)⟩
   ·exact ih2 x hxm

theorem q5v {n:Nat} : ∀ (k:Nat) (cs:List AV),(∀ y,y∈cs→AV.pureN 5 y=true)→∀ x,x∈q80 n k cs→x.isPure=true
 | 0,cs,_,x,hx=>by cases hx
 | k+1,cs,h,x,hx=>by
  simp only[q80,Ks] at hx
  rcases hx with rfl | hx
  ·split
   ·cases cs with
    | nil=>rfl
    | cons y ys=>exact q1t 5 y (h y (Kj ..))
   ·exact Ki.2 fun y hy=>h y (Kt hy)
  ·exact q5v k (cs.drop n) (fun y hy=>h y (KT hy)) x hx

def MadeOk (P:Program) (fid:FuncId→Option Nat) (M:Mem) (H:Heap) (φ:Nat→Loc) (B:Nat) (w:World) (s:Sem Value) (v:AV) (b:Blk) (id:Nat):Prop:=
 ∀ H',Placed H id b H'→∃ r w' φ',s.run P w = .ok r w'∧HRel fid M H' φ' B w'∧HLe H.length H H' φ φ'∧VRel fid M H' φ' v r∧RowKit.Below B w w'

theorem q3F (hB:B≤w.heap.size) (o:Obj):RowKit.Below B w (w.alloc o):=(RowKit.Below.refl _ _).alloc hB o

theorem q1m (o:Obj) (b:Nat) (h:b<w.heap.size):(w.alloc o).heap[b]?=w.heap[b]?:=RowKit.Below.heap_alloc w o b h
theorem q1O (o:Obj):(w.alloc o).heap[w.heap.size]?=some o:=by
 show (w.heap.push o)[w.heap.size]?=some o
 simp

theorem q4c {id:Nat} {b:Blk} (p:Placed H id b H') (hb:b ≠ .resv):Present H' id:=⟨b,p.at_,hb⟩

theorem qjB {id n:Nat} {els:List AV} {fl:Bool} {fam:Nat} {L:Loc} (p:Placed H id (.row n els false fl fam) H'):VRel fid M H' (q0R φ id L) (.ptr n id 0 0) (.pointer (some ⟨L.blk,L.off,none⟩)):=by
 refine .ptr n id 0 0 _ (q4c p (by simp)) fun els' ro' fl' fam' he=>?_
 simp [q0R]

theorem q37 {t:TypeId} {cs:List AV} (h:zeroCells P t=some cs) : ∃ z,(∀ w:World,(zeroValue t).run P w = .ok z w)∧VRels fid M H φ cs z.cells.toList∧cs.all AV.one=true∧cs.length=q0j P t∧∀ y,y∈cs→AV.pureN 5 y=true:=by
 unfold zeroCells at h
 split at h
 ·rename_i cs' z hz hi
  split at h
  ·rename_i hc
   cases h
   simp only[Kd,beq_iff_eq] at hc
   obtain ⟨h1,h2⟩:=qb4 (fid:=fid) (M:=M) (H:=H) (φ:=φ) hc.1
   refine ⟨z,fun w=>?_,h1,h2,hc.2,fun y hy=>?_⟩
   ·cases hinfo:P.info? t with
    | none=>simp [hinfo] at hi
    | some i=>
     simp only[hinfo,Vy] at hi
     simp [zeroValue,typeInfo,hinfo,hi]
   ·have : ∀ {cs:List AV} {vs:List Value},q8F cs vs=true→∀ y,y∈cs→AV.pureN 5 y=true:=by
     intro cs
     induction cs with
     | nil=>intro vs _ y hy; cases hy
     | cons x cs ih=>
      intro vs hl y hy
      cases vs with
      | nil=>cases hl
      | cons u vs=>
       simp only[q8F,Kd] at hl
       simp only[Ks] at hy
       rcases hy with rfl | hy
       ·have:=hl.1
        unfold qnZ at this
        split at this<;>first | rfl | cases this
       ·exact ih hl.2 y hy
    exact this hc.1 y hy
  ·cases h
 ·cases h

theorem qbj {t:TypeId} {z:Value} {n id:Nat} {els:List AV} {fl:Bool} (hH:HRel fid M H φ B w) (hB:B≤w.heap.size) (hn:0<n) (hz:VRels fid M H φ (flat els) z.cells.toList)
  (hwide : ∀ x,x∈els→x.cells.length=n∧x.cells.all AV.one=true) (hfl:fl=true→∀ x,x∈els→x.isPure=true) :
  MadeOk P fid M H φ B w (do pure (.pointer (some (← newVar t z)))) (.ptr n id 0 0) (.row n els false fl id) id:=by
 intro H' p
 refine ⟨.pointer (some ⟨w.heap.size,0,none⟩),w.alloc (.cells z.cells t),q0R φ id ⟨w.heap.size,0,z.cells.size⟩,by simp [newVar,newRow],?_,p.le (.inr trivial),qjB (L:=⟨w.heap.size,0,z.cells.size⟩) p,q3F hB _⟩
 refine hH.placeRow (fun b hb=>q1m _ b hb) hB (q1O _) (fun o ho h=>by simp at h) p hn ?_ (fun q y hy=>?_) hwide hfl
 ·have:=hz.1
  rw[q0B (fun x hx=>(hwide x hx).1)] at this
  simpa using Nat.le_of_eq this
 ·obtain ⟨u,h1,h2⟩:=q0V hz hy
  exact ⟨u,by simpa using h1,h2⟩

theorem qt7 {o:Oper} {ρ:Operand→Value} {t:TypeId} {n:Nat} {els:List AV} {id:Nat} {b:Blk} (ho:o.op = .alloc t) (hH:HRel fid M H φ B w) (hB:B≤w.heap.size) (hn:0<n)
  {cs:List AV} (hc:zeroCells P t=some cs) (hf:flat els=cs) (hwide : ∀ x,x∈els→x.cells.length=n∧x.cells.all AV.one=true) (hpure : ∀ x,x∈els→x.isPure=true) (hv:qv5 n els id as=some (v,b)) :
  MadeOk P fid M H φ B w (Instr.alloc t true (.tuple #[])) v b id:=by
 unfold qv5 at hv
 split at hv
 ·cases hv
  obtain ⟨z,hz,hrel,_⟩:=q37 (fid:=fid) (M:=M) (H:=H) (φ:=φ) hc
  intro H' p
  obtain ⟨r,w',φ',hrun,rest⟩:=qbj (P:=P) (t:=t) (z:=z) (id:=id) (fl:=true) hH hB hn (hf▸hrel) hwide (fun _=>hpure) H' p
  refine ⟨r,w',φ',?_,rest⟩
  simp only[Instr.alloc,Sem.run_bind,hz,Result.andThen_ok]
  exact hrun
 ·cases hv

theorem qwz {t:TypeId} {X:Value} {n id:Nat} {b:Blk} (hH:HRel fid M H φ B w) (hB:B≤w.heap.size) (hn:0<n) (h:VRels fid M H φ as [X]) (hv:qsI n id as=some (v,b)) :
  MadeOk P fid M H φ B w (Instr.box t X) v b id:=by
 unfold qsI at hv
 split at hv
 ·rename_i x
  split at hv
  ·cases hv
  ·rename_i hone
   have hone':x.cells.all AV.one=true:=by simpa using hone
   have hrel:=h.head.cells hone'
   split at hv
   ·rename_i hlen
    cases hv
    exact qbj hH hB hn (by simpa [Ago.flat] using hrel) (fun y hy=>by simp at hy; subst hy; exact ⟨hlen,hone'⟩) (fun hp y hy=>by simp at hy; subst hy; exact hp)
   ·split at hv
    ·rename_i hmod
     cases hv
     have hlen:x.cells.length=x.cells.length / n * n:=(Nat.div_mul_cancel (Nat.dvd_of_mod_eq_zero hmod)).symm
     obtain ⟨h1,h2⟩:=q5H hn (x.cells.length / n) x.cells hlen hone'
     refine qbj hH hB hn (by rw[h1]; exact hrel) h2 (fun hp=>q5v _ _ fun y hy=>?_)
     cases x with
     | agg cs=>exact Ki.1 (show cs.all (AV.pureN 5)=true from hp) y hy
     | _=>
      rename_i hl
      simp only[AV.cells,Ks,List.mem_nil_iff,or_false] at hy
      subst hy
      first
       | rfl
       | (cases hp; done)
       | (simp [AV.cells] at hl hmod; omega)
    ·cases hv
 ·cases hv
end
end Ago
namespace Ago
open Go

section
variable {P:Program} {fid:FuncId→Option Nat} {pf:Nat→Bool} {M:Mem} {H H':Heap} {φ:Nat→Loc} {B:Nat} {w w':World} {as:List AV} {v:AV}

theorem HRel.world (h:HRel fid M H φ B w) (hw : ∀ b,b<w.heap.size→w'.heap[b]?=w.heap[b]?):HRel fid M H φ B w':=by
 refine ⟨fun b o u hm=>?_,fun r n' els' ro' fl' fam' hr=>?_,fun r es hr=>?_,h.sepRR,h.sepMM,h.ownR,h.ownM⟩
 ·rw[World.cell?_of_block (w:=w) (hw b (q9M h hm))]
  exact h.mem b o u hm
 ·have R:=h.row _ _ _ _ _ _ hr
  obtain ⟨c,t,fr,hc,_⟩:=R.cells
  exact R.mono (fun _ _ _ h=>h) (HLe.refl _ _ _) (hw _ (q4i hc))
 ·have R:=h.map _ _ hr
  obtain ⟨c,cl,hc,_⟩:=R.ents
  exact R.mono (fun _ _ _ h=>h) (HLe.refl _ _ _) (hw _ (q4i hc))

theorem q3m {t:TypeId} (h:q0j P t≠0) : ∃ i,P.info? t=some i∧i.size=q0j P t:=by
 unfold q0j at *
 cases hi:P.info? t with
 | none=>simp [hi] at h
 | some i=>exact ⟨i,rfl,rfl⟩

theorem qaa : ∀ {agg:Bool} {cs:List AV} {z:AV},q7U agg cs=some z→cs.all AV.one=true→(∀ y,y∈cs→AV.pureN 5 y=true)→z.cells=cs∧z.isPure=true
 | true,cs,z,h,_,hp=>by cases h; exact ⟨rfl,Ki.2 hp⟩
 | false,[],z,h,_,_=>by cases h
 | false,[x],z,h,h1,hp=>by
  cases h
  have hx:x.one=true:=by simpa using h1
  refine ⟨?_,q1t 5 _ (hp _ (Kj ..))⟩
  cases x<;>first | rfl | cases hx
 | false,_::_::_,z,h,_,_=>by cases h

theorem q6h {t:TypeId} {z:AV} (h:q2e P t=some z) : ∃ i zv,P.info? t=some i∧i.zero=some zv∧VRels fid M H φ z.cells zv.cells.toList∧z.cells.length=q0j P t∧z.cells.all AV.one=true∧z.isPure=true:=by
 unfold q2e at h
 cases hc:zeroCells P t with
 | none=>simp [hc] at h
 | some cs=>
  simp only[hc,Vy] at h
  obtain ⟨zv,hrun,hrel,h1,hlen,hp⟩:=q37 (fid:=fid) (M:=M) (H:=H) (φ:=φ) hc
  have hcells:=qaa h h1 hp
  unfold zeroCells at hc
  split at hc
  ·rename_i cs' z' hz hi
   split at hc
   ·rename_i hcc
    cases hc
    cases hinfo:P.info? t with
    | none=>simp [hinfo] at hi
    | some i=>
     simp only[hinfo,Vy] at hi
     have e:=hrun default
     simp [zeroValue,typeInfo,hinfo,hi] at e
     subst e
     refine ⟨i,_,rfl,hi,?_,?_,?_,hcells.2⟩
     ·rw[hcells.1]; exact hrel
     ·rw[hcells.1]; exact hlen
     ·rw[hcells.1]; exact h1
   ·cases hc
  ·cases hc

theorem qdQ {z:AV} {zv:Array Value} {n:Nat} (hn:0<n) (h:VRels fid M H φ z.cells zv.toList) (hl:z.cells.length=n) (k:Nat):VRels fid M H φ (flat (List.replicate k z)) (madeCells zv (k * n)).toList:=by
 have hw : ∀ x,x∈List.replicate k z→x.cells.length=n:=fun x hx=>by rw[(VO.1 hx).2]; exact hl
 have hzs:zv.size=n:=by have:=h.1; simp at this; omega
 refine ⟨by rw[q0B hw]; simp [madeCells],fun p y u hy hu=>?_⟩
 obtain ⟨i,x,j,h1,h2,h3⟩:=q5w hw hy
 have hx:x=z:=(VO.1 (Kc h1)).2
 subst hx
 have hj:j<n:=hl▸q0b h2
 have hp:p<k * n:=by have:=q0b hu; simpa [madeCells] using this
 simp only[madeCells,Array.toList_map,Array.toList_range,KB,Vm hp,KI,Kn] at hu
 have hm:p % n=j:=by rw[h3,Nat.add_comm,Nat.add_mul_mod_self_right,Nat.mod_eq_of_lt hj]
 rw[hzs,hm] at hu
 have hz:zv.toList[j]?=some u:=by
  have hjz:j<zv.size:=by omega
  rw[getElem!_pos zv j hjz] at hu
  rw[←hu]
  simp
 exact h.2 j y u h2 hz

theorem qfy {n:Nat} : ∀ {l:List AV} {i:Nat} {x:AV},(∀ y,y∈l→y.cells.length=n)→i<l.length→flat (l.set i x)=(flat l).take (i * n)++x.cells++(flat l).drop (i * n+n)
 | [],i,x,_,h=>by simp at h
 | y::l,0,x,hw,h=>by
  have hy:=hw y (Kj ..)
  simp [Ago.flat,←hy]
 | y::l,i+1,x,hw,h=>by
  have hy:=hw y (Kj ..)
  have ih:=qfy (x:=x) (fun z hz=>hw z (Kl _ hz)) (by simpa using h:i<l.length)
  have e1:(i+1) * n=n+i * n:=by rw[K5]; omega
  have e2:(i+1) * n+n=n+(i * n+n):=by rw[K5]; omega
  simp only[List.set_cons_succ,Ago.flat,ih]
  rw[e2,e1,←hy,List.take_length_add_append,List.drop_length_add_append]
  simp

theorem qd2 {n:Nat} : ∀ (pl:List Nat) (args:List AV) (l:List AV),(∀ y,y∈l→y.cells.length=n)→pl.length=args.length→(∀ x,x∈args→x.cells.length=n)→(∀ i,i∈pl→i<l.length) →
  q3j (flat l) ((pl.map fun i=>(i * n,n)).zip args)=some (flat ((pl.zip args).foldl (fun l x=>l.set x.1 x.2) l))
 | [],_,l,_,_,_,_=>by simp [q3j]
 | i::pl,[],l,_,h,_,_=>by simp at h
 | i::pl,x::args,l,hw,hl,ha,hp=>by
  have hx:=ha x (Kj ..)
  have hi:=hp i (Kj ..)
  have hfl:=q0B hw
  have hle:i * n+n≤(flat l).length:=by
   rw[hfl]
   have:=K3 n (Nat.succ_le_of_lt hi)
   rw[Nat.succ_mul] at this
   exact this
  simp only[Km,List.zip_cons_cons,q3j,hx,hle,and_self,if_true,VD]
  rw[←qfy hw hi]
  exact qd2 pl args (l.set i x) (fun y hy=>by
   rcases List.mem_or_eq_of_mem_set hy with h | h
   ·exact hw y h
   ·rw[h]; exact hx) (by simpa using hl) (fun y hy=>ha y (Kl _ hy)) (fun j hj=>by simpa using hp j (Kl _ hj))

theorem q4O {Q:AV→Prop} : ∀ (ps:List (Nat × AV)) (l:List AV),(∀ x,x∈l→Q x)→(∀ p,p∈ps→Q p.2)→∀ x,x∈ps.foldl (fun l x=>l.set x.1 x.2) l→Q x
 | [],l,hl,_,x,hx=>hl x hx
 | p::ps,l,hl,hp,x,hx=>q4O ps (l.set p.1 p.2) (fun y hy=>by
   rcases List.mem_or_eq_of_mem_set hy with h | h
   ·exact hl y h
   ·rw[h]; exact hp p (Kj ..)) (fun q hq=>hp q (Kl _ hq)) x hx

theorem q52 : ∀ (ps:List (Nat × AV)) (l:List AV),(ps.foldl (fun l x=>l.set x.1 x.2) l).length=l.length
 | [],l=>rfl
 | p::ps,l=>by simp only[VD]; rw[q52 ps]; simp

theorem q7n {id n len cap:Nat} {els:List AV} {fl:Bool} {fam:Nat} {L:Loc} (p:Placed H id (.row n els false fl fam) H') (hc:len≤cap) (hl:len≤els.length) (ho:L.off=0) (hs:cap * n≤L.size) :
  VRel fid M H' (q0R φ id L) (.sref n id 0 len) (.slice (some ⟨L.blk,0,none⟩) len cap):=by
 refine .sref n id 0 len cap _ hc (fun _=>rfl) (q4c p (by simp)) fun els' ro' fl' fam' he=>?_
 rw[p.at_] at he
 cases he
 refine ⟨by omega,fun _=>?_⟩
 have e:q0R φ id L id=L:=by simp [q0R]
 rw[e]
 exact ⟨by simp [ho],by simp [ho]; exact hs⟩

theorem qcL {t e:TypeId} {len:Nat} {parts:Array (Nat × Value)} {z:AV} {id:Nat} {b:Blk} (hH:HRel fid M H φ B w) (hB:B≤w.heap.size) (ht:P.underlying t=some (.slice e)) (hn:q0j P e≠0) (hlim:len * q0j P e≤2^24)
  (hz:q2e P e=some z) (h:VRels fid M H φ as (parts.toList.map (·.2))) (hv:q3L (q0j P e) (List.replicate len z) (parts.toList.map (·.1)) id as=some (v,b)) :
  MadeOk P fid M H φ B w (Instr.buildSlice t len parts) v b id:=by
 intro H' p
 unfold q3L at hv
 split at hv
 ·rename_i hc
  obtain ⟨hl,hall,hpl⟩:=hc
  obtain ⟨i,zv,hi,hzv,hzr,hzl,hz1,hzp⟩:=q6h (fid:=fid) (M:=M) (H:=H) (φ:=φ) hz
  obtain ⟨i',hi',hsz⟩:=q3m hn
  rw[hi] at hi'
  cases hi'
  have hnpos:0<q0j P e:=VY hn
  have hwidth : ∀ x,x∈as→x.cells.length=q0j P e∧x.cells.all AV.one=true:=fun x hx=>by
   have:=Ki.1 hall x hx
   simpa using this
  have hrepw : ∀ x,x∈List.replicate len z→x.cells.length=q0j P e:=fun x hx=>by rw[(VO.1 hx).2]; exact hzl
  have hplt : ∀ j,j∈parts.toList.map (·.1)→j<(List.replicate len z).length:=fun j hj=>by
   have:=Ki.1 hpl j hj
   simpa using this
  have hov:=qd2 (n:=q0j P e) (parts.toList.map (·.1)) as (List.replicate len z) hrepw hl (fun x hx=>(hwidth x hx).1) hplt
  have hsolid:as.all AV.solid=true:=Ki.2 fun x hx=>by
   have h1:=(hwidth x hx).2
   cases x<;>first | rfl | (simp [AV.cells,AV.one] at h1)
  obtain ⟨out,hout,hrel⟩:=q8w (fid:=fid) (M:=M) (H:=H) (φ:=φ) (fun i=>some (i * q0j P e,q0j P e)) parts.toList ((parts.toList.map (·.1)).map fun i=>(i * q0j P e,q0j P e)) as _ (madeCells zv.cells (len * q0j P e)) _ (qdQ hnpos hzr hzl len) h hsolid (by simpa using hl)
   (fun i p q h1 h2=>by
    simp only[KB,h1,KI,Kn] at h2
    rw[←h2]) hov
  have hrun:(Instr.buildSlice t len parts).run P w = .ok (.slice (some ⟨w.heap.size,0,none⟩) len len) (w.alloc (.cells out e)):=by
   have hout':Instr.fill (fun i=>some (i * q0j P e,q0j P e)) ((Array.range (len * q0j P e)).map (zv.cells[· % zv.cells.size]!)) parts.toList=some out:=hout
   have hlim' : ¬ (16777216<len * q0j P e):=by simpa using hlim
   by_cases h0:len=0
   ·subst h0
    have hout2:Instr.fill (fun i=>some (i * q0j P e,q0j P e)) ((Array.range 0).map ((#[]:Array Value)[· % (#[]:Array Value).size]!)) parts.toList=some out:=by
     rw[←hout']
     simp only[V8,Array.range_zero',Array.map_empty]
    simp only[Instr.buildSlice,Sem.run_bind,run_underlying ht,Result.andThen_ok,Go.sizeOf,typeInfo,hi,hsz,run_program,Sem.run_pure,V8,newRow,run_newObj]
    simp only[show ¬ (0>2^24) by decide,if_false,if_true,Sem.run_pure,Result.andThen_ok,hout2,Sem.run_bind,run_newObj]
    rfl
   ·have h1 : ¬ (len * q0j P e>2^24):=by omega
    have h2 : ¬ (len * q0j P e=0):=Nat.mul_ne_zero h0 hn
    simp only[Instr.buildSlice,Sem.run_bind,run_underlying ht,Result.andThen_ok,Go.sizeOf,typeInfo,hi,hsz,run_program,Sem.run_pure,h1,h2,if_false,zeroValue,hzv,hout',newRow,run_newObj]
    rfl
  have hwide2 : ∀ x,x∈((parts.toList.map (·.1)).zip as).foldl (fun l x=>l.set x.1 x.2) (List.replicate len z)→x.cells.length=q0j P e∧x.cells.all AV.one=true:=by
   refine q4O (Q:=fun x=>x.cells.length=q0j P e∧x.cells.all AV.one=true) _ _ (fun x hx=>?_) (fun q hq=>hwidth _ (List.of_mem_zip hq).2)
   rw[(VO.1 hx).2]
   exact ⟨hzl,hz1⟩
  have hlen2:(((parts.toList.map (·.1)).zip as).foldl (fun l x=>l.set x.1 x.2) (List.replicate len z)).length=len:=by rw[q52]; simp
  have hos:out.size=len * q0j P e:=by
   have:=hrel.1
   rw[q0B (fun x hx=>(hwide2 x hx).1),hlen2] at this
   simpa using this.symm
  cases len with
  | zero=>
   simp only[List.replicate,Kn,Vg] at hv
   obtain ⟨rfl,rfl⟩:=hv
   refine ⟨_,_,φ,hrun,?_,?_,.snil _ _,q3F hB _⟩
   ·exact (hH.placeGone p).world (fun b hb=>q1m _ b hb)
   ·have:=p.le (φ:=φ) (L:=φ id) (.inr trivial)
    have e:q0R φ id (φ id)=φ:=by funext r; simp [q0R]; intro h; rw[h]
    rw[e] at this
    exact this
  | succ len=>
   simp only[List.replicate,Kn,Vg] at hv
   obtain ⟨rfl,rfl⟩:=hv
   refine ⟨_,_,q0R φ id ⟨w.heap.size,0,out.size⟩,hrun,?_,p.le (.inr trivial),?_,q3F hB _⟩
   ·refine hH.placeRow (fun b hb=>q1m _ b hb) hB (q1O _) (fun o ho h=>by simp at h) p hnpos ?_ (fun q y hy=>?_) hwide2 (fun hfl=>?_)
    ·rw[hos]
     exact Nat.le_of_eq (by rw[show (z::List.replicate len z)=List.replicate (len+1) z from rfl,hlen2])
    ·obtain ⟨u,h1,h2⟩:=q0V hrel hy
     exact ⟨u,by simpa using h1,h2⟩
    ·refine q4O (Q:=fun x=>x.isPure=true) _ (List.replicate (len+1) z) (fun x hx=>?_) (fun q hq=>(Bool.and_eq_true_iff.1 (Ki.1 hfl _ (List.of_mem_zip hq).2)).1)
     rw[(VO.1 hx).2]
     exact hzp
   ·rw[show (z::List.replicate len z).length=len+1 by simp]
    refine q7n (L:=⟨w.heap.size,0,out.size⟩) (len:=len+1) (cap:=len+1) p (Ko _) ?_ rfl (by show _≤out.size; rw[hos]; exact Ko _)
    have:=hlen2
    rw[show (z::List.replicate len z)=List.replicate (len+1) z from rfl,hlen2]
    exact Ko _
 ·cases hv

theorem ql8 {t e:TypeId} {L C:Value} {z:AV} {id:Nat} {b:Blk} (hH:HRel fid M H φ B w) (hB:B≤w.heap.size) (ht:P.underlying t=some (.slice e)) (hn:q0j P e≠0)
  (hz:q2e P e=some z) (h:VRels fid M H φ as [L,C]) (hv:q6E (q0j P e) (q2K P e) z id as=some (v,b)):MadeOk P fid M H φ B w (Instr.makeSlice t L C) v b id:=by
 intro H' p
 unfold q6E at hv
 split at hv
 ·rename_i kl l kc c
  have h1:=h.head
  have h2:=h.tail.head
  cases h1
  cases h2
  split at hv
  ·rename_i hc
   obtain ⟨h0,hlc,hbytes,hcl⟩:=hc
   obtain ⟨i,zv,hi,hzv,hzr,hzl,hz1,hzp⟩:=q6h (fid:=fid) (M:=M) (H:=H) (φ:=φ) hz
   obtain ⟨i',hi',hsz⟩:=q3m hn
   rw[hi] at hi'
   cases hi'
   have hnpos:0<q0j P e:=VY hn
   have hb:i.bytes=q2K P e:=by simp [q2K,hi]
   have hcl':c≤2147483648:=by simpa [lim] using hcl
   have hrun:=run_make (P:=P) w t e i zv ht hi hzv kl kc l c h0 hlc (by rw[hb,VW]; exact Int.le_trans hbytes (by decide)) (by omega)
   rw[hsz] at hrun
   have hrc:=qdQ hnpos hzr hzl c.toNat
   split at hv
   ·rename_i hc0
    simp only[Kn,Vg] at hv
    obtain ⟨rfl,rfl⟩:=hv
    have hl0:l.toNat=0:=by omega
    have hcc:c.toNat=0:=by omega
    rw[hl0,hcc] at hrun
    refine ⟨_,_,φ,hrun,?_,?_,.snil _ _,q3F hB _⟩
    ·exact (hH.placeGone p).world (fun b hb=>q1m _ b hb)
    ·have:=p.le (φ:=φ) (L:=φ id) (.inr trivial)
     have e:q0R φ id (φ id)=φ:=by funext r; simp [q0R]; intro h; rw[h]
     rw[e] at this
     exact this
   ·simp only[Kn,Vg] at hv
    obtain ⟨rfl,rfl⟩:=hv
    have hwide2 : ∀ x,x∈List.replicate c.toNat z→x.cells.length=q0j P e∧x.cells.all AV.one=true:=fun x hx=>by rw[(VO.1 hx).2]; exact ⟨hzl,hz1⟩
    have hos:(madeCells zv.cells (c.toNat * q0j P e)).size=c.toNat * q0j P e:=size_madeCells _ _
    refine ⟨_,_,q0R φ id ⟨w.heap.size,0,(madeCells zv.cells (c.toNat * q0j P e)).size⟩,hrun,?_,p.le (.inr trivial),?_,q3F hB _⟩
    ·refine hH.placeRow (fun b hb=>q1m _ b hb) hB (q1O _) (fun o ho h=>by simp at h) p hnpos (by simp [hos]) (fun q y hy=>?_) hwide2 (fun _ x hx=>by rw[(VO.1 hx).2]; exact hzp)
     obtain ⟨u,h1,h2⟩:=q0V hrc hy
     exact ⟨u,by simpa using h1,h2⟩
    ·exact q7n (L:=⟨w.heap.size,0,(madeCells zv.cells (c.toNat * q0j P e)).size⟩) p (by omega) (by simp; omega) rfl (by simp [hos])
  ·cases hv
 ·cases hv
end
end Ago
namespace Ago
open Go

theorem q6G {r fam from_:Nat} : ∀ (H:Heap) (j:Nat) (H1:Heap),q1i r fam from_ H j=some H1→H1.length=H.length∧∀ i b,H[i]?=some b →
  (H1[i]?=some b∧∀ n els ro fl,b = .row n els ro fl fam→i+j=r∨els.length<from_)∨(H1[i]?=some .gone∧i+j≠r∧∃ n els fl,b = .row n els false fl fam)
 | [],_,H1,h=>by cases h; exact ⟨rfl,fun i b hb=>by cases hb⟩
 | b::bs,j,H1,h=>by
  simp only[q1i] at h
  cases hg:q1i r fam from_ bs (j+1) with
  | none=>simp [hg] at h
  | some bs'=>
   obtain ⟨hl,ih⟩:=q6G bs (j+1) bs' hg
   simp only[hg] at h
   have tailcase : ∀ (x:Blk) (i:Nat) (c:Blk),(b::bs)[i+1]?=some c→((x::bs')[i+1]?=some c∧∀ n els ro fl,c = .row n els ro fl fam→(i+1)+j=r∨els.length<from_)∨((x::bs')[i+1]?=some .gone∧(i+1)+j≠r∧∃ n els fl,c = .row n els false fl fam):=by
    intro x i c hc
    have e:i+1+j=i+(j+1):=by omega
    rw[e]
    simp only[List.getElem?_cons_succ] at hc ⊢
    exact ih i c hc
   have same : ∀ (H2:Heap),some (b::bs')=some H2→(∀ n els ro fl,b = .row n els ro fl fam→j=r∨els.length<from_)→H2.length=(b::bs).length∧∀ i c,(b::bs)[i]?=some c →
     (H2[i]?=some c∧∀ n els ro fl,c = .row n els ro fl fam→i+j=r∨els.length<from_)∨(H2[i]?=some .gone∧i+j≠r∧∃ n els fl,c = .row n els false fl fam):=by
    intro H2 he hb
    cases he
    refine ⟨by simp [hl],fun i c hc=>?_⟩
    cases i with
    | zero=>
     simp only[K0,Kn] at hc
     subst hc
     refine .inl ⟨rfl,fun n els ro fl he=>?_⟩
     rw[Vo]
     exact hb n els ro fl he
    | succ i=>exact tailcase b i c hc
   cases b with
   | row n els ro fl fam'=>
    simp only at h
    split at h
    ·rename_i hc
     obtain ⟨rfl,hj,hfrom⟩:=hc
     split at h
     ·cases h
     ·rename_i hro
      have hro':ro=false:=by simpa using hro
      subst hro'
      simp only[Kn] at h
      subst h
      refine ⟨by simp [hl],fun i c hc=>?_⟩
      cases i with
      | zero=>
       simp only[K0,Kn] at hc
       subst hc
       exact .inr ⟨rfl,by omega,n,els,fl,rfl⟩
      | succ i=>exact tailcase .gone i c hc
    ·rename_i hc
     refine same _ h fun n' els' ro' fl' he=>?_
     cases he
     simp only[true_and,not_and,Nat.not_le] at hc
     by_cases hj:j=r
     ·exact .inl hj
     ·exact .inr (hc hj)
   | gone=>exact same _ h fun _ _ _ _ he=>by cases he
   | resv=>exact same _ h fun _ _ _ _ he=>by cases he
   | map es=>exact same _ h fun _ _ _ _ he=>by cases he
   | iter s p=>exact same _ h fun _ _ _ _ he=>by cases he

theorem q2u {H H1:Heap} {r fam from_:Nat} (h:H.strike r fam from_=some H1):H1.length=H.length∧∀ i b,H[i]?=some b →
  (H1[i]?=some b∧∀ n els ro fl,b = .row n els ro fl fam→i=r∨els.length<from_)∨(H1[i]?=some .gone∧i≠r∧∃ n els fl,b = .row n els false fl fam):=
 q6G H 0 H1 h

theorem q2t {H H1:Heap} {r fam from_:Nat} (h:H.strike r fam from_=some H1) {i:Nat} {b:Blk} (hb:H1[i]?=some b):b = .gone∨(H[i]?=some b∧∀ n els ro fl,b = .row n els ro fl fam→i=r∨els.length<from_):=by
 obtain ⟨hl,hs⟩:=q2u h
 have hlt:=q0b hb
 rw[hl] at hlt
 rcases hs i H[i] (Kh hlt) with ⟨h1,h2⟩ | ⟨h1,_⟩
 ·rw[hb] at h1
  have e:=K8 h1
  rw[e]
  exact .inr ⟨Kh hlt,h2⟩
 ·rw[hb] at h1
  exact .inl (K8 h1)

section
variable {P:Program} {fid:FuncId→Option Nat} {pf:Nat→Bool} {M:Mem} {H H':Heap} {φ φ':Nat→Loc} {B:Nat} {w w':World} {as:List AV} {v:AV}

theorem HRel.step {id n:Nat} {els:List AV} {ro fl:Bool} {fam:Nat} {L:Loc} (hH:HRel fid M H φ B w) (hle:HLe H.length H H' φ φ')
  (hother : ∀ r b,r≠id→H'[r]?=some b→b = .gone∨b = .resv∨(H[r]?=some b∧φ' r=φ r)) (hid:H'[id]?=some (.row n els ro fl fam)) (hφ:φ' id=L)
  (hkeep : ∀ r n els fl fam,H[r]?=some (.row n els true fl fam)→r≠id∧H'[r]?=H[r]?)
  (hrows : ∀ r n' els' ro' fl' fam',r≠id→H'[r]?=some (.row n' els' ro' fl' fam')→H[r]?=some (.row n' els' ro' fl' fam')→RowAt fid M H φ B w' (φ r) r n' els' fl' fam')
  (hmaps : ∀ r es,H[r]?=some (.map es)→MapAt fid M H φ B w' (φ r) es)
  (hmem : ∀ b o v,M b o=some v→w'.cell? ⟨b,o,none⟩=some v)
  (hnew:RowAt fid M H φ B w' L id n els fl fam)
  (hsep : ∀ r n' els' ro' fl' fam',r≠id→H'[r]?=some (.row n' els' ro' fl' fam')→H[r]?=some (.row n' els' ro' fl' fam')→(φ r).blk=L.blk→fam'=fam∧n'=n∧(φ r).off=L.off)
  (hown : ∀ o v,M L.blk o=some v→∃ r2 els2 fl2,H[r2]?=some (.row n els2 true fl2 fam)∧(φ r2).blk=L.blk∧o<L.off+els2.length * n):HRel fid M H' φ' B w':=by
 have old : ∀ r n' els' ro' fl' fam',r≠id→H'[r]?=some (.row n' els' ro' fl' fam')→H[r]?=some (.row n' els' ro' fl' fam')∧φ' r=φ r:=fun r n' els' ro' fl' fam' hne hr=>by
  rcases hother r _ hne hr with h | h | h
  ·cases h
  ·cases h
  ·exact h
 have oldm : ∀ r es,H'[r]?=some (.map es)→H[r]?=some (.map es)∧φ' r=φ r:=fun r es hr=>by
  by_cases hne:r=id
  ·subst hne; rw[hid] at hr; cases hr
  ·rcases hother r _ hne hr with h | h | h
   ·cases h
   ·cases h
   ·exact h
 have keep : ∀ r n els fl fam,H[r]?=some (.row n els true fl fam)→H'[r]?=some (.row n els true fl fam)∧φ' r=φ r:=fun r n els fl fam hr=>by
  obtain ⟨h1,h2⟩:=hkeep r n els fl fam hr
  have h3:H'[r]?=some (.row n els true fl fam):=by rw[h2,hr]
  exact ⟨h3,(old r _ _ _ _ _ h1 h3).2⟩
 refine ⟨hmem,fun r n' els' ro' fl' fam' hr=>?_,fun r es hr=>?_,fun r r' n1 e1 o1 f1 a1 n2 e2 o2 f2 a2 hne h1 h2 hb=>?_,fun r r' es es' hne h1 h2=>?_,fun r n' els' ro' fl' fam' hr o u hm=>?_,fun r es hr o=>?_⟩
 ·by_cases hne:r=id
  ·subst hne
   rw[hid] at hr
   cases hr
   rw[hφ]
   exact hnew.mono (fun _ _ _ h=>h) hle rfl
  ·obtain ⟨h1,h2⟩:=old r _ _ _ _ _ hne hr
   rw[h2]
   exact (hrows r _ _ _ _ _ hne hr h1).mono (fun _ _ _ h=>h) hle rfl
 ·obtain ⟨h1,h2⟩:=oldm r es hr
  rw[h2]
  exact (hmaps r es h1).mono (fun _ _ _ h=>h) hle rfl
 ·by_cases hi:r=id
  ·subst hi
   rw[hid] at h1
   cases h1
   have hne':r'≠r:=fun e=>hne e.symm
   obtain ⟨h3,h4⟩:=old r' _ _ _ _ _ hne' h2
   rw[hφ,h4] at hb ⊢
   obtain ⟨a,b,c⟩:=hsep r' _ _ _ _ _ hne' h2 h3 hb.symm
   exact ⟨a.symm,b.symm,c.symm⟩
  ·by_cases hi':r'=id
   ·subst hi'
    rw[hid] at h2
    cases h2
    obtain ⟨h3,h4⟩:=old r _ _ _ _ _ hi h1
    rw[hφ,h4] at hb ⊢
    exact hsep r _ _ _ _ _ hi h1 h3 hb
   ·obtain ⟨h3,h4⟩:=old r _ _ _ _ _ hi h1
    obtain ⟨h5,h6⟩:=old r' _ _ _ _ _ hi' h2
    rw[h4,h6] at hb ⊢
    exact hH.sepRR r r' _ _ _ _ _ _ _ _ _ _ hne h3 h5 hb
 ·obtain ⟨h3,h4⟩:=oldm r es h1
  obtain ⟨h5,h6⟩:=oldm r' es' h2
  rw[h4,h6]
  exact hH.sepMM r r' _ _ hne h3 h5
 ·by_cases hi:r=id
  ·subst hi
   rw[hid] at hr
   cases hr
   rw[hφ] at hm ⊢
   obtain ⟨r2,els2,fl2,h1,h2,h3⟩:=hown o u hm
   obtain ⟨h4,h5⟩:=keep _ _ _ _ _ h1
   exact ⟨r2,els2,fl2,h4,by rw[h5]; exact h2,h3⟩
  ·obtain ⟨h3,h4⟩:=old r _ _ _ _ _ hi hr
   rw[h4] at hm ⊢
   obtain ⟨r2,els2,fl2,h1,h2,h3'⟩:=hH.ownR _ _ _ _ _ _ h3 o u hm
   obtain ⟨h5,h6⟩:=keep _ _ _ _ _ h1
   exact ⟨r2,els2,fl2,h5,by rw[h6]; exact h2,h3'⟩
 ·obtain ⟨h3,h4⟩:=oldm r es hr
  rw[h4]
  exact hH.ownM r es h3 o


theorem q6Z (b:Nat) (t:TypeId) (fr:Nat × Nat) : ∀ (vs:List Value) (o:Nat) (w:World) (c:Array Value),w.heap[b]?=some (.cells c t fr)→o+vs.length≤c.size →
  ∃ c',(w.setCells b o vs).heap[b]?=some (.cells c' t fr)∧c'.size=c.size∧(∀ q,q<o∨o+vs.length≤q→c'[q]?=c[q]?)∧∀ j,j<vs.length→c'[o+j]?=vs[j]?
 | [],o,w,c,h,_=>⟨c,h,rfl,fun _ _=>rfl,fun j hj=>by simp at hj⟩
 | v::vs,o,w,c,h,hl=>by
  have h1:(w.setCell ⟨b,o,none⟩ v).heap[b]?=some (.cells (c.setIfInBounds o v) t fr):=by
   show (w.heap.modify b _)[b]?=_
   obtain ⟨hlt,hk⟩:=VC.1 h
   rw[KD (by rw[Array.size_modify]; exact hlt),Array.getElem_modify_self,hk]
   rfl
  simp only[Kb] at hl
  obtain ⟨c',h2,h3,h4,h5⟩:=q6Z b t fr vs (o+1) _ _ h1 (by simp; omega)
  refine ⟨c',h2,by simpa using h3,fun q hq=>?_,fun j hj=>?_⟩
  ·simp only[Kb] at hq
   rw[h4 q (by omega),Array.getElem?_setIfInBounds_ne (by omega)]
  ·cases j with
   | zero=>
    rw[Vu,h4 o (by omega)]
    simp only[K0]
    rw[Array.getElem?_setIfInBounds_self_of_lt (by omega)]
   | succ j=>
    have:=h5 j (by simpa using hj)
    rw[show o+(j+1)=o+1+j by omega,this]
    rfl

theorem q2i (b:Nat) : ∀ (vs:List Value) (o:Nat) (w:World) (k:Nat),k≠b→(w.setCells b o vs).heap[k]?=w.heap[k]?
 | [],_,_,_,_=>rfl
 | v::vs,o,w,k,h=>by
  rw[World.setCells,q2i b vs (o+1) _ k h]
  exact RowKit.Below.heap_setCell w ⟨b,o,none⟩ v k h

theorem q5Y {b:Nat} (hb:B≤b) : ∀ (vs:List Value) (o:Nat) {w0 w:World},RowKit.Below B w0 w→RowKit.Below B w0 (w.setCells b o vs)
 | [],_,_,_,h=>h
 | v::vs,o,w0,w,h=>q5Y hb vs (o+1) (h.setCell (p:=⟨b,o,none⟩) hb v)

structure Wrote (fid:FuncId→Option Nat) (M:Mem) (H H1:Heap) (φ:Nat→Loc) (B:Nat) (w w':World) (r p:Nat) (vs:List Value) (keepR:Prop):Prop where
 mem : ∀ b o v,M b o=some v→w'.cell? ⟨b,o,none⟩=some v
 rows : ∀ r' n' els' ro' fl' fam',(r'≠r∨keepR)→H1[r']?=some (.row n' els' ro' fl' fam')→RowAt fid M H φ B w' (φ r') r' n' els' fl' fam'
 maps : ∀ r' es,H[r']?=some (.map es)→MapAt fid M H φ B w' (φ r') es
 blk : ∀ c t fr,w.heap[(φ r).blk]?=some (.cells c t fr)→∃ c',w'.heap[(φ r).blk]?=some (.cells c' t fr)∧c'.size=c.size∧(∀ q,q<(φ r).off+p∨(φ r).off+p+vs.length≤q→c'[q]?=c[q]?)∧∀ j,j<vs.length→c'[(φ r).off+p+j]?=vs[j]?
 below:RowKit.Below B w w'

theorem HRel.write {r n:Nat} {els:List AV} {ro fl:Bool} {fam from_ p:Nat} {vs:List Value} {H1:Heap} {x:Nat} (hH:HRel fid M H φ B w) (hr:H[r]?=some (.row n els ro fl fam)) (hs:H.strike x fam from_=some H1) (hx:x=r∨H.length≤x)
  (hro:ro=false∨els.length * n≤p) (hp:(from_-1) * n≤p) (hfit:(φ r).off+p+vs.length≤(φ r).size) :
  Wrote fid M H H1 φ B w (w.setCells (φ r).blk ((φ r).off+p) vs) r p vs (els.length * n≤p):=by
 have R:=hH.row _ _ _ _ _ _ hr
 obtain ⟨c,t,fr,hc,hsz,hfz,hcell⟩:=R.cells
 have hlenp : ∀ k,k<from_→k * n≤p:=fun k hk=>KZ (K3 n (by omega)) hp
 -- a row of H1 in this block ends ahead of p
 have ends : ∀ r' n' els' ro' fl' fam',(r'≠r∨els.length * n≤p)→H1[r']?=some (.row n' els' ro' fl' fam')→(φ r').blk=(φ r).blk→n'=n∧(φ r').off=(φ r).off∧els'.length * n≤p:=by
  intro r' n' els' ro' fl' fam' hne hr' hb
  rcases q2t hs hr' with h | ⟨h1,h2⟩
  ·cases h
  ·by_cases he:r'=r
   ·subst he
    rw[hr] at h1
    cases h1
    rcases hne with h | h
    ·exact (h rfl).elim
    ·exact ⟨rfl,rfl,h⟩
   ·obtain ⟨h3,h4,h5⟩:=hH.sepRR r' r _ _ _ _ _ _ _ _ _ _ he h1 hr hb
    subst h3
    subst h4
    rcases h2 _ _ _ _ rfl with h | h
    ·rcases hx with hx | hx
     ·exact (he (h.trans hx)).elim
     ·have:=q0b h1
      omega
    ·exact ⟨rfl,h5,hlenp _ h⟩
 have hown : ∀ o u,M (φ r).blk o=some u→o<(φ r).off+p:=by
  intro o u hm
  obtain ⟨r2,els2,fl2,h1,h2,h3⟩:=hH.ownR _ _ _ _ _ _ hr o u hm
  by_cases he:r2=r
  ·subst he
   rw[hr] at h1
   cases h1
   rcases hro with h | h
   ·cases h
   ·omega
  ·obtain ⟨_,hspec⟩:=q2u hs
   rcases hspec r2 _ h1 with ⟨h4,h5⟩ | ⟨_,_,_,_,_,h4⟩
   ·have:=(ends r2 _ _ _ _ _ (.inl he) h4 h2).2.2
    omega
   ·cases h4
 obtain ⟨c',hc',hsz',hout,hin⟩:=q6Z (φ r).blk t fr vs ((φ r).off+p) w c hc (by rw[hsz]; exact hfit)
 refine ⟨fun b o u hm=>?_,fun r' n' els' ro' fl' fam' hne hr'=>?_,fun r' es hr'=>?_,fun c0 t0 fr0 h0=>?_,q5Y R.base vs _ (RowKit.Below.refl _ _)⟩
 ·by_cases hb:b=(φ r).blk
  ·subst hb
   have:=hown o u hm
   rw[q0K hc',hout o (.inl this),←q0K hc]
   exact hH.mem _ _ _ hm
  ·rw[World.cell?_of_block (w:=w) (q2i _ _ _ _ _ hb)]
   exact hH.mem _ _ _ hm
 ·have h1:H[r']?=some (.row n' els' ro' fl' fam'):=by
   rcases q2t hs hr' with h | ⟨h1,_⟩
   ·cases h
   ·exact h1
  have R':=hH.row _ _ _ _ _ _ h1
  by_cases hb:(φ r').blk=(φ r).blk
  ·obtain ⟨hn,ho,hle⟩:=ends r' _ _ _ _ _ hne hr' hb
   subst hn
   obtain ⟨d,t',fr',hd,hsd,hfd,hcd⟩:=R'.cells
   have e:=hd
   rw[hb,hc] at e
   simp only[Kn,Obj.cells.injEq] at e
   obtain ⟨rfl,rfl,rfl⟩:=e
   refine ⟨R'.base,R'.pos,R'.fits,⟨c',t,fr,by rw[hb]; exact hc',by rw[hsz']; exact hsd,hfd,fun i y j z hy hz=>?_⟩,R'.wide,R'.flat⟩
   obtain ⟨u,h2,h3⟩:=hcd i y j z hy hz
   refine ⟨u,?_,h3⟩
   rw[hout _ (.inl ?_)]
   ·exact h2
   ·have hi:=q0b hy
    have hj:j<n':=by have:=q0b hz; rw[(R'.wide y (Kc hy)).1] at this; exact this
    have:=K3 n' (Nat.succ_le_of_lt hi)
    rw[Nat.succ_mul] at this
    omega
  ·exact R'.mono (fun _ _ _ h=>h) (HLe.refl _ _ _) (q2i _ _ _ _ _ hb)
 ·have Mp:=hH.map _ _ hr'
  obtain ⟨ces,clock,h1,_⟩:=Mp.ents
  refine Mp.mono (fun _ _ _ h=>h) (HLe.refl _ _ _) (q2i _ _ _ _ _ fun hb=>?_)
  rw[hb,hc] at h1
  cases h1
 ·rw[hc] at h0
  simp only[Kn,Obj.cells.injEq] at h0
  obtain ⟨rfl,rfl,rfl⟩:=h0
  exact ⟨c',hc',hsz',hout,hin⟩
end
end Ago
