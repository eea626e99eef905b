/- The relation between the abstract machine's values and heap and the model's values and worlds. -/
import Derived.Test.YtahoajoopdphhaaGreatDoorMachA
import Derived.Deep.AppendSrc
import Derived.Orders
import Derived.Laws.Tables
import Derived.Laws.StructEq
import Derived.Below
import Derived.ChangeKeysEq
import Derived.DeepKeys
import Derived.Laws.MakeOwn
import Derived.Laws.IdiomCopy
set_option linter.unusedSimpArgs false
set_option linter.unusedVariables false
namespace Ago
open Go

abbrev Mem:=Nat→Nat→Option Value

structure Loc where
 blk:Nat
 off:Nat
 size:Nat

def Present (H:Heap) (r:Nat):Prop:=∃ b,H[r]?=some b∧b ≠ .resv

def qqv (L:Loc) (n i len cap tot:Nat) (a:Option Addr):Prop:=
 i+len≤tot∧(0<cap→a=some ⟨L.blk,L.off+i * n,none⟩∧L.off+(i+cap) * n≤L.size)

inductive VRel (fid:FuncId→Option Nat) (M:Mem) (H:Heap) (φ:Nat→Loc):AV→Value→Prop where
 | dead (v:Value):VRel fid M H φ .dead v
 | int (k:IntKind) (n:Int):VRel fid M H φ (.int k n) (.int k n)
 | bool (b:Bool):VRel fid M H φ (.bool b) (.bool b)
 | str (s:ByteArray) (l:List UInt8) (h:s.data.toList=l):VRel fid M H φ (.str l) (.string s)
 | nilp:VRel fid M H φ .nilp (.pointer none)
 | nilf:VRel fid M H φ .nilf .nilFunc
 | nili:VRel fid M H φ .nili .nilIface
 | nilm:VRel fid M H φ .nilm (.map none)
 | snil (n:Nat) (a:Option Addr):VRel fid M H φ (.snil n) (.slice a 0 0)
 | tsl (n:Nat) (l:List AV) (a:Option Addr) (len cap b o:Nat) (vf:Nat→Nat→Value) (hl:l.length=len) (hc:len≤cap) (ha:0<len→a=some ⟨b,o,none⟩)
   (hn : ∀ (i:Nat) (x:AV),l[i]?=some x→x.isPure=true∧x.cells.length=n∧x.cells.all AV.one=true) (hm : ∀ i j,i<len→j<n→M b (o+i * n+j)=some (vf i j))
   (hv : ∀ (i:Nat) (x:AV) (j:Nat) (y:AV),l[i]?=some x→x.cells[j]?=some y→VRel fid M H φ y (vf i j)):VRel fid M H φ (.tsl n l) (.slice a len cap)
 | sref (n r i len cap:Nat) (a:Option Addr) (hc:len≤cap) (ha:0<len→a.isSome=true) (hp:Present H r) (h : ∀ els ro fl fam,H[r]?=some (.row n els ro fl fam)→qqv (φ r) n i len cap els.length a) :
   VRel fid M H φ (.sref n r i len) (.slice a len cap)
 | ptr (n r i off:Nat) (ad:Addr) (hp:Present H r) (h : ∀ els ro fl fam,H[r]?=some (.row n els ro fl fam)→ad=⟨(φ r).blk,(φ r).off+i * n+off,none⟩):VRel fid M H φ (.ptr n r i off) (.pointer (some ad))
 | tptr (cs:List AV) (off b o:Nat) (vf:Nat→Value) (hm : ∀ j,j<cs.length→M b (o+j)=some (vf j)) (hp : ∀ (j:Nat) (y:AV),cs[j]?=some y→y.isPure=true∧y.one=true)
   (hv : ∀ (j:Nat) (y:AV),cs[j]?=some y→VRel fid M H φ y (vf j)):VRel fid M H φ (.tptr cs off) (.pointer (some ⟨b,o+off,none⟩))
 | mref (r b:Nat) (hp:Present H r) (h : ∀ es,H[r]?=some (.map es)→b=(φ r).blk):VRel fid M H φ (.mref r) (.map (some b))
 | iref (r b:Nat) (hp:Present H r) (h : ∀ s p,H[r]?=some (.iter s p)→b=(φ r).blk):VRel fid M H φ (.iref r) (.pointer (some ⟨b,0,none⟩))
 | agg (cs:List AV) (vs:Array Value) (hl:cs.length=vs.size) (hv : ∀ (i:Nat) (x:AV) (v:Value),cs[i]?=some x→vs[i]?=some v→VRel fid M H φ x v):VRel fid M H φ (.agg cs) (.agg vs)
 | tup (cs:List AV) (vs:Array Value) (hl:cs.length=vs.size) (hv : ∀ (i:Nat) (x:AV) (v:Value),cs[i]?=some x→vs[i]?=some v→VRel fid M H φ x v):VRel fid M H φ (.tup cs) (.tuple vs)
 | fn (f g:Nat) (cs:List AV) (vs:Array Value) (hg:fid g=some f) (hl:cs.length=vs.size) (hv : ∀ (i:Nat) (x:AV) (v:Value),cs[i]?=some x→vs[i]?=some v→VRel fid M H φ x v) :
   VRel fid M H φ (.fn f cs) (.func (.func g) #[] vs)
 | ifc (t:Nat) (x:AV) (v:Value) (hv:VRel fid M H φ x v):VRel fid M H φ (.ifc t x) (.iface t v)

def VRels (fid:FuncId→Option Nat) (M:Mem) (H:Heap) (φ:Nat→Loc) (cs:List AV) (vs:List Value):Prop:=
 cs.length=vs.length∧∀ (i:Nat) (x:AV) (v:Value),cs[i]?=some x→vs[i]?=some v→VRel fid M H φ x v

theorem q29 : ∀ (k:Nat) (x:AV),AV.pureN k x=true→AV.pureN (k+1) x=true
 | 0,_,h=>by cases h
 | k+1,.agg cs,h=>Kp.2 fun y hy=>q29 k y (Kp.1 h y hy)
 | k+1,.tup cs,h=>Kp.2 fun y hy=>q29 k y (Kp.1 h y hy)
 | k+1,.fn _ cs,h=>Kp.2 fun y hy=>q29 k y (Kp.1 h y hy)
 | k+1,.ifc _ v,h=>q29 k v h
 | _+1,.dead,_=>rfl
 | _+1,.int ..,_=>rfl
 | _+1,.bool _,_=>rfl
 | _+1,.str _,_=>rfl
 | _+1,.nilp,_=>rfl
 | _+1,.nilf,_=>rfl
 | _+1,.nili,_=>rfl
 | _+1,.nilm,_=>rfl
 | _+1,.snil _,_=>rfl
 | _+1,.tsl ..,_=>rfl
 | _+1,.tptr ..,_=>rfl
 | _+1,.sref ..,h=>by cases h
 | _+1,.ptr ..,h=>by cases h
 | _+1,.mref _,h=>by cases h
 | _+1,.iref _,h=>by cases h

theorem q4V {x y:AV} {j:Nat} (hx:x.isPure=true) (hy:x.cells[j]?=some y):y.isPure=true:=by
 cases x with
 | agg cs=>exact q29 5 y (Kp.1 (show cs.all (AV.pureN 5)=true from hx) y (Kc hy))
 | _=>
  simp only[AV.cells] at hy
  cases j with
  | zero=>simp at hy; subst hy; exact hx
  | succ j=>simp at hy

section
variable {fid:FuncId→Option Nat} {M M':Mem} {H H':Heap} {φ φ':Nat→Loc}

theorem VRel.oneCell {x:AV} {v:Value} (h:VRel fid M H φ x v) (h1:x.one=true):v.oneCell'=true:=by
 cases h<;>first | rfl | cases h1

theorem VRels.nil:VRels fid M H φ [] []:=⟨rfl,fun i x v h=>by cases h⟩
theorem VRels.cons {x:AV} {v:Value} {cs:List AV} {vs:List Value} (h:VRel fid M H φ x v) (hs:VRels fid M H φ cs vs):VRels fid M H φ (x::cs) (v::vs):=
 ⟨by simp [hs.1],fun i y u hy hu=>by
  cases i with
  | zero=>simp at hy hu; subst hy; subst hu; exact h
  | succ i=>exact hs.2 i y u (by simpa using hy) (by simpa using hu)⟩
theorem VRels.head {x:AV} {v:Value} {cs:List AV} {vs:List Value} (h:VRels fid M H φ (x::cs) (v::vs)):VRel fid M H φ x v:=h.2 0 x v rfl rfl
theorem VRels.tail {x:AV} {v:Value} {cs:List AV} {vs:List Value} (h:VRels fid M H φ (x::cs) (v::vs)):VRels fid M H φ cs vs:=
 ⟨by have:=h.1; simpa using this,fun i y u hy hu=>h.2 (i+1) y u (by simpa using hy) (by simpa using hu)⟩
theorem VRels.append {cs ds:List AV} {vs us:List Value} (h:VRels fid M H φ cs vs) (h':VRels fid M H φ ds us):VRels fid M H φ (cs++ds) (vs++us):=by
 refine ⟨by simp [h.1,h'.1],fun i x v hx hv=>?_⟩
 rw[Vo] at hx hv
 split at hx
 ·rename_i hlt
  rw[if_pos (h.1▸hlt)] at hv
  exact h.2 i x v hx hv
 ·rename_i hlt
  rw[if_neg (h.1▸hlt)] at hv
  rw[h.1] at hx
  exact h'.2 _ x v hx hv
theorem VRels.take {cs:List AV} {vs:List Value} (h:VRels fid M H φ cs vs) (n:Nat):VRels fid M H φ (cs.take n) (vs.take n):=by
 refine ⟨by simp [h.1],fun i x v hx hv=>?_⟩
 rw[VA] at hx hv
 split at hx
 ·exact h.2 i x v hx (by simpa [*] using hv)
 ·cases hx
theorem VRels.drop {cs:List AV} {vs:List Value} (h:VRels fid M H φ cs vs) (n:Nat):VRels fid M H φ (cs.drop n) (vs.drop n):=
 ⟨by simp [h.1],fun i x v hx hv=>h.2 (n+i) x v (by simpa using hx) (by simpa using hv)⟩

theorem VRel.aggs {cs:List AV} {v:Value} (h:VRel fid M H φ (.agg cs) v) : ∃ vs,v = .agg vs∧VRels fid M H φ cs vs.toList:=by
 cases h with
 | agg _ vs hl hv=>exact ⟨vs,rfl,by simpa using hl,fun i x v hx hu=>hv i x v hx (by simpa using hu)⟩
theorem VRel.ofAggs {cs:List AV} {vs:List Value} (h:VRels fid M H φ cs vs):VRel fid M H φ (.agg cs) (.agg vs.toArray):=
 .agg cs _ (by simpa using h.1) (fun i x v hx hu=>h.2 i x v hx (by simpa using hu))
theorem VRel.ofTups {cs:List AV} {vs:List Value} (h:VRels fid M H φ cs vs):VRel fid M H φ (.tup cs) (.tuple vs.toArray):=
 .tup cs _ (by simpa using h.1) (fun i x v hx hu=>h.2 i x v hx (by simpa using hu))

theorem VRel.cells {x:AV} {v:Value} (h:VRel fid M H φ x v) (h1:x.cells.all AV.one=true):VRels fid M H φ x.cells v.cells.toList:=by
 cases x with
 | agg cs=>
  obtain ⟨vs,rfl,hs⟩:=h.aggs
  exact hs
 | dead=>simp [AV.cells,AV.one] at h1
 | tup cs=>simp [AV.cells,AV.one] at h1
 | _=>
  have hv:v.cells = #[v]:=by
   have:=h.oneCell (by simp only[AV.cells,Vy,List.all_nil,Bool.and_true] at h1; exact h1)
   cases v<;>first | rfl | cases this
  rw[hv]
  exact VRels.cons h VRels.nil


def Blk.le:Blk→Blk→Prop
 | .gone,b=>b = .gone
 | .resv,_=>True
 | .row n els _ _ _,b=>b = .gone∨∃ els' ro' fl' fam',b = .row n els' ro' fl' fam'∧els'.length=els.length
 | .map _,b=>b = .gone∨∃ es',b = .map es'
 | .iter _ _,b=>b = .gone∨∃ s p,b = .iter s p

def HLe (k:Nat) (H H':Heap) (φ φ':Nat→Loc):Prop:=
 H.length≤H'.length∧∀ r b,r<k→H[r]?=some b→∃ b',H'[r]?=some b'∧b.le b'∧(b ≠ .resv→b' ≠ .resv∧φ' r=φ r)

theorem Blk.le_refl (b:Blk):b.le b:=by
 cases b with
 | gone=>rfl
 | resv=>trivial
 | row n els ro fl fam=>exact .inr ⟨els,ro,fl,fam,rfl,rfl⟩
 | map es=>exact .inr ⟨es,rfl⟩
 | iter s p=>exact .inr ⟨s,p,rfl⟩

theorem Blk.le_trans {a b c:Blk} (h:a.le b) (h':b.le c) (hr:a ≠ .resv→b ≠ .resv):a.le c:=by
 cases a with
 | gone=>cases h; exact h'
 | resv=>trivial
 | row n els ro fl fam=>
  rcases h with rfl | ⟨els',ro',fl',fam',rfl,hl⟩
  ·exact .inl h'
  ·rcases h' with rfl | ⟨els2,ro2,fl2,fam2,rfl,hl2⟩
   ·exact .inl rfl
   ·exact .inr ⟨els2,ro2,fl2,fam2,rfl,hl2.trans hl⟩
 | map es=>
  rcases h with rfl | ⟨es',rfl⟩
  ·exact .inl h'
  ·exact h'
 | iter s p=>
  rcases h with rfl | ⟨_,_,rfl⟩
  ·exact .inl h'
  ·exact h'

theorem HLe.refl (k:Nat) (H:Heap) (φ:Nat→Loc):HLe k H H φ φ:=⟨Kr _,fun r b _ h=>⟨b,h,b.le_refl,fun hb=>⟨hb,rfl⟩⟩⟩
theorem HLe.trans {k:Nat} {H1 H2 H3:Heap} {φ1 φ2 φ3:Nat→Loc} (h:HLe k H1 H2 φ1 φ2) (h':HLe k H2 H3 φ2 φ3):HLe k H1 H3 φ1 φ3:=
 ⟨Vc h.1 h'.1,fun r b hr hb=>by
  obtain ⟨b2,h2,l2,e2⟩:=h.2 r b hr hb
  obtain ⟨b3,h3,l3,e3⟩:=h'.2 r b2 hr h2
  exact ⟨b3,h3,Blk.le_trans l2 l3 (fun hb=>(e2 hb).1),fun hb=>⟨(e3 (e2 hb).1).1,((e3 (e2 hb).1).2).trans (e2 hb).2⟩⟩⟩
theorem HLe.mono {k k':Nat} {H H':Heap} {φ φ':Nat→Loc} (h:HLe k H H' φ φ') (hk:k'≤k):HLe k' H H' φ φ':=
 ⟨h.1,fun r b hr hb=>h.2 r b (Nat.lt_of_lt_of_le hr hk) hb⟩

theorem q0f {α:Type} {l:List α} {i:Nat} {x:α} (h:l[i]?=some x):i<l.length:=(Ks.1 h).1

theorem Present.mono (h:HLe H.length H H' φ φ') {r:Nat} (hp:Present H r):Present H' r:=by
 obtain ⟨b,hb,hn⟩:=hp
 obtain ⟨b',h',_,e⟩:=h.2 r b (q0f hb) hb
 exact ⟨b',h',(e hn).1⟩

theorem VRel.mono (hM : ∀ b o v,M b o=some v→M' b o=some v) (h:HLe H.length H H' φ φ') {x:AV} {v:Value} (hx:VRel fid M H φ x v):VRel fid M' H' φ' x v:=by
 induction hx with
 | dead v=>exact .dead v
 | int k n=>exact .int k n
 | bool b=>exact .bool b
 | str s l h=>exact .str s l h
 | nilp=>exact .nilp
 | nilf=>exact .nilf
 | nili=>exact .nili
 | nilm=>exact .nilm
 | snil n a=>exact .snil n a
 | tsl n l a len cap b o vf hl hc ha hn hm hv ih=>exact .tsl n l a len cap b o vf hl hc ha hn (fun i j hi hj=>hM _ _ _ (hm i j hi hj)) ih
 | sref n r i len cap a hc ha hp hs=>
  refine .sref n r i len cap a hc ha (hp.mono h) fun els ro fl fam he=>?_
  obtain ⟨b,hb,hn⟩:=hp
  obtain ⟨b',hb',hle,e⟩:=h.2 r b (q0f hb) hb
  rw[he] at hb'
  cases hb'
  obtain ⟨hn',hφ⟩:=e hn
  cases b with
  | gone=>cases hle
  | resv=>exact (hn rfl).elim
  | row n0 els0 ro0 fl0 fam0=>
   rcases hle with hle | ⟨_,_,_,_,hle,hll⟩
   ·cases hle
   ·cases hle
    rw[hφ,hll]
    exact hs _ _ _ _ hb
  | map es=>rcases hle with hle | ⟨_,hle⟩<;>cases hle
  | iter s p=>rcases hle with hle | ⟨_,_,hle⟩<;>cases hle
 | ptr n r i off ad hp hs=>
  refine .ptr n r i off ad (hp.mono h) fun els ro fl fam he=>?_
  obtain ⟨b,hb,hn⟩:=hp
  obtain ⟨b',hb',hle,e⟩:=h.2 r b (q0f hb) hb
  rw[he] at hb'
  cases hb'
  obtain ⟨hn',hφ⟩:=e hn
  cases b with
  | gone=>cases hle
  | resv=>exact (hn rfl).elim
  | row n0 els0 ro0 fl0 fam0=>
   rcases hle with hle | ⟨_,_,_,_,hle,hll⟩
   ·cases hle
   ·cases hle
    rw[hφ]
    exact hs _ _ _ _ hb
  | map es=>rcases hle with hle | ⟨_,hle⟩<;>cases hle
  | iter s p=>rcases hle with hle | ⟨_,_,hle⟩<;>cases hle
 | tptr cs off b o vf hm hp hv ih=>exact .tptr cs off b o vf (fun j hj=>hM _ _ _ (hm j hj)) hp ih
 | mref r b0 hp hs=>
  refine .mref r b0 (hp.mono h) fun es he=>?_
  obtain ⟨b,hb,hn⟩:=hp
  obtain ⟨b',hb',hle,e⟩:=h.2 r b (q0f hb) hb
  rw[he] at hb'
  cases hb'
  obtain ⟨hn',hφ⟩:=e hn
  cases b with
  | gone=>cases hle
  | resv=>exact (hn rfl).elim
  | row n0 els0 ro0 fl0 fam0=>rcases hle with hle | ⟨_,_,_,_,hle,_⟩<;>cases hle
  | map es=>
   rw[hφ]
   exact hs _ hb
  | iter s p=>rcases hle with hle | ⟨_,_,hle⟩<;>cases hle
 | iref r b0 hp hs=>
  refine .iref r b0 (hp.mono h) fun s p he=>?_
  obtain ⟨b,hb,hn⟩:=hp
  obtain ⟨b',hb',hle,e⟩:=h.2 r b (q0f hb) hb
  rw[he] at hb'
  cases hb'
  obtain ⟨hn',hφ⟩:=e hn
  cases b with
  | gone=>cases hle
  | resv=>exact (hn rfl).elim
  | row n0 els0 ro0 fl0 fam0=>rcases hle with hle | ⟨_,_,_,_,hle,_⟩<;>cases hle
  | map es=>rcases hle with hle | ⟨_,hle⟩<;>cases hle
  | iter s p=>
   rw[hφ]
   exact hs _ _ hb
 | agg cs vs hl hv ih=>exact .agg cs vs hl ih
 | tup cs vs hl hv ih=>exact .tup cs vs hl ih
 | fn f g cs vs hg hl hv ih=>exact .fn f g cs vs hg hl ih
 | ifc t x v hv ih=>exact .ifc t x v ih

theorem VRels.mono (hM : ∀ b o v,M b o=some v→M' b o=some v) (h:HLe H.length H H' φ φ') {cs:List AV} {vs:List Value} (hx:VRels fid M H φ cs vs):VRels fid M' H' φ' cs vs:=
 ⟨hx.1,fun i x v h1 h2=>(hx.2 i x v h1 h2).mono hM h⟩

theorem VRel.pure {x:AV} {v:Value} (hx:VRel fid M H φ x v) : ∀ (k:Nat),AV.pureN k x=true→VRel fid M H' φ' x v:=by
 induction hx with
 | dead v=>exact fun _ _=>.dead v
 | int k n=>exact fun _ _=>.int k n
 | bool b=>exact fun _ _=>.bool b
 | str s l h=>exact fun _ _=>.str s l h
 | nilp=>exact fun _ _=>.nilp
 | nilf=>exact fun _ _=>.nilf
 | nili=>exact fun _ _=>.nili
 | nilm=>exact fun _ _=>.nilm
 | snil n a=>exact fun _ _=>.snil n a
 | tsl n l a len cap b o vf hl hc ha hn hm hv ih=>
  intro k hk
  refine .tsl n l a len cap b o vf hl hc ha hn hm fun i x j y hi hj=>?_
  have hp:=(hn i x hi).1
  have hy : ∃ k',AV.pureN k' y=true:=by
   cases x with
   | agg cs=>exact ⟨5,Kp.1 (show cs.all (AV.pureN 5)=true from hp) y (Kc hj)⟩
   | _=>
    simp only[AV.cells] at hj
    cases j with
    | zero=>simp at hj; subst hj; exact ⟨6,hp⟩
    | succ j=>simp at hj
  obtain ⟨k',hk'⟩:=hy
  exact ih i x j y hi hj k' hk'
 | sref n r i len cap a hc ha hp hs=>exact fun k hk=>by cases k<;>cases hk
 | ptr n r i off ad hp hs=>exact fun k hk=>by cases k<;>cases hk
 | tptr cs off b o vf hm hp hv ih=>exact fun _ _=>.tptr cs off b o vf hm hp fun j y hj=>ih j y hj 6 (hp j y hj).1
 | mref r b0 hp hs=>exact fun k hk=>by cases k<;>cases hk
 | iref r b0 hp hs=>exact fun k hk=>by cases k<;>cases hk
 | agg cs vs hl hv ih=>
  intro k hk
  cases k with
  | zero=>cases hk
  | succ k=>exact .agg cs vs hl fun i x v hi hv'=>ih i x v hi hv' k (Kp.1 hk x (Kc hi))
 | tup cs vs hl hv ih=>
  intro k hk
  cases k with
  | zero=>cases hk
  | succ k=>exact .tup cs vs hl fun i x v hi hv'=>ih i x v hi hv' k (Kp.1 hk x (Kc hi))
 | fn f g cs vs hg hl hv ih=>
  intro k hk
  cases k with
  | zero=>cases hk
  | succ k=>exact .fn f g cs vs hg hl fun i x v hi hv'=>ih i x v hi hv' k (Kp.1 hk x (Kc hi))
 | ifc t x v hv ih=>
  intro k hk
  cases k with
  | zero=>cases hk
  | succ k=>exact .ifc t x v (ih k hk)
end
end Ago
namespace Ago
open Go

section
variable {P:Program} {fid:FuncId→Option Nat} {pf:Nat→Bool} {M:Mem} {H:Heap} {φ:Nat→Loc}

theorem qpF {x:AV} {v:Value} (h:qol x v=true):VRel fid M H φ x v∧x.one=true:=by
 unfold qol at h
 split at h
 ·simp only[Kk,beq_iff_eq] at h
  obtain ⟨rfl,rfl⟩:=h
  exact ⟨.int _ _,rfl⟩
 ·simp only[beq_iff_eq] at h
  subst h
  exact ⟨.bool _,rfl⟩
 ·simp only[beq_iff_eq] at h
  exact ⟨.str _ _ h.symm,rfl⟩
 ·exact ⟨.nilp,rfl⟩
 ·exact ⟨.snil _ _,rfl⟩
 ·exact ⟨.nilm,rfl⟩
 ·exact ⟨.nilf,rfl⟩
 ·exact ⟨.nili,rfl⟩
 ·cases h

theorem qcA : ∀ {cs:List AV} {vs:List Value},q9H cs vs=true→VRels fid M H φ cs vs∧cs.all AV.one=true
 | [],[],_=>⟨VRels.nil,rfl⟩
 | x::cs,v::vs,h=>by
  simp only[q9H,Kk] at h
  obtain ⟨h1,h2⟩:=qpF (fid:=fid) (M:=M) (H:=H) (φ:=φ) h.1
  obtain ⟨h3,h4⟩:=qcA h.2
  exact ⟨VRels.cons h1 h3,by simp [h2,h4]⟩
 | [],_::_,h=>by cases h
 | _::_,[],h=>by cases h

theorem ql8 {t:TypeId} {v:Value} {x:AV} (h:qfR P t v=some x):VRel fid M H φ x v:=by
 unfold qfR at h
 split at h
 ·cases h; exact .int _ _
 ·cases h; exact .bool _
 ·cases h; exact .str _ _ rfl
 ·cases h; exact .nilp
 ·split at h<;>cases h<;>exact .snil _ _
 ·cases h; exact .nilm
 ·cases h; exact .nilf
 ·cases h; exact .nili
 ·split at h
  ·split at h
   ·rename_i hl
    cases h
    obtain ⟨h1,h2⟩:=(qcA (fid:=fid) (M:=M) (H:=H) (φ:=φ) hl).1
    exact .agg _ _ (by simpa using h1) (fun i x v hx hv=>h2 i x v hx (by simpa using hv))
   ·cases h
  ·cases h
 ·cases h

theorem qcK {s:St} {a:Act} (ht:VRels fid M H φ s.tmps a.tmps.toList) {t:TypeId} {x:Operand} {d:Opd} (hd:qdr P fid t x=some d):VRel fid M H φ (s.eval d) (a.eval x):=by
 cases x with
 | tmp i=>
  cases hd
  show VRel fid M H φ (s.tmps.getD i undef) (a.tmps.getD i Go.undef)
  simp only[List.getD,Array.getD_eq_getD_getElem?]
  cases hx:s.tmps[i]? with
  | none=>
   have hlen:=List.getElem?_eq_none_iff.1 hx
   rw[ht.1] at hlen
   have:a.tmps[i]?=none:=by simpa using hlen
   rw[this]
   exact .tup [] #[] rfl (fun i x v h=>by cases h)
  | some y=>
   have hlen:=q0f hx
   rw[ht.1] at hlen
   have hv:a.tmps.toList[i]?=some (a.tmps.toList[i]):=Ki hlen
   have hr:=ht.2 i y _ hx hv
   have hv':a.tmps[i]?=some (a.tmps.toList[i]):=by rw[←VW]; exact hv
   rw[hv']
   exact hr
 | const v=>
  simp only[qdr,Kg] at hd
  obtain ⟨y,hy,rfl⟩:=hd
  exact ql8 hy
 | func f=>
  simp only[qdr,Kg] at hd
  obtain ⟨g,hg,rfl⟩:=hd
  exact .fn g f [] #[] hg rfl (fun i x v h=>by cases h)
 | global g=>cases hd

theorem q7K {s:St} {a:Act} (ht:VRels fid M H φ s.tmps a.tmps.toList) : ∀ {l:List (TypeId × Operand)} {ds:List Opd},q7o P fid l=some ds →
  VRels fid M H φ (ds.map s.eval) (l.map fun p=>a.eval p.2)
 | [],ds,h=>by cases h; exact VRels.nil
 | (t,x)::l,ds,h=>by
  unfold q7o at h
  cases h1:qdr P fid t x with
  | none=>simp [h1] at h
  | some d=>
   cases h2:q7o P fid l with
   | none=>simp [h1,h2] at h
   | some ds'=>
    simp only[h1,h2,Kq] at h
    subst h
    exact VRels.cons (qcK ht h1) (q7K ht h2)

theorem q09 {op op':AOp} {l:List (TypeId × Operand)} {ds:List Opd} (h:q0j P fid op l=some (op',ds)):op=op'∧q7o P fid l=some ds:=by
 simp only[q0j,Kg] at h
 obtain ⟨as,h1,h2⟩:=h
 cases h2
 exact ⟨rfl,h1⟩


variable {as:List AV} {v:AV}

theorem qoB {X:Value} (h:VRels fid M H φ as [X]) (hv:qo9 as=some v):VRel fid M H φ v X:=by
 unfold qo9 at hv
 split at hv
 ·cases hv; exact h.head
 ·cases hv

theorem qtP {C X Y:Value} (h:VRels fid M H φ as [C,X,Y]) (hv:qmN as=some v) : ∃ b,C = .bool b∧VRel fid M H φ v (if b then X else Y):=by
 unfold qmN at hv
 split at hv
 ·rename_i c x y
  cases hv
  have hc:=h.head
  cases hc
  refine ⟨c,rfl,?_⟩
  cases c
  ·exact h.tail.tail.head
  ·exact h.tail.head
 ·cases hv

theorem qqw (w:World) {op:BinOp} {T:TypeId} {x y:Operand} {X Y:Value} (h:VRels fid M H φ as [X,Y]) (hv:quO op as=some v) :
  ∃ r,(do eqGuard op T x y X Y; binOp op T X Y:Sem Value).run P w = .ok r w∧VRel fid M H φ v r:=by
 unfold quO at hv
 split at hv
 ·rename_i a b
  unfold qqS at hv
  split at hv
  ·rename_i k n
   split at hv
   ·rename_i k' m
    have h1:=h.head
    have h2:=h.tail.head
    cases h1; cases h2
    unfold qgO at hv
    cases op<;>simp only[q9r,qkl] at hv<;>(repeat' split at hv)<;>(try cases hv) <;>
     simp_all [eqGuard,binOp,Op.intArith,Op.intDiv,Op.intBits,Op.intCmp,Op.shift] <;>
     first
      | exact .int _ _
      | exact .bool _
      | (split<;>first | (exfalso; omega) | exact ⟨_,rfl,.int _ _⟩)
   ·cases hv
  ·rename_i s
   split at hv
   ·rename_i t
    have h1:=h.head
    have h2:=h.tail.head
    cases h1 with
    | str S _ hS=>
    cases h2 with
    | str T' _ hT=>
    subst hS; subst hT
    have e1:S.toList=S.data.toList:=by rw[ByteArray.toList_eq]
    have e2:T'.toList=T'.data.toList:=by rw[ByteArray.toList_eq]
    cases op<;>simp only[qjV] at hv<;>(repeat' split at hv)<;>(try cases hv)
    ·rename_i hl
     have hl' : ¬ (IntKind.i64.max<(S.size:Int)+(T'.size:Int)):=by
      have:IntKind.i64.max=9223372036854775807:=by decide
      rw[this]
      have h1:S.data.toList.length=S.size:=by simp
      have h2:T'.data.toList.length=T'.size:=by simp
      rw[h1,h2] at hl
      unfold lim at hl
      omega
     refine ⟨.string (S++T'),?_,.str _ _ (by simp)⟩
     have hl2:((S.size:Int)+(T'.size:Int))≤9223372036854775807:=by
      have:IntKind.i64.max=9223372036854775807:=by decide
      omega
     simp [eqGuard,binOp,Op.stringOp,hl',hl2]
    all_goals (refine ⟨_,by simp [eqGuard,binOp,Op.stringOp,e1,e2],.bool _⟩)
   ·cases hv
  ·cases hv
 ·cases hv

theorem qxc (w:World) {op:UnOp} {X:Value} (h:VRels fid M H φ as [X]) (hv:xUn op as=some v) : ∃ r,(Op.unary op X).run P w = .ok r w∧VRel fid M H φ v r:=by
 unfold xUn at hv
 split at hv
 ·rename_i x
  unfold qwC at hv
  split at hv
  ·have h1:=h.head
   cases h1
   cases op<;>simp only at hv<;>(try cases hv)<;>exact ⟨_,rfl,.int _ _⟩
  ·have h1:=h.head
   cases h1
   cases op<;>simp only at hv<;>(try cases hv)<;>exact ⟨_,rfl,.bool _⟩
  ·cases hv
 ·cases hv

theorem q3J {t:TypeId} (h:(P.underlying t).isSome=true) : ∃ d,P.underlying t=some d:=K3.1 h

theorem q5k {t:TypeId} (h:(P.underlying t).isSome=true) (w:World):(Go.sizeOf t).run P w = .ok (q0n P t) w:=by
 obtain ⟨d,hd⟩:=q3J h
 obtain ⟨i,hi⟩:=info_of_underlying hd
 simp [Go.sizeOf,typeInfo,hi,q0n]

theorem q5Q {t:TypeId} (h:(P.underlying t).isSome=true) (w:World):(isAgg t).run P w = .ok (q0v P t) w:=by
 obtain ⟨d,hd⟩:=q3J h
 simp only[isAgg,Sem.run_bind,run_underlying hd,Result.andThen_ok,q0v,hd]
 cases d<;>rfl

theorem q1i {cs:List AV} {vs:List Value} (h:VRels fid M H φ cs vs) {i:Nat} {x:AV} (hx:cs[i]?=some x) : ∃ u,vs[i]?=some u∧VRel fid M H φ x u:=by
 have hlt:=q0f hx
 rw[h.1] at hlt
 exact ⟨_,Ki hlt,h.2 i x _ hx (Ki hlt)⟩

theorem qoN (w:World) {t:TypeId} {cs:List AV} {vs:Array Value} {off:Nat} (hu:(P.underlying t).isSome=true) (h:VRels fid M H φ cs vs.toList) (hv:part cs off (q0n P t) (q0v P t)=some v) :
  ∃ r,(Go.part t vs off).run P w = .ok r w∧VRel fid M H φ v r:=by
 simp only[Go.part,Sem.run_bind,q5Q hu,Result.andThen_ok]
 cases hg:q0v P t with
 | true=>
  simp only[part,hg] at hv
  split at hv
  ·rename_i hle
   cases hv
   refine ⟨.agg (vs.extract off (off+q0n P t)),by simp [q5k hu],?_⟩
   have:=VRel.ofAggs ((h.drop off).take (q0n P t))
   have e:((vs.toList.drop off).take (q0n P t)).toArray=vs.extract off (off+q0n P t):=by
    apply Array.ext'
    simp [List.extract]
   rwa [e] at this
  ·cases hv
 | false=>
  simp only[part,hg] at hv
  obtain ⟨u,hu',hr⟩:=q1i h hv
  refine ⟨u,?_,hr⟩
  have hu2:vs[off]?=some u:=by simpa using hu'
  simp [hu2]

theorem qpV (w:World) {t:TypeId} {f:Nat} {fd:Go.Field} {X:Value} (hf:q8b P t f=some fd) (h:VRels fid M H φ as [X]) (hv:qgl fd.offset (q0n P fd.type) (q0v P fd.type) as=some v) :
  ∃ r,(Instr.field t X f).run P w = .ok r w∧VRel fid M H φ v r:=by
 unfold q8b at hf
 split at hf
 ·rename_i fs hs
  cases hfd:fs[f]? with
  | none=>simp [hfd] at hf
  | some fd'=>
   simp only[hfd,VK] at hf
   split at hf
   ·rename_i hu
    cases hf
    unfold qgl at hv
    split at hv
    ·rename_i cs
     obtain ⟨vs,rfl,hvs⟩:=h.head.aggs
     obtain ⟨r,hr,hrel⟩:=qoN w hu hvs hv
     exact ⟨r,by simp [Instr.field,run_underlying hs,hfd,asAgg,hr],hrel⟩
    ·cases hv
   ·cases hf
 ·cases hf

theorem qwr (w:World) {i:Nat} {X:Value} (h:VRels fid M H φ as [X]) (hv:qv9 i as=some v) : ∃ r,(Instr.extract X i).run P w = .ok r w∧VRel fid M H φ v r:=by
 unfold qv9 at hv
 split at hv
 ·rename_i vs
  have h1:=h.head
  cases h1 with
  | tup _ us hl hr=>
   have hlt:=q0f hv
   rw[hl] at hlt
   have hu:us[i]?=some us[i]:=KU hlt
   exact ⟨us[i],by simp [Instr.extract,hu],hr i v _ hv hu⟩
 ·cases hv

theorem qnR (w:World) {t:TypeId} {X I:Value} (ht:P.underlying t=some .string) (h:VRels fid M H φ as [X,I]) (hv:qcv as=some v) : ∃ r,(Instr.index t X I).run P w = .ok r w∧VRel fid M H φ v r:=by
 unfold qcv at hv
 split at hv
 ·rename_i s k i
  have h1:=h.head
  have h2:=h.tail.head
  cases h1 with
  | str S _ hS=>
  cases h2
  subst hS
  split at hv
  ·rename_i h0
   cases hb:S.data.toList[i.toNat]? with
   | none=>simp [hb,qbG] at hv
   | some b=>
    simp only[hb,qbG,Kq] at hv
    subst hv
    have hb':S[i.toNat]?=some b:=by
     have hlt:=q0f hb
     have hlt':i.toNat<S.size:=by simpa using hlt
     rw[getElem?_pos S i.toNat hlt']
     rw[Ki hlt] at hb
     rw[←hb]
     simp only[Array.getElem_toList]
     rfl
    refine ⟨.int .u8 b.toNat,?_,.int _ _⟩
    simp [Instr.index,asIntOf,run_underlying ht,h0,hb']
  ·cases hv
 ·cases hv

theorem qmD (w:World) {t e:TypeId} {ln:Nat} {X I:Value} (ht:P.underlying t=some (.array ln e)) (hu:(P.underlying e).isSome=true) (h:VRels fid M H φ as [X,I]) (hv:qd1 ln (q0n P e) (q0v P e) as=some v) :
  ∃ r,(Instr.index t X I).run P w = .ok r w∧VRel fid M H φ v r:=by
 unfold qd1 at hv
 split at hv
 ·rename_i cs k i
  obtain ⟨vs,rfl,hvs⟩:=h.head.aggs
  have h2:=h.tail.head
  cases h2
  split at hv
  ·rename_i h0
   obtain ⟨r,hr,hrel⟩:=qoN w hu hvs hv
   exact ⟨r,by simp [Instr.index,asIntOf,run_underlying ht,h0,q5k hu,hr],hrel⟩
  ·cases hv
 ·cases hv

theorem q2v (b o k:Nat):(⟨b,o,none⟩:Addr).add k=⟨b,o+k,none⟩:=by
 unfold Addr.add
 split
 ·rename_i h; subst h; rfl
 ·rfl

theorem qpQ (w:World) {t:TypeId} {f:Nat} {fd:Go.Field} {X:Value} (hf:q8b P t f=some fd) (hz:q0n P fd.type≠0) (h:VRels fid M H φ as [X]) (hv:qhf fd.offset as=some v) :
  ∃ r,(Instr.fieldAt t X f).run P w = .ok r w∧VRel fid M H φ v r:=by
 unfold q8b at hf
 split at hf
 ·rename_i fs hs
  cases hfd:fs[f]? with
  | none=>simp [hfd] at hf
  | some fd'=>
   simp only[hfd,VK] at hf
   split at hf
   ·rename_i hu
    cases hf
    have hrun : ∀ ad:Addr,(Instr.fieldAt t (.pointer (some ad)) f).run P w = .ok (.pointer (some (ad.add fd.offset))) w:=fun ad=>by
     simp [Instr.fieldAt,run_underlying hs,hfd,Instr.sureAddr,fieldPlace,q5k hu,hz]
    unfold qhf at hv
    split at hv
    ·have h1:=h.head
     cases h1 with
     | ptr n r i off ad hp hh=>
      cases hv
      refine ⟨_,hrun ad,.ptr _ _ _ _ _ hp fun els ro fl fam he=>?_⟩
      rw[hh els ro fl fam he,q2v]
      simp [KT]
    ·have h1:=h.head
     cases h1 with
     | tptr _ _ b o vf hm hp hvv=>
      cases hv
      refine ⟨_,hrun _,?_⟩
      rw[q2v,KT]
      exact .tptr _ _ b o vf hm hp hvv
    ·cases hv
   ·cases hf
 ·cases hf
end
end Ago
namespace Ago
open Go

section
variable {P:Program} {fid:FuncId→Option Nat} {pf:Nat→Bool} {M:Mem} {H:Heap} {φ:Nat→Loc} {as:List AV} {v:AV}

theorem qna (w:World) {t e:TypeId} {X I:Value} (ht:P.underlying t=some (.slice e)) (hz:q0n P e≠0) (h:VRels fid M H φ as [X,I]) (hv:qd2 (q0n P e) as=some v) :
  ∃ r,(Instr.indexAt t X I).run P w = .ok r w∧VRel fid M H φ v r:=by
 have hsz:(Go.sizeOf e).run P w = .ok (q0n P e) w:=by
  unfold q0n at hz ⊢
  cases hi:P.info? e with
  | none=>simp [hi] at hz
  | some i=>simp [Go.sizeOf,typeInfo,hi]
 have hrun : ∀ (ad:Addr) (len cap:Nat) (k:IntKind) (i:Int),0≤i→i<len→(Instr.indexAt t (.slice (some ad) len cap) (.int k i)).run P w = .ok (.pointer (some (ad.add (i.toNat * q0n P e)))) w:=fun ad len cap k i h0 h1=>by
  simp [Instr.indexAt,asIntOf,run_underlying ht,h0,h1,hsz]
 unfold qd2 at hv
 split at hv
 ·rename_i m l k i
  split at hv
  ·rename_i h0
   obtain ⟨h0,rfl⟩:=h0
   have h1:=h.head
   have h2:=h.tail.head
   cases h2
   cases h1 with
   | tsl _ _ a len cap b o vf hl hc ha hn hm hvv=>
    cases hx:l[i.toNat]? with
    | none=>simp [hx,qgH] at hv
    | some x=>
     simp only[hx,qgH,Kq] at hv
     subst hv
     have hlt:i.toNat<len:=hl▸q0f hx
     have hae:=ha (by omega)
     subst hae
     obtain ⟨hp,hcl,hone⟩:=hn _ _ hx
     refine ⟨_,hrun _ _ _ _ _ h0 (by omega),?_⟩
     rw[q2v]
     refine .tptr x.cells 0 b (o+i.toNat * q0n P e) (vf i.toNat) (fun j hj=>hm _ _ hlt (hcl▸hj)) (fun j y hy=>⟨q4V hp hy,Kp.1 hone y (Kc hy)⟩) (fun j y hy=>hvv _ _ _ _ hx hy)
  ·cases hv
 ·rename_i m r j ln k i
  split at hv
  ·rename_i h0
   obtain ⟨h0,h1,rfl⟩:=h0
   cases hv
   have h1':=h.head
   have h2:=h.tail.head
   cases h2
   cases h1' with
   | sref _ _ _ _ cap a hc ha hp hh=>
    obtain ⟨ad,rfl⟩:=K3.1 (ha (by omega))
    refine ⟨_,hrun _ _ _ _ _ h0 h1,.ptr _ _ _ _ _ hp fun els ro fl fam he=>?_⟩
    obtain ⟨hle,hcap⟩:=hh els ro fl fam he
    obtain ⟨hae,_⟩:=hcap (by omega)
    cases hae
    rw[q2v,Vi]
    simp [KT]
  ·cases hv
 ·cases hv

theorem qn2 (w:World) {t e:TypeId} {ln:Nat} {X I:Value} (ht:P.underlying t=some (.array ln e)) (hz:q0n P e≠0) (h:VRels fid M H φ as [X,I]) (hv:qcj ln (q0n P e) as=some v) :
  ∃ r,(Instr.indexAt t X I).run P w = .ok r w∧VRel fid M H φ v r:=by
 have hsz:(Go.sizeOf e).run P w = .ok (q0n P e) w:=by
  unfold q0n at hz ⊢
  cases hi:P.info? e with
  | none=>simp [hi] at hz
  | some i=>simp [Go.sizeOf,typeInfo,hi]
 have hrun : ∀ (ad:Addr) (k:IntKind) (i:Int),0≤i→i<ln→(Instr.indexAt t (.pointer (some ad)) (.int k i)).run P w = .ok (.pointer (some (ad.add (i.toNat * q0n P e)))) w:=fun ad k i h0 h1=>by
  simp [Instr.indexAt,Instr.sureAddr,asIntOf,run_underlying ht,h0,h1,hsz]
 unfold qcj at hv
 split at hv
 ·rename_i m r j off k i
  split at hv
  ·rename_i h0
   have h1:=h.head
   have h2:=h.tail.head
   cases h2
   cases h1 with
   | ptr _ _ _ _ ad hp hh=>
    split at hv
    ·rename_i hmn
     obtain ⟨rfl,rfl⟩:=hmn
     cases hv
     refine ⟨_,hrun _ _ _ h0.1 h0.2,.ptr _ _ _ _ _ hp fun els ro fl fam he=>?_⟩
     rw[hh els ro fl fam he,q2v,Vi]
     simp [KT]
    ·cases hv
     refine ⟨_,hrun _ _ _ h0.1 h0.2,.ptr _ _ _ _ _ hp fun els ro fl fam he=>?_⟩
     rw[hh els ro fl fam he,q2v]
     simp [KT]
  ·cases hv
 ·rename_i cs0 o0 k i
  split at hv
  ·rename_i h0
   have h1:=h.head
   have h2:=h.tail.head
   cases h2
   cases h1 with
   | tptr _ _ b o vf hm hp hvv=>
    cases hv
    refine ⟨_,hrun _ _ _ h0.1 h0.2,?_⟩
    rw[q2v,KT]
    exact .tptr _ _ b o vf hm hp hvv
  ·cases hv
 ·cases hv

theorem q9p (w:World) (isSlice:Bool) {len cap:Nat} (hc:len≤cap) {lo hi mx:Option Value} {bs:List AV} (h:VRels fid M H φ bs (lo.toList++hi.toList++mx.toList)) {l u:Nat} {z:Bool}
  (hb:q3g len lo.isSome hi.isSome mx.isSome bs=some (l,u,z)) :
  ∃ m,(Instr.sliceBounds isSlice len cap lo hi mx).run P w = .ok (l,u,m) w∧l≤u∧u≤len∧u≤m∧m≤cap∧(z=true→m=l)∧(mx=none→z=false):=by
 have sb : ∀ (k:IntKind) (i:Int) (y:Nat) (code:BoundsCode),0≤i→i≤y→(Instr.sliceBound (.int k i) y code).run P w = .ok i.toNat w:=fun k i y code h0 h1=>by
  simp [Instr.sliceBound,asIntOf,h0,h1]
 cases lo with
 | none=>
  cases hi with
  | none=>
   cases mx with
   | none=>
    simp only[Option.isSome,q3g] at hb
    split at hb
    ·unfold q7J at hb
     split at hb
     ·cases hb
      exact ⟨cap,by simp [Instr.sliceBounds],by omega,by omega,by omega,by omega,(fun h=>by cases h),fun _=>rfl⟩
     ·cases hb
    ·cases hb
   | some m=>simp [q3g] at hb
  | some u'=>
   cases mx with
   | none=>
    simp only[Option.isSome,q3g] at hb
    split at hb
    ·rename_i k i _
     have h1:=h.head
     cases h1
     unfold q7J at hb
     split at hb
     ·cases hb
      exact ⟨cap,by simp [Instr.sliceBounds,sb _ i cap _ (by omega) (by omega)],by omega,by omega,by omega,by omega,(fun h=>by cases h),fun _=>rfl⟩
     ·cases hb
    ·rename_i h'; simp at h'
    ·cases hb
   | some m=>
    simp only[Option.isSome,q3g] at hb
    split at hb
    ·rename_i h' ; simp at h'
    ·rename_i k i k' j _
     have h1:=h.head
     cases h1
     have h2:=h.tail.head
     cases h2
     unfold qem at hb
     split at hb
     ·rename_i hcond
      cases hb
      refine ⟨j.toNat,by simp [Instr.sliceBounds,sb _ j cap _ (by omega) (by omega),sb _ i j.toNat _ (by omega) (by omega)],by omega,by omega,by omega,by omega,fun h=>?_,fun h=>by cases h⟩
      have:=of_decide_eq_true h
      omega
     ·cases hb
    ·cases hb
 | some l'=>
  cases hi with
  | none=>
   cases mx with
   | none=>
    simp only[Option.isSome,q3g] at hb
    split at hb
    ·rename_i k i _
     have h1:=h.head
     cases h1
     unfold q7J at hb
     split at hb
     ·cases hb
      exact ⟨cap,by simp [Instr.sliceBounds,sb _ i len _ (by omega) (by omega)],by omega,by omega,by omega,by omega,(fun h=>by cases h),fun _=>rfl⟩
     ·cases hb
    ·cases hb
   | some m=>simp [q3g] at hb
  | some u'=>
   cases mx with
   | none=>
    simp only[Option.isSome,q3g] at hb
    split at hb
    ·rename_i k i k' j _
     have h1:=h.head
     cases h1
     have h2:=h.tail.head
     cases h2
     unfold q7J at hb
     split at hb
     ·cases hb
      exact ⟨cap,by simp [Instr.sliceBounds,sb _ j cap _ (by omega) (by omega),sb _ i j.toNat _ (by omega) (by omega)],by omega,by omega,by omega,by omega,(fun h=>by cases h),fun _=>rfl⟩
     ·cases hb
    ·rename_i h'; simp at h'
    ·cases hb
   | some m=>
    simp only[Option.isSome,q3g] at hb
    split at hb
    ·rename_i h'; simp at h'
    ·rename_i k i k' j k'' q _
     have h1:=h.head
     cases h1
     have h2:=h.tail.head
     cases h2
     have h3:=h.tail.tail.head
     cases h3
     unfold qem at hb
     split at hb
     ·cases hb
      refine ⟨q.toNat,by simp [Instr.sliceBounds,sb _ q cap _ (by omega) (by omega),sb _ j q.toNat _ (by omega) (by omega),sb _ i j.toNat _ (by omega) (by omega)],by omega,by omega,by omega,by omega,fun h=>?_,fun h=>by cases h⟩
      have:=of_decide_eq_true h
      omega
     ·cases hb
    ·cases hb

theorem qnu (w:World) {t e:TypeId} {X:Value} {lo hi mx:Option Value} (ht:P.underlying t=some (.slice e)) (hz:q0n P e≠0) (h:VRels fid M H φ as (X::(lo.toList++hi.toList++mx.toList)))
  (hv:qaW (q0n P e) lo.isSome hi.isSome mx.isSome as=some v) : ∃ r,(Instr.sliceAt t X lo hi mx).run P w = .ok r w∧VRel fid M H φ v r:=by
 have hsz:(Go.sizeOf e).run P w = .ok (q0n P e) w:=by
  unfold q0n at hz ⊢
  cases hi:P.info? e with
  | none=>simp [hi] at hz
  | some i=>simp [Go.sizeOf,typeInfo,hi]
 unfold qaW at hv
 split at hv
 ·rename_i m xs bs
  split at hv
  ·rename_i hm
   subst hm
   have h1:=h.head
   cases h1 with
   | tsl _ _ a len cap b o vf hl hc ha hn hmm hvv=>
    cases hb:q3g xs.length lo.isSome hi.isSome mx.isSome bs with
    | none=>simp [hb,q9l] at hv
    | some q=>
     obtain ⟨l,u,z⟩:=q
     rw[hl] at hb
     obtain ⟨m,hrun,hlu,hul,hum,hmc,hz1,hz2⟩:=q9p (P:=P) w true hc h.tail hb
     have hres:(Instr.sliceAt t (.slice a len cap) lo hi mx).run P w = .ok (.slice (if m=l then a else a.map (·.add (l * q0n P e))) (u-l) (m-l)) w:=by
      simp [Instr.sliceAt,Instr.slice,run_underlying ht,hrun,hsz]
     refine ⟨_,hres,?_⟩
     rw[←hl] at hb
     simp only[hb,q9l] at hv
     split at hv
     ·rename_i hzt
      cases hv
      have:=hz1 hzt
      subst this
      have e1:u-m=0:=by omega
      have e2:m-m=0:=by omega
      rw[e1,e2]
      exact .snil _ _
     ·cases hv
      refine .tsl _ _ _ _ _ b (o+l * q0n P e) (fun i j=>vf (l+i) j) (by simp; omega) (by omega) (fun hpos=>?_) (fun i x hx=>?_) (fun i j hi hj=>?_) (fun i x j y hx hy=>?_)
      ·rw[if_neg (by omega),ha (by omega)]
       simp [q2v]
      ·rw[VB,VA] at hx
       split at hx
       ·exact hn _ _ hx
       ·cases hx
      ·have:=hmm (l+i) j (by omega) hj
       rwa [Vi,←KT] at this
      ·rw[VB,VA] at hx
       split at hx
       ·exact hvv _ _ _ _ hx hy
       ·cases hx
  ·cases hv
 ·rename_i m r i len bs
  split at hv
  ·rename_i hm
   subst hm
   have h1:=h.head
   cases h1 with
   | sref _ _ _ _ cap a hc ha hp hh=>
    cases hb:q3g len lo.isSome hi.isSome mx.isSome bs with
    | none=>simp [hb,q9a] at hv
    | some q=>
     obtain ⟨l,u,z⟩:=q
     obtain ⟨m,hrun,hlu,hul,hum,hmc,hz1,hz2⟩:=q9p (P:=P) w true hc h.tail hb
     have hres:(Instr.sliceAt t (.slice a len cap) lo hi mx).run P w = .ok (.slice (if m=l then a else a.map (·.add (l * q0n P e))) (u-l) (m-l)) w:=by
      simp [Instr.sliceAt,Instr.slice,run_underlying ht,hrun,hsz]
     refine ⟨_,hres,?_⟩
     simp only[hb,q9a] at hv
     split at hv
     ·rename_i hzt
      cases hv
      have:=hz1 hzt
      subst this
      have e1:u-m=0:=by omega
      have e2:m-m=0:=by omega
      rw[e1,e2]
      exact .snil _ _
     ·cases hv
      refine .sref _ _ _ _ _ _ (by omega) (fun hpos=>?_) hp fun els ro fl fam he=>?_
      ·rw[if_neg (by omega)]
       simp [ha (by omega)]
      ·obtain ⟨hle,hcap⟩:=hh els ro fl fam he
       refine ⟨by omega,fun hpos=>?_⟩
       obtain ⟨hae,hbd⟩:=hcap (by omega)
       rw[if_neg (by omega),hae]
       refine ⟨by simp [q2v,Vi,KT],?_⟩
       have:(i+l+(m-l)) * q0n P e≤(i+cap) * q0n P e:=Vh _ (by omega)
       omega
  ·cases hv
 ·rename_i m bs
  have h1:=h.head
  cases h1 with
  | snil _ a=>
   cases hb:q3g 0 lo.isSome hi.isSome mx.isSome bs with
   | none=>simp [hb,q95] at hv
   | some q=>
    obtain ⟨l,u,z⟩:=q
    obtain ⟨m',hrun,hlu,hul,hum,hmc,hz1,hz2⟩:=q9p (P:=P) w true (Kr 0) h.tail hb
    have hres:(Instr.sliceAt t (.slice a 0 0) lo hi mx).run P w = .ok (.slice (if m'=l then a else a.map (·.add (l * q0n P e))) (u-l) (m'-l)) w:=by
     simp [Instr.sliceAt,Instr.slice,run_underlying ht,hrun,hsz]
    refine ⟨_,hres,?_⟩
    simp only[hb,q95,Kq] at hv
    subst hv
    have e1:u-l=0:=by omega
    have e2:m'-l=0:=by omega
    rw[e1,e2]
    exact .snil _ _
 ·cases hv

theorem qmI (w:World) {t:TypeId} {X:Value} {lo hi:Option Value} (ht:P.underlying t=some .string) (h:VRels fid M H φ as (X::(lo.toList++hi.toList)))
  (hv:qaF lo.isSome hi.isSome as=some v) : ∃ r,(Instr.sliceAt t X lo hi none).run P w = .ok r w∧VRel fid M H φ v r:=by
 unfold qaF at hv
 split at hv
 ·rename_i s bs
  have h1:=h.head
  cases h1 with
  | str S _ hS=>
   subst hS
   cases hb:q3g S.data.toList.length lo.isSome hi.isSome false bs with
   | none=>rw[hb] at hv; cases hv
   | some q=>
    obtain ⟨l,u,z⟩:=q
    have hl:S.data.toList.length=S.size:=by simp
    rw[hl] at hb
    obtain ⟨m,hrun,hlu,hul,hum,hmc,hz1,hz2⟩:=q9p (P:=P) (lo:=lo) (hi:=hi) (mx:=none) w false (Kr S.size) (by simpa using h.tail) hb
    rw[←hl] at hb
    simp only[hb,qcD,Kq] at hv
    subst hv
    refine ⟨.string (S.extract l u),by simp [Instr.sliceAt,Instr.slice,run_underlying ht,hrun],.str _ _ ?_⟩
    rw[ByteArray.data_extract,Array.toList_extract,List.extract,←List.drop_take]
 ·cases hv

theorem quu (w:World) {t ty:TypeId} {X:Value} (ht:P.underlying t=some .string) (h:VRels fid M H φ as [X]) (hv:qmL as=some v) : ∃ r,(Builtin.len_ #[t] ty #[X]).run P w = .ok r w∧VRel fid M H φ v r:=by
 unfold qmL at hv
 split at hv
 ·have h1:=h.head
  cases h1 with
  | str S _ hS=>
   cases hv
   subst hS
   refine ⟨goInt S.size,by simp [Builtin.len_,run_underlying ht],?_⟩
   have hl:S.data.toList.length=S.size:=by simp
   rw[hl]
   exact .int _ _
 ·cases hv

theorem qtF (w:World) {t ty e:TypeId} {X:Value} (ht:P.underlying t=some (.slice e)) (h:VRels fid M H φ as [X]) (hv:qnj as=some v) : ∃ r,(Builtin.len_ #[t] ty #[X]).run P w = .ok r w∧VRel fid M H φ v r:=by
 unfold qnj at hv
 split at hv
 ·have h1:=h.head
  cases h1 with
  | tsl _ _ a len cap b o vf hl hc ha hn hm hvv=>
   cases hv
   rw[hl]
   exact ⟨goInt len,by simp [Builtin.len_,run_underlying ht],.int _ _⟩
 ·have h1:=h.head
  cases h1
  cases hv
  exact ⟨_,by simp [Builtin.len_,run_underlying ht]; rfl,.int _ _⟩
 ·have h1:=h.head
  cases h1
  cases hv
  exact ⟨_,by simp [Builtin.len_,run_underlying ht]; rfl,.int _ _⟩
 ·cases hv

theorem quf (w:World) {t ty e:TypeId} {n:Nat} {X:Value} (ht:P.underlying t=some (.array n e)):(Builtin.len_ #[t] ty #[X]).run P w = .ok (goInt n) w:=by
 simp [Builtin.len_,run_underlying ht]

theorem qu8 (w:World) {s d:TypeId} {k k':IntKind} {X:Value} (hs:P.underlying s=some (.int k')) (hd:P.underlying d=some (.int k)) (h:VRels fid M H φ as [X]) (hv:qob k as=some v) :
  ∃ r,(convert s d X).run P w = .ok r w∧VRel fid M H φ v r:=by
 unfold qob at hv
 split at hv
 ·have h1:=h.head
  cases h1
  cases hv
  exact ⟨.int k _,by simp [convert,run_underlying hs,run_underlying hd,Conv.intToInt],.int _ _⟩
 ·cases hv

theorem qjO (w:World) {s d:TypeId} {X:Value} (hs:P.underlying s=some .string) (hd:P.underlying d=some .string) (h:VRels fid M H φ as [X]) (hv:q9e as=some v) :
  ∃ r,(convert s d X).run P w = .ok r w∧VRel fid M H φ v r:=by
 unfold q9e at hv
 split at hv
 ·have h1:=h.head
  cases hv
  cases h1 with
  | str S _ hS=>exact ⟨.string S,by simp [convert,run_underlying hs,run_underlying hd],.str S _ hS⟩
 ·cases hv

theorem qs6 (w:World) {s d:TypeId} {k:IntKind} {X:Value} (hs:P.underlying s=some (.int k)) (hd:P.underlying d=some .string) (h:VRels fid M H φ as [X]) (hv:qqL as=some v) :
  ∃ r,(convert s d X).run P w = .ok r w∧VRel fid M H φ v r:=by
 unfold qqL at hv
 split at hv
 ·have h1:=h.head
  cases hv
  cases h1
  exact ⟨.string _,by simp [convert,run_underlying hs,run_underlying hd,Conv.intToString],.str _ _ rfl⟩
 ·cases hv

theorem qvP (w:World) {m:Bool} : ∀ {as:List AV} {x:AV} {X:Value} {Xs:List Value},VRel fid M H φ x X→VRels fid M H φ as Xs→qrz m x as=some v →
  ∃ r,(Xs.foldlM (if m then Builtin.max2 else Builtin.min2) X).run P w = .ok r w∧VRel fid M H φ v r
 | [],x,X,Xs,hx,hs,hv=>by
  cases Xs with
  | nil=>unfold qrz at hv; cases hv; exact ⟨X,by simp,hx⟩
  | cons _ _=>have:=hs.1; simp at this
 | a::as,x,X,Xs,hx,hs,hv=>by
  cases Xs with
  | nil=>have:=hs.1; simp at this
  | cons Y Ys=>
   unfold qrz at hv
   split at hv
   ·rename_i heq; cases heq
   ·rename_i k n k' n' rest heq
    cases heq
    split at hv
    ·rename_i hk
     subst hk
     have h1:=hs.head
     cases hx; cases h1
     obtain ⟨r,hr,hrel⟩:=qvP w (.int k _) hs.tail hv
     refine ⟨r,?_,hrel⟩
     cases m<;>simp_all [Builtin.max2,Builtin.min2]
    ·cases hv
   ·cases hv
end
end Ago
namespace Ago
open Go

def q3E:CK→Value→Value→Option Bool
 | .int,.int k a,.int k' b=>if k=k' then some (a == b) else none
 | .bool,.bool a,.bool b=>some (a == b)
 | .str,.string a,.string b=>some (a.toList == b.toList)
 | _,_,_=>none

def q0E:List CK→List Value→List Value→Option Bool
 | [],[],[]=>some true
 | c::cs,x::xs,y::ys=>
  match q3E c x y with
  | none=>none
  | some a=>
   match q0E cs xs ys with
   | none=>none
   | some b=>some (a && b)
 | _,_,_=>none

section
variable {P:Program} {fid:FuncId→Option Nat} {pf:Nat→Bool} {M:Mem} {H:Heap} {φ:Nat→Loc} {as:List AV} {v:AV}

theorem q6h {c:CK} {x y:AV} {X Y:Value} {r:Bool} (hx:VRel fid M H φ x X) (hy:VRel fid M H φ y Y) (h:q31 c x y=some r):q3E c X Y=some r:=by
 unfold q31 at h
 split at h
 ·cases hx; cases hy; exact h
 ·cases hx; cases hy; exact h
 ·cases hx with
  | str S _ hS=>
  cases hy with
  | str T _ hT=>
   subst hS; subst hT
   simpa [q3E,ByteArray.toList_eq] using h
 ·cases h

theorem q3D : ∀ {cs:List CK} {xs ys:List AV} {X Y:List Value} {r:Bool},VRels fid M H φ xs X→VRels fid M H φ ys Y→q3p cs xs ys=some r→q0E cs X Y=some r
 | [],[],[],X,Y,r,hx,hy,h=>by
  have h1:=hx.1
  have h2:=hy.1
  cases X with
  | cons _ _=>simp at h1
  | nil=>
   cases Y with
   | cons _ _=>simp at h2
   | nil=>exact h
 | c::cs,x::xs,y::ys,X,Y,r,hx,hy,h=>by
  cases X with
  | nil=>have:=hx.1; simp at this
  | cons X0 X=>
   cases Y with
   | nil=>have:=hy.1; simp at this
   | cons Y0 Y=>
    unfold q3p at h
    cases h1:q31 c x y with
    | none=>simp [h1] at h
    | some a=>
     cases h2:q3p cs xs ys with
     | none=>simp [h1,h2] at h
     | some b=>
      simp only[h1,h2] at h
      simp only[q0E,q6h hx.head hy.head h1,q3D hx.tail hy.tail h2,h]
 | [],x::xs,_,_,_,_,_,_,h=>by simp [q3p] at h
 | [],[],y::ys,_,_,_,_,_,h=>by simp [q3p] at h
 | c::cs,[],_,_,_,_,_,_,h=>by simp [q3p] at h
 | c::cs,x::xs,[],_,_,_,_,_,h=>by simp [q3p] at h

theorem q1T : ∀ {cs:List CK} {X Y:List Value} {r:Bool},q0E cs X Y=some r→X.length=cs.length∧Y.length=cs.length
 | [],[],[],_,_=>⟨rfl,rfl⟩
 | c::cs,x::X,y::Y,r,h=>by
  unfold q0E at h
  cases h1:q3E c x y with
  | none=>simp [h1] at h
  | some a=>
   cases h2:q0E cs X Y with
   | none=>simp [h1,h2] at h
   | some b=>have:=q1T h2; simp [this.1,this.2]
 | [],x::xs,_,_,h=>by simp [q0E] at h
 | [],[],y::ys,_,h=>by simp [q0E] at h
 | c::cs,[],_,_,h=>by simp [q0E] at h
 | c::cs,x::xs,[],_,h=>by simp [q0E] at h

theorem q5N : ∀ {cs ds:List CK} {X Y:List Value} {r:Bool},q0E (cs++ds) X Y=some r →
  ∃ a b,q0E cs (X.take cs.length) (Y.take cs.length)=some a∧q0E ds (X.drop cs.length) (Y.drop cs.length)=some b∧r=(a && b)
 | [],ds,X,Y,r,h=>⟨true,r,rfl,h,by simp⟩
 | c::cs,ds,X,Y,r,h=>by
  cases X with
  | nil=>simp [q0E] at h
  | cons x X=>
   cases Y with
   | nil=>simp [q0E] at h
   | cons y Y=>
    simp only[Kf,q0E] at h
    cases h1:q3E c x y with
    | none=>simp [h1] at h
    | some a=>
     cases h2:q0E (cs++ds) X Y with
     | none=>simp [h1,h2] at h
     | some b=>
      simp only[h1,h2,Kq] at h
      obtain ⟨p,q,hp,hq,rfl⟩:=q5N h2
      refine ⟨a && p,q,by simp [q0E,h1,hp],by simpa using hq,?_⟩
      rw[←h,Bool.and_assoc]

def qhy (P:Program) (t:TypeId) (X:Value) (xs:List Value):Prop:=(q0v P t=true→X = .agg xs.toArray)∧(q0v P t=false→xs=[X])

theorem q4r {t:TypeId} (hu:(P.underlying t).isSome=true) (w:World) (A:Array Value) (off:Nat) (hsz:q0v P t=false→q0n P t=1) (hle:off+q0n P t≤A.size) :
  ∃ X,(Go.part t A off).run P w = .ok X w∧qhy P t X ((A.toList.drop off).take (q0n P t)):=by
 simp only[Go.part,Sem.run_bind,q5Q hu,Result.andThen_ok]
 cases hg:q0v P t with
 | true=>
  refine ⟨.agg (A.extract off (off+q0n P t)),by simp [q5k hu],fun _=>?_,fun h=>by rw[hg] at h; cases h⟩
  congr 1
  apply Array.ext'
  simp [List.extract]
 | false=>
  have h1:=hsz hg
  have hlt:off<A.size:=by omega
  refine ⟨A[off],by simp [KU hlt],fun h=>by (rw[hg] at h; cases h),fun _=>?_⟩
  rw[h1,VR (by simpa using hlt)]
  simp

theorem qbr {k:Nat} {t:TypeId} {sh:List CK} (h:q1Y P k t=some sh):(P.underlying t).isSome=true∧(q0v P t=false→sh.length=1):=by
 cases k with
 | zero=>cases h
 | succ k=>
  unfold q1Y at h
  cases hu:P.underlying t with
  | none=>simp [hu] at h
  | some d=>
   refine ⟨rfl,fun hg=>?_⟩
   cases d<;>simp only[hu] at h<;>first | (cases h; done) | (cases h; rfl) | (simp [q0v,hu] at hg)

def qjx (P:Program) (d k:Nat):Prop:=∀ (t:TypeId) (sh:List CK) (w:World) (X Y:Value) (xs ys:List Value) (r:Bool),q1Y P k t=some sh→qhy P t X xs→qhy P t Y ys→q0E sh xs ys=some r →
  (Op.equalIn (d+k) t X Y).run P w = .ok r w

theorem qbW {d k:Nat} (ih:qjx P d k) {e:TypeId} {s rest:List CK} (hs:q1Y P k e=some s) (hlen:s.length=q0n P e) (w:World) {xs ys:List Value} {o:Nat} {r:Bool}
  (hr:q0E (s++rest) (xs.drop o) (ys.drop o)=some r) :
  ∃ X Y a b,(Go.part e xs.toArray o).run P w = .ok X w∧(Go.part e ys.toArray o).run P w = .ok Y w∧(Op.equalIn (d+k) e X Y).run P w = .ok a w ∧
   q0E rest (xs.drop (o+s.length)) (ys.drop (o+s.length))=some b∧r=(a && b):=by
 obtain ⟨a,b,h1,h2,h3⟩:=q5N hr
 obtain ⟨hu,h0⟩:=qbr hs
 obtain ⟨l1,l2⟩:=q1T h1
 simp only[KI,VZ] at l1 l2
 have hz:q0v P e=false→q0n P e=1:=fun hg=>hlen▸h0 hg
 have hn:s=[]∨0<s.length:=by cases s<;>simp
 by_cases hpos:0<s.length
 ·obtain ⟨X,pX,fX⟩:=q4r hu w xs.toArray o hz (by simp; omega)
  obtain ⟨Y,pY,fY⟩:=q4r hu w ys.toArray o hz (by simp; omega)
  refine ⟨X,Y,a,b,pX,pY,ih e s w X Y _ _ a hs fX fY (by simpa [hlen] using h1),by simpa [List.drop_drop] using h2,h3⟩
 ·have hg:q0v P e=true:=by
   cases hg:q0v P e with
   | true=>rfl
   | false=>have:=h0 hg; omega
  have hz0:q0n P e=0:=by omega
  have pp : ∀ zs:List Value,(Go.part e zs.toArray o).run P w = .ok (.agg (zs.toArray.extract o (o+0))) w:=fun zs=>by
   simp only[Go.part,Sem.run_bind,q5Q hu,Result.andThen_ok,hg,if_true,q5k hu,hz0,Sem.run_pure]
  have ff : ∀ zs:List Value,qhy P e (.agg (zs.toArray.extract o (o+0))) []:=fun zs=>⟨fun _=>by simp,fun h=>by (rw[hg] at h; cases h)⟩
  have hs0:s=[]:=KE (by omega)
  subst hs0
  refine ⟨_,_,a,b,pp xs,pp ys,ih e [] w _ _ [] [] a hs (ff xs) (ff ys) (by simpa using h1),by simpa [List.drop_drop] using h2,h3⟩

theorem qds (d:Nat) : ∀ (k:Nat),qjx P d k:=by
 intro k
 induction k with
 | zero=>intro t sh w X Y xs ys r h; cases h
 | succ k ih=>
  intro t sh w X Y xs ys r h fx fy hr
  unfold q1Y at h
  cases hu:P.underlying t with
  | none=>simp [hu] at h
  | some desc=>
   cases desc<;>simp only[hu] at h<;>try (cases h; done)
   case bool=>
    cases h
    have hg:q0v P t=false:=by simp [q0v,hu]
    have ex:=fx.2 hg
    have ey:=fy.2 hg
    subst ex; subst ey
    simp only[q0E] at hr
    cases X<;>cases Y<;>simp [q3E] at hr
    rw[←hr]
    exact run_equalIn_bool' w _ t _ _ hu
   case int q=>
    cases h
    have hg:q0v P t=false:=by simp [q0v,hu]
    have ex:=fx.2 hg
    have ey:=fy.2 hg
    subst ex; subst ey
    simp only[q0E] at hr
    cases X<;>cases Y<;>simp [q3E] at hr
    rename_i k1 a k2 b
    by_cases hk:k1=k2
    ·subst hk
     simp at hr
     rw[←hr]
     exact run_equalIn_int w _ t _ _ a b hu
    ·simp [hk] at hr
   case string=>
    cases h
    have hg:q0v P t=false:=by simp [q0v,hu]
    have ex:=fx.2 hg
    have ey:=fy.2 hg
    subst ex; subst ey
    simp only[q0E] at hr
    cases X<;>cases Y<;>simp [q3E] at hr
    rw[←hr]
    exact run_equalIn_string w _ t _ _ hu
   case array n e=>
    have hg:q0v P t=true:=by simp [q0v,hu]
    have ex:=fx.1 hg
    have ey:=fy.1 hg
    subst ex; subst ey
    cases hs:q1Y P k e with
    | none=>simp [hs] at h
    | some s=>
     simp only[hs] at h
     split at h
     ·rename_i hlen
      cases h
      obtain ⟨hue,h1⟩:=qbr hs
      obtain ⟨de,hde⟩:=q3J hue
      obtain ⟨i,hi⟩:=info_of_underlying hde
      have hc:P.cellsOf e=s.length:=by simp [Program.cellsOf,hlen,q0n,hi]
      rw[show d+(k+1)=(d+k)+1 from rfl,run_equalIn_array w (d+k) xs.toArray ys.toArray hu hi,hc]
      have key : ∀ (m j:Nat) (r:Bool),q0E (List.replicate m s).flatten (xs.drop (j * s.length)) (ys.drop (j * s.length))=some r →
        (Op.eqItems (d+k) e s.length xs.toArray ys.toArray (List.range' j m)).run P w = .ok r w:=by
       intro m
       induction m with
       | zero=>
        intro j r hr
        simp only[List.replicate_zero,List.flatten_nil] at hr
        have:=q1T hr
        have e1:=KE this.1
        have e2:=KE this.2
        rw[e1,e2] at hr
        cases hr
        rfl
       | succ m ihm=>
        intro j r hr
        rw[VE,List.flatten_cons] at hr
        obtain ⟨X,Y,a,b,pX,pY,he,hb,hrr⟩:=qbW ih hs hlen w hr
        rw[List.range'_succ]
        simp only[Op.eqItems,Sem.run_bind,pX,pY,he,Result.andThen_ok]
        cases a
        ·simp [hrr]
        ·simp only[Bool.not_true,Km,if_false]
         rw[hrr,Vt]
         exact ihm (j+1) b (by rw[Vi,Nat.one_mul]; exact hb)
      rw[List.range_eq_range']
      exact key n 0 r (by simpa using hr)
     ·cases h
   case struct fs=>
    have hg:q0v P t=true:=by simp [q0v,hu]
    have ex:=fx.1 hg
    have ey:=fy.1 hg
    subst ex; subst ey
    split at h
    ·cases h
    ·rename_i hst
     have hst':P.stoodInHeld t=false:=by simpa using hst
     have hfs:P.fieldsOf t=fs:=by simp [Program.fieldsOf,hu]
     rw[show d+(k+1)=(d+k)+1 from rfl,run_equalIn_struct w (d+k) t xs.toArray ys.toArray (by rw[hfs]; exact hu) hst',hfs]
     have key : ∀ (fl:List Field) (o:Nat) (sh:List CK) (r:Bool),q4t P (q1Y P k) fl o=some sh→q0E sh (xs.drop o) (ys.drop o)=some r →
       (Op.eqFields (d+k) xs.toArray ys.toArray fl).run P w = .ok r w:=by
      intro fl
      induction fl with
      | nil=>
       intro o sh r h hr
       cases h
       have:=q1T hr
       have e1:=KE this.1
       have e2:=KE this.2
       rw[e1,e2] at hr
       cases hr
       rfl
      | cons f fl ihf=>
       intro o sh r h hr
       unfold q4t at h
       split at h
       ·cases h
       ·rename_i hno
        have hname : f.name ≠ "_" := fun e => hno (.inl e)
        have hoff:f.offset=o:=Classical.not_not.1 fun e=>hno (.inr e)
        cases hs:q1Y P k f.type with
        | none=>simp [hs] at h
        | some s=>
         cases hrest:q4t P (q1Y P k) fl (o+s.length) with
         | none=>simp [hs,hrest] at h
         | some rest=>
          simp only[hs,hrest] at h
          split at h
          ·rename_i hlen
           cases h
           obtain ⟨X,Y,a,b,pX,pY,he,hb,hrr⟩:=qbW ih hs hlen w hr
           simp only[Op.eqFields,hname,ne_eq,not_false_eq_true,if_true,Sem.run_bind,hoff,pX,pY,he,Result.andThen_ok]
           cases a
           ·simp [hrr]
           ·simp only[Bool.not_true,Km,if_false]
            rw[hrr,Vt]
            exact ihf (o+s.length) rest b hrest hb
          ·cases h
     exact key fs.toList 0 sh r h (by simpa using hr)

theorem qtK (w:World) {T:TypeId} {x y:Operand} {X Y:Value} {sh:List CK} {neg:Bool} (hsh:q1Y P 6 T=some sh) (hag:q0v P T=true) (hg:P.eqGuardType P.depth T=false) (h:VRels fid M H φ as [X,Y]) (hv:qvq sh neg as=some v) :
  ∃ r,(do eqGuard (if neg then .neq else .eql) T x y X Y; binOp (if neg then .neq else .eql) T X Y:Sem Value).run P w = .ok r w∧VRel fid M H φ v r:=by
 unfold qvq at hv
 split at hv
 ·rename_i cs ds
  obtain ⟨vs,rfl,hvs⟩:=h.head.aggs
  obtain ⟨us,rfl,hus⟩:=h.tail.head.aggs
  cases hc:q3p sh cs ds with
  | none=>simp [hc,qb0] at hv
  | some b=>
   simp only[hc,qb0,Kq] at hv
   subst hv
   have he:=q3D hvs hus hc
   have hrun:=qds (P:=P) 9994 6 T sh w (.agg vs) (.agg us) vs.toList us.toList b hsh ⟨fun _=>by simp,fun h=>by (rw[hag] at h; cases h)⟩ ⟨fun _=>by simp,fun h=>by (rw[hag] at h; cases h)⟩ he
   refine ⟨.bool (if neg then !b else b),?_,.bool _⟩
   simp only[Sem.run_bind,run_eqGuard_agg w _ T x y vs us hg,Result.andThen_ok]
   cases neg
   ·simp only[Km,if_false,run_eql_struct]
    rw[show (10000:Nat)=9994+6 from rfl,hrun]
    rfl
   ·simp only[if_true,run_neq_struct]
    rw[show (10000:Nat)=9994+6 from rfl,hrun]
    rfl
 ·cases hv

theorem qvD (w:World) {T:TypeId} {x y:Operand} {X Y:Value} {neg:Bool} (hT:P.underlying T=some .bool) (h:VRels fid M H φ as [X,Y]) (hv:qve neg as=some v) :
  ∃ r,(do eqGuard (if neg then .neq else .eql) T x y X Y; binOp (if neg then .neq else .eql) T X Y:Sem Value).run P w = .ok r w∧VRel fid M H φ v r:=by
 unfold qve at hv
 split at hv
 ·rename_i a b
  cases hc:q31 .bool a b with
  | none=>simp [hc,qb0] at hv
  | some r=>
   simp only[hc,qb0,Kq] at hv
   subst hv
   unfold q31 at hc
   split at hc
   ·contradiction
   ·have h1:=h.head
    have h2:=h.tail.head
    cases h1; cases h2
    cases hc
    refine ⟨_,?_,.bool _⟩
    cases neg<;>simp [eqGuard,binOp,run_equal_bool w T _ _ hT]
   ·contradiction
   ·cases hc
 ·cases hv

theorem qnw (w:World) {T:TypeId} {x y:Operand} {X Y:Value} {neg:Bool} {kind:Nat}
  (hT:(kind=0∧∃ e,P.underlying T=some (.pointer e))∨(kind=1∧∃ k e,P.underlying T=some (.map k e))∨(kind=2∧∃ p r b,P.underlying T=some (.func p r b))∨(kind=3∧∃ ms,P.underlying T=some (.interface ms)))
  (h:VRels fid M H φ as [X,Y]) (hv:qvk kind neg as=some v) :
  ∃ r,(do eqGuard (if neg then .neq else .eql) T x y X Y; binOp (if neg then .neq else .eql) T X Y:Sem Value).run P w = .ok r w∧VRel fid M H φ v r:=by
 have fin : ∀ b:Bool,qb0 neg (some b)=some v→v = .bool (if neg then !b else b):=fun b hb=>by
  simp only[qb0,Kq] at hb
  exact hb.symm
 unfold qvk at hv
 split at hv
 ·rename_i a b
  have h1:=h.head
  have h2:=h.tail.head
  unfold qqr at hv
  split at hv
  ·rcases hT with ⟨_,e,hT⟩ | ⟨hk,_⟩ | ⟨hk,_⟩ | ⟨hk,_⟩<;>first | (exact absurd hk (by decide)) | skip
   have he0 : ∀ d:Nat,(Op.equalIn (d+1) T X Y).run P w = .ok true w:=fun d=>by
    cases h1; cases h2
    simp only[Op.equalIn,Sem.run_bind,run_underlying hT,Result.andThen_ok]
    rfl
   have he:(Op.equal T X Y).run P w = .ok true w:=he0 9999
   rw[fin _ hv]
   cases h1; cases h2
   exact ⟨.bool (if neg then !true else true),by cases neg<;>simp [eqGuard,binOp,he],.bool _⟩
  ·rcases hT with ⟨_,e,hT⟩ | ⟨hk,_⟩ | ⟨hk,_⟩ | ⟨hk,_⟩<;>first | (exact absurd hk (by decide)) | skip
   have he0 : ∀ d:Nat,(Op.equalIn (d+1) T X Y).run P w = .ok false w:=fun d=>by
    cases h1; cases h2
    simp only[Op.equalIn,Sem.run_bind,run_underlying hT,Result.andThen_ok]
    rfl
   have he:(Op.equal T X Y).run P w = .ok false w:=he0 9999
   rw[fin _ hv]
   cases h1; cases h2
   exact ⟨.bool (if neg then !false else false),by cases neg<;>simp [eqGuard,binOp,he],.bool _⟩
  ·rcases hT with ⟨_,e,hT⟩ | ⟨hk,_⟩ | ⟨hk,_⟩ | ⟨hk,_⟩<;>first | (exact absurd hk (by decide)) | skip
   have he0 : ∀ d:Nat,(Op.equalIn (d+1) T X Y).run P w = .ok false w:=fun d=>by
    cases h1; cases h2
    simp only[Op.equalIn,Sem.run_bind,run_underlying hT,Result.andThen_ok]
    rfl
   have he:(Op.equal T X Y).run P w = .ok false w:=he0 9999
   rw[fin _ hv]
   cases h1; cases h2
   exact ⟨.bool (if neg then !false else false),by cases neg<;>simp [eqGuard,binOp,he],.bool _⟩
  ·rcases hT with ⟨_,e,hT⟩ | ⟨hk,_⟩ | ⟨hk,_⟩ | ⟨hk,_⟩<;>first | (exact absurd hk (by decide)) | skip
   have he0 : ∀ d:Nat,(Op.equalIn (d+1) T X Y).run P w = .ok false w:=fun d=>by
    cases h1; cases h2
    simp only[Op.equalIn,Sem.run_bind,run_underlying hT,Result.andThen_ok]
    rfl
   have he:(Op.equal T X Y).run P w = .ok false w:=he0 9999
   rw[fin _ hv]
   cases h1; cases h2
   exact ⟨.bool (if neg then !false else false),by cases neg<;>simp [eqGuard,binOp,he],.bool _⟩
  ·rcases hT with ⟨_,e,hT⟩ | ⟨hk,_⟩ | ⟨hk,_⟩ | ⟨hk,_⟩<;>first | (exact absurd hk (by decide)) | skip
   have he0 : ∀ d:Nat,(Op.equalIn (d+1) T X Y).run P w = .ok false w:=fun d=>by
    cases h1; cases h2
    simp only[Op.equalIn,Sem.run_bind,run_underlying hT,Result.andThen_ok]
    rfl
   have he:(Op.equal T X Y).run P w = .ok false w:=he0 9999
   rw[fin _ hv]
   cases h1; cases h2
   exact ⟨.bool (if neg then !false else false),by cases neg<;>simp [eqGuard,binOp,he],.bool _⟩
  ·rcases hT with ⟨hk,_⟩ | ⟨_,k,e,hT⟩ | ⟨hk,_⟩ | ⟨hk,_⟩<;>first | (exact absurd hk (by decide)) | skip
   have he0 : ∀ d:Nat,(Op.equalIn (d+1) T X Y).run P w = .ok true w:=fun d=>by
    cases h1; cases h2
    simp only[Op.equalIn,Sem.run_bind,run_underlying hT,Result.andThen_ok]
    rfl
   have he:(Op.equal T X Y).run P w = .ok true w:=he0 9999
   rw[fin _ hv]
   cases h1; cases h2
   exact ⟨.bool (if neg then !true else true),by cases neg<;>simp [eqGuard,binOp,he],.bool _⟩
  ·rcases hT with ⟨hk,_⟩ | ⟨_,k,e,hT⟩ | ⟨hk,_⟩ | ⟨hk,_⟩<;>first | (exact absurd hk (by decide)) | skip
   have he0 : ∀ d:Nat,(Op.equalIn (d+1) T X Y).run P w = .ok false w:=fun d=>by
    cases h1; cases h2
    simp only[Op.equalIn,Sem.run_bind,run_underlying hT,Result.andThen_ok]
    rfl
   have he:(Op.equal T X Y).run P w = .ok false w:=he0 9999
   rw[fin _ hv]
   cases h1; cases h2
   exact ⟨.bool (if neg then !false else false),by cases neg<;>simp [eqGuard,binOp,he],.bool _⟩
  ·rcases hT with ⟨hk,_⟩ | ⟨_,k,e,hT⟩ | ⟨hk,_⟩ | ⟨hk,_⟩<;>first | (exact absurd hk (by decide)) | skip
   have he0 : ∀ d:Nat,(Op.equalIn (d+1) T X Y).run P w = .ok false w:=fun d=>by
    cases h1; cases h2
    simp only[Op.equalIn,Sem.run_bind,run_underlying hT,Result.andThen_ok]
    rfl
   have he:(Op.equal T X Y).run P w = .ok false w:=he0 9999
   rw[fin _ hv]
   cases h1; cases h2
   exact ⟨.bool (if neg then !false else false),by cases neg<;>simp [eqGuard,binOp,he],.bool _⟩
  ·rcases hT with ⟨hk,_⟩ | ⟨hk,_⟩ | ⟨_,p,r,b,hT⟩ | ⟨hk,_⟩<;>first | (exact absurd hk (by decide)) | skip
   have he0 : ∀ d:Nat,(Op.equalIn (d+1) T X Y).run P w = .ok true w:=fun d=>by
    cases h1; cases h2
    simp only[Op.equalIn,Sem.run_bind,run_underlying hT,Result.andThen_ok]
    rfl
   have he:(Op.equal T X Y).run P w = .ok true w:=he0 9999
   rw[fin _ hv]
   cases h1; cases h2
   exact ⟨.bool (if neg then !true else true),by cases neg<;>simp [eqGuard,binOp,he],.bool _⟩
  ·rcases hT with ⟨hk,_⟩ | ⟨hk,_⟩ | ⟨_,p,r,b,hT⟩ | ⟨hk,_⟩<;>first | (exact absurd hk (by decide)) | skip
   have he0 : ∀ d:Nat,(Op.equalIn (d+1) T X Y).run P w = .ok false w:=fun d=>by
    cases h1; cases h2
    simp only[Op.equalIn,Sem.run_bind,run_underlying hT,Result.andThen_ok]
    rfl
   have he:(Op.equal T X Y).run P w = .ok false w:=he0 9999
   rw[fin _ hv]
   cases h1; cases h2
   exact ⟨.bool (if neg then !false else false),by cases neg<;>simp [eqGuard,binOp,he],.bool _⟩
  ·rcases hT with ⟨hk,_⟩ | ⟨hk,_⟩ | ⟨_,p,r,b,hT⟩ | ⟨hk,_⟩<;>first | (exact absurd hk (by decide)) | skip
   have he0 : ∀ d:Nat,(Op.equalIn (d+1) T X Y).run P w = .ok false w:=fun d=>by
    cases h1; cases h2
    simp only[Op.equalIn,Sem.run_bind,run_underlying hT,Result.andThen_ok]
    rfl
   have he:(Op.equal T X Y).run P w = .ok false w:=he0 9999
   rw[fin _ hv]
   cases h1; cases h2
   exact ⟨.bool (if neg then !false else false),by cases neg<;>simp [eqGuard,binOp,he],.bool _⟩
  ·rcases hT with ⟨hk,_⟩ | ⟨hk,_⟩ | ⟨hk,_⟩ | ⟨_,ms,hT⟩<;>first | (exact absurd hk (by decide)) | skip
   have he0 : ∀ d:Nat,(Op.equalIn (d+1) T X Y).run P w = .ok false w:=fun d=>by
    cases h1; cases h2
    simp only[Op.equalIn,Sem.run_bind,run_underlying hT,Result.andThen_ok]
    rfl
   have he:(Op.equal T X Y).run P w = .ok false w:=he0 9999
   rw[fin _ hv]
   cases h1; cases h2
   exact ⟨.bool (if neg then !false else false),by cases neg<;>simp [eqGuard,binOp,he],.bool _⟩
  ·rcases hT with ⟨hk,_⟩ | ⟨hk,_⟩ | ⟨hk,_⟩ | ⟨_,ms,hT⟩<;>first | (exact absurd hk (by decide)) | skip
   have he0 : ∀ d:Nat,(Op.equalIn (d+1) T X Y).run P w = .ok false w:=fun d=>by
    cases h1; cases h2
    simp only[Op.equalIn,Sem.run_bind,run_underlying hT,Result.andThen_ok]
    rfl
   have he:(Op.equal T X Y).run P w = .ok false w:=he0 9999
   rw[fin _ hv]
   cases h1; cases h2
   exact ⟨.bool (if neg then !false else false),by cases neg<;>simp [eqGuard,binOp,he],.bool _⟩
  ·cases hv
 ·cases hv


theorem qhJ (vs:List Value) : ∀ (k:Nat) (cells:Array Value),k+vs.length≤cells.size→((vs.zipIdx k).foldl (fun cs (p:Value × Nat)=>cs.setIfInBounds p.2 p.1) cells).toList=cells.toList.take k++vs++cells.toList.drop (k+vs.length):=by
 induction vs with
 | nil=>intro k cells _; simp
 | cons x vs ih=>
  intro k cells h
  simp only[List.zipIdx_cons,Vz,List.length_cons] at h ⊢
  rw[ih (k+1) (cells.setIfInBounds k x) (by simp; omega)]
  simp only[Array.toList_setIfInBounds]
  have hk:k<cells.toList.length:=by simp; omega
  rw[List.take_set,List.drop_set_of_lt (by omega),List.take_succ_eq_append_getElem hk,List.set_append_right _ _ (by simp; omega)]
  have hm:min k cells.toList.length=k:=VT (Nat.le_of_lt hk)
  simp only[KI,hm,Nat.sub_self,List.set_cons_zero,Ke,List.singleton_append,Kf,Kh,KT,Nat.add_comm 1]

theorem VRel.cells' {x:AV} {u:Value} (h:VRel fid M H φ x u) (h1:x.solid=true):VRels fid M H φ x.cells u.cells.toList:=by
 cases x with
 | agg cs=>
  obtain ⟨vs,rfl,hs⟩:=h.aggs
  exact hs
 | dead=>cases h1
 | tup cs=>cases h1
 | _=>exact h.cells (by simp [AV.cells,AV.one])

theorem q9o (place:Nat→Option (Nat × Nat)) : ∀ (parts:List (Nat × Value)) (pl:List (Nat × Nat)) (args:List AV) (z:List AV) (cells:Array Value) (cs:List AV),VRels fid M H φ z cells.toList→VRels fid M H φ args (parts.map (·.2)) →
  args.all AV.solid=true→pl.length=args.length→(∀ (i:Nat) (p:Nat × Value) (q:Nat × Nat),parts[i]?=some p→pl[i]?=some q→place p.1=some q)→q3T z (pl.zip args)=some cs →
  ∃ out,Instr.fill place cells parts=some out∧VRels fid M H φ cs out.toList
 | [],pl,args,z,cells,cs,hz,ha,hs,hl,hp,ho=>by
  have:=ha.1
  have h0:args=[]:=KE (by simpa using this)
  subst h0
  have h1:pl=[]:=KE (by simpa using hl)
  subst h1
  cases ho
  exact ⟨cells,rfl,hz⟩
 | (i,u)::parts,pl,args,z,cells,cs,hz,ha,hs,hl,hp,ho=>by
  cases args with
  | nil=>have:=ha.1; simp at this
  | cons x args=>
   cases pl with
   | nil=>simp at hl
   | cons q pl=>
    obtain ⟨off,n⟩:=q
    simp only[List.zip_cons_cons,q3T] at ho
    split at ho
    ·rename_i hc
     obtain ⟨hcl,hle⟩:=hc
     simp only[Vy,Kk] at hs
     have hcells:=ha.head.cells' hs.1
     have hpl:=hp 0 _ _ rfl rfl
     have hsz:u.cells.size=n:=by have:=hcells.1; simp at this; omega
     have hcs:cells.size=z.length:=by have:=hz.1; simp at this; omega
     have hset:(u.cells.zipIdx.foldl (fun cs (x:Value × Nat)=>cs.setIfInBounds (off+x.2) x.1) cells).toList=cells.toList.take off++u.cells.toList++cells.toList.drop (off+n):=by
      have h0:=qhJ u.cells.toList off cells (by simp; omega)
      have e:(u.cells.zipIdx.foldl (fun cs (x:Value × Nat)=>cs.setIfInBounds (off+x.2) x.1) cells)=((u.cells.toList.zipIdx off).foldl (fun cs (p:Value × Nat)=>cs.setIfInBounds p.2 p.1) cells):=by
       rw[←Array.foldl_toList,Array.toList_zipIdx,List.zipIdx_eq_map_add (i:=off),List.foldl_map]
       first | done | simp [Nat.add_comm]
      rw[e,h0]
      simp [hsz]
     obtain ⟨out,hout,hrel⟩:=q9o place parts pl args _ (u.cells.zipIdx.foldl (fun cs (x:Value × Nat)=>cs.setIfInBounds (off+x.2) x.1) cells) cs (by
      rw[hset]
      exact ((hz.take off).append hcells).append (hz.drop (off+n))) ha.tail hs.2 (by simpa using hl) (fun i p q h1 h2=>hp (i+1) p q (by simpa using h1) (by simpa using h2)) ho
     refine ⟨out,?_,hrel⟩
     simp only[Instr.fill,hpl]
     rw[if_neg (by simp [hsz]; omega)]
     exact hout
    ·cases ho
end
end Ago
namespace Ago
open Go

structure RowAt (fid:FuncId→Option Nat) (M:Mem) (H:Heap) (φ:Nat→Loc) (B:Nat) (w:World) (L:Loc) (r n:Nat) (els:List AV) (fl:Bool) (fam:Nat):Prop where
 base:B≤L.blk
 pos:0<n
 fits:L.off+els.length * n≤L.size
 cells : ∃ c t fr,w.heap[L.blk]?=some (.cells c t fr)∧c.size=L.size∧(∀ o,o<L.size→¬ (fr.1≤o∧o<fr.2)) ∧
  ∀ (i:Nat) (x:AV) (j:Nat) (y:AV),els[i]?=some x→x.cells[j]?=some y→∃ v,c[L.off+i * n+j]?=some v∧VRel fid M H φ y v
 wide : ∀ x,x∈els→x.cells.length=n∧x.cells.all AV.one=true
 flat:fl=true→∀ x,x∈els→x.isPure=true

structure MapAt (fid:FuncId→Option Nat) (M:Mem) (H:Heap) (φ:Nat→Loc) (B:Nat) (w:World) (L:Loc) (es:List (AV × AV)):Prop where
 base:B≤L.blk
 ents : ∃ ces clock,w.heap[L.blk]?=some (.map ces clock)∧ces.size=es.length∧∀ (i:Nat) (k u:AV),es[i]?=some (k,u)→∃ e,ces[i]?=some e∧VRel fid M H φ k e.key∧VRel fid M H φ u e.val

def q8o (w:World) (b k:Nat):Prop:=k=b∨∃ v,w.cell? ⟨b,1,none⟩=some v∧v.ownBlock=some k

def BldAt (T e B b:Nat) (s:List UInt8) (w:World):Prop:=
 B≤b∧∃ q v,(q = .pointer none∨q = .pointer (some ⟨b,0,none⟩))∧w.heap[b]?=some (.cells #[q,v] T (0,0))∧w.ownsRow B e 1 v s.length (s.map fun c=>.int .u8 c.toNat)∧v.ownBlock≠some b

structure Bld (M:Mem) (H:Heap) (φ:Nat→Loc) (B:Nat) (w:World):Prop where
 at_ : ∀ r s p,H[r]?=some (.iter s p)→BldAt (p / 100000) (p % 100000) B (φ r).blk s w
 rows : ∀ r s p r' n els ro fl fam,H[r]?=some (.iter s p)→H[r']?=some (.row n els ro fl fam)→¬ q8o w (φ r).blk (φ r').blk
 own : ∀ r s p k o,H[r]?=some (.iter s p)→q8o w (φ r).blk k→M k o=none
 two : ∀ r r' s p s' p' k,r≠r'→H[r]?=some (.iter s p)→H[r']?=some (.iter s' p')→q8o w (φ r).blk k→¬ q8o w (φ r').blk k

theorem BldAt.feet {T e B b:Nat} {s:List UInt8} {w:World} (h:BldAt T e B b s w) {k:Nat} (hk:q8o w b k):B≤k∧k<w.heap.size∧∃ c t fr,w.heap[k]?=some (.cells c t fr):=by
 obtain ⟨hB,q,v,_,hb,hown,_⟩:=h
 have lt : ∀ {k:Nat} {o:Obj},w.heap[k]?=some o→k<w.heap.size:=fun h=>(VD.1 h).1
 rcases hk with rfl | ⟨v',hv',hk⟩
 ·exact ⟨hB,lt hb,_,_,_,hb⟩
 ·have:w.cell? ⟨b,1,none⟩=some v:=by simp [World.cell?,hb]
  rw[this] at hv'
  cases hv'
  rcases hown.2 with ⟨rfl,_⟩ | ⟨g,cap,cur,rfl,hg,hgb,_⟩
  ·cases hk
  ·simp only[Value.ownBlock,Kq] at hk
   subst hk
   exact ⟨hg,lt hgb,_,_,_,hgb⟩

theorem q9S {w w':World} {b k:Nat} (h:w'.heap[b]?=w.heap[b]?):q8o w' b k↔q8o w b k:=by
 unfold q8o World.cell?
 simp only[h]

theorem BldAt.keep {T e B b:Nat} {s:List UInt8} {w w':World} (h:BldAt T e B b s w) (hw : ∀ k,q8o w b k→w'.heap[k]?=w.heap[k]?):BldAt T e B b s w':=by
 obtain ⟨hB,q,v,hq,hb,hown,hne⟩:=h
 refine ⟨hB,q,v,hq,by rw[hw b (.inl rfl)]; exact hb,⟨hown.1,?_⟩,hne⟩
 rcases hown.2 with h | ⟨g,cap,cur,rfl,hg,hgb,h1,h2,h3,h4⟩
 ·exact .inl h
 ·exact .inr ⟨g,cap,cur,rfl,hg,by rw[hw g (.inr ⟨.slice (some ⟨g,0,none⟩) s.length cap,by simp [World.cell?,hb],rfl⟩)]; exact hgb,h1,h2,h3,h4⟩

theorem Bld.keep {M M':Mem} {H H':Heap} {φ φ':Nat→Loc} {B:Nat} {w w':World} (h:Bld M H φ B w) (σ:Nat→Nat) (hb : ∀ r s p,H'[r]?=some (.iter s p)→H[σ r]?=some (.iter s p)∧φ' r=φ (σ r))
  (hinj : ∀ r r' s p s' p',H'[r]?=some (.iter s p)→H'[r']?=some (.iter s' p')→σ r=σ r'→r=r')
  (hrow : ∀ r n els ro fl fam,H'[r]?=some (.row n els ro fl fam)→(∃ r0 n0 els0 ro0 fl0 fam0,H[r0]?=some (.row n0 els0 ro0 fl0 fam0)∧(φ' r).blk=(φ r0).blk)∨w.heap.size≤(φ' r).blk)
  (hM : ∀ b o v,M' b o=some v→(∃ v',M b o=some v')∨w.heap.size≤b∨∃ r0 n0 els0 ro0 fl0 fam0,H[r0]?=some (.row n0 els0 ro0 fl0 fam0)∧(φ r0).blk=b)
  (hw : ∀ r s p k,H[r]?=some (.iter s p)→q8o w (φ r).blk k→w'.heap[k]?=w.heap[k]?):Bld M' H' φ' B w':=by
 have ft : ∀ r s p k,H'[r]?=some (.iter s p)→q8o w' (φ' r).blk k→H[σ r]?=some (.iter s p)∧q8o w (φ (σ r)).blk k:=fun r s p k hr hf=>by
  obtain ⟨h1,h2⟩:=hb r s p hr
  rw[h2,q9S (hw _ _ _ _ h1 (.inl rfl))] at hf
  exact ⟨h1,hf⟩
 refine ⟨fun r s p hr=>?_,fun r s p r' n els ro fl fam hr hr' hf=>?_,fun r s p k o hr hf=>?_,fun r r' s p s' p' k hne hr hr' hf hf'=>?_⟩
 ·obtain ⟨h1,h2⟩:=hb r s p hr
  rw[h2]
  exact (h.at_ _ _ _ h1).keep fun k hk=>hw _ _ _ _ h1 hk
 ·obtain ⟨h1,h2⟩:=ft r s p _ hr hf
  rcases hrow _ _ _ _ _ _ hr' with ⟨r0,n0,els0,ro0,fl0,fam0,h3,h4⟩ | h3
  ·rw[h4] at h2
   exact h.rows _ _ _ _ _ _ _ _ _ h1 h3 h2
  ·have:=((h.at_ _ _ _ h1).feet h2).2.1
   omega
 ·obtain ⟨h1,h2⟩:=ft r s p _ hr hf
  cases hm:M' k o with
  | none=>rfl
  | some v=>
   rcases hM _ _ _ hm with ⟨v',h3⟩ | h3 | ⟨r0,n0,els0,ro0,fl0,fam0,h3,h4⟩
   ·rw[h.own _ _ _ _ o h1 h2] at h3; cases h3
   ·have:=((h.at_ _ _ _ h1).feet h2).2.1
    omega
   ·rw[←h4] at h2
    exact (h.rows _ _ _ _ _ _ _ _ _ h1 h3 h2).elim
 ·obtain ⟨h1,h2⟩:=ft r s p _ hr hf
  obtain ⟨h3,h4⟩:=ft r' s' p' _ hr' hf'
  exact h.two _ _ _ _ _ _ _ (fun e=>hne (hinj _ _ _ _ _ _ hr hr' e)) h1 h3 h2 h4

theorem Bld.none {M:Mem} {φ:Nat→Loc} {B:Nat} {w:World}:Bld M [] φ B w:=
 ⟨fun r s p h=>by simp at h,fun r s p r' n els ro fl fam h=>by simp at h,fun r s p k o h=>by simp at h,fun r r' s p s' p' k _ h=>by simp at h⟩

structure HRel (fid:FuncId→Option Nat) (M:Mem) (H:Heap) (φ:Nat→Loc) (B:Nat) (w:World):Prop where
 mem : ∀ b o v,M b o=some v→w.cell? ⟨b,o,none⟩=some v
 row : ∀ r n els ro fl fam,H[r]?=some (.row n els ro fl fam)→RowAt fid M H φ B w (φ r) r n els fl fam
 map : ∀ r es,H[r]?=some (.map es)→MapAt fid M H φ B w (φ r) es
 sepRR : ∀ r r' n els ro fl fam n' els' ro' fl' fam',r≠r'→H[r]?=some (.row n els ro fl fam)→H[r']?=some (.row n' els' ro' fl' fam')→(φ r).blk=(φ r').blk→fam=fam'∧n=n'∧(φ r).off=(φ r').off
 sepMM : ∀ r r' es es',r≠r'→H[r]?=some (.map es)→H[r']?=some (.map es')→(φ r).blk≠(φ r').blk
 ownR : ∀ r n els ro fl fam,H[r]?=some (.row n els ro fl fam)→∀ o v,M (φ r).blk o=some v→∃ r2 els2 fl2,H[r2]?=some (.row n els2 true fl2 fam)∧(φ r2).blk=(φ r).blk∧o<(φ r).off+els2.length * n
 ownM : ∀ r es,H[r]?=some (.map es)→∀ o,M (φ r).blk o=none
 bl:Bld M H φ B w

section
variable {P:Program} {fid:FuncId→Option Nat} {pf:Nat→Bool} {M:Mem} {H:Heap} {φ:Nat→Loc} {B:Nat} {w:World} {as:List AV} {v:AV}

theorem q3A {α:Type} {b:Option Blk} {k:Nat→List AV→Bool→Bool→Nat→Option α} {x:α} (h:q75 b k=some x) : ∃ n els ro fl fam,b=some (.row n els ro fl fam)∧k n els ro fl fam=some x:=by
 unfold q75 at h
 split at h
 ·exact ⟨_,_,_,_,_,rfl,h⟩
 ·cases h

theorem q4X {α:Type} {b:Option Blk} {k:List (AV × AV)→Option α} {x:α} (h:q8Z b k=some x) : ∃ es,b=some (.map es)∧k es=some x:=by
 unfold q8Z at h
 split at h
 ·exact ⟨_,rfl,h⟩
 ·cases h

theorem cell_of_heap {b o:Nat} {c:Array Value} {t:TypeId} {fr:Nat × Nat} (h:w.heap[b]?=some (.cells c t fr)):w.cell? ⟨b,o,none⟩=c[o]?:=by
 simp [World.cell?,h]

theorem q28 {b o:Nat} {c:Array Value} {t:TypeId} {fr:Nat × Nat} (h:w.heap[b]?=some (.cells c t fr)) (hf : ¬ (fr.1≤o∧o<fr.2)):w.frozen? ⟨b,o,none⟩=false:=by
 obtain ⟨lo,hi⟩:=fr
 simp only[World.frozen?,h]
 simp only[not_and,Nat.not_lt] at hf
 by_cases hl:lo≤o
 ·simp [hl,hf hl]
 ·simp [hl]

theorem q85 {b o m:Nat} {cs:List AV} (hm:cs.length=m) (h : ∀ (j:Nat) (y:AV),cs[j]?=some y→∃ u,w.cell? ⟨b,o+j,none⟩=some u∧VRel fid M H φ y u) :
  ∃ vs:List Value,(loadCells ⟨b,o,none⟩ m).run P w = .ok vs.toArray w∧VRels fid M H φ cs vs:=by
 let f:Nat→Value:=fun j=>(w.cell? ⟨b,o+j,none⟩).getD Go.undef
 have hf : ∀ (j:Nat) (y:AV),cs[j]?=some y→w.cell? ⟨b,o+j,none⟩=some (f j)∧VRel fid M H φ y (f j):=fun j y hy=>by
  obtain ⟨u,h1,h2⟩:=h j y hy
  simp only[f,h1,K8]
  exact ⟨trivial,h2⟩
 refine ⟨(List.range m).map f,?_,by simp [hm],fun i x u hx hu=>?_⟩
 ·refine run_loadCells w _ m f fun j hj=>?_
  rw[q2v]
  exact (hf j cs[j] (Ki (hm▸hj))).1
 ·have hlt:=q0f hx
  simp only[KH,VF (hm▸hlt),KM,Kq] at hu
  subst hu
  exact (hf i x hx).2

theorem q0P {n:Nat} : ∀ {l:List AV},(∀ x,x∈l→x.cells.length=n)→(flat l).length=l.length * n
 | [],_=>by simp [Ago.flat]
 | x::l,h=>by
  have h1:=h x (Ku ..)
  have h2:=q0P (l:=l) (fun y hy=>h y (Kt _ hy))
  simp only[Ago.flat,Kb,List.length_cons,h1,h2,Vi,Nat.one_mul]
  exact Nat.add_comm _ _

theorem q80 {n:Nat} : ∀ {l:List AV} {p:Nat} {y:AV},(∀ x,x∈l→x.cells.length=n)→(flat l)[p]?=some y→∃ i x j,l[i]?=some x∧x.cells[j]?=some y∧p=i * n+j
 | [],p,y,_,h=>by simp [Ago.flat] at h
 | x::l,p,y,hw,h=>by
  simp only[Ago.flat] at h
  have hx:=hw x (by simp)
  rw[Vo] at h
  split at h
  ·exact ⟨0,x,p,rfl,h,by simp⟩
  ·rename_i hge
   obtain ⟨i,x',j,h1,h2,h3⟩:=q80 (fun y hy=>hw y (by simp [hy])) h
   exact ⟨i+1,x',j,by simpa using h1,h2,by rw[hx] at h3 hge; rw[Vi]; omega⟩

theorem qfp {n:Nat} : ∀ {l:List AV} {i:Nat} {x:AV} {j:Nat} {y:AV},(∀ x,x∈l→x.cells.length=n)→l[i]?=some x→x.cells[j]?=some y→(flat l)[i * n+j]?=some y
 | [],i,x,j,y,_,h,_=>by simp at h
 | z::l,0,x,j,y,hw,h,hy=>by
  simp at h
  subst h
  have hj:=q0f hy
  simp only[Ago.flat,Nat.zero_mul,KS]
  rw[KG hj]
  exact hy
 | z::l,i+1,x,j,y,hw,h,hy=>by
  have hz:=hw z (Ku ..)
  have ih:=qfp (fun y hy=>hw y (Kt _ hy)) (by simpa using h) hy
  simp only[Ago.flat]
  rw[KJ (by rw[hz,Vi]; omega),hz,show (i+1) * n+j-n=i * n+j by rw[Vi]; omega]
  exact ih

theorem q6M {t:TypeId} (hu:(P.underlying t).isSome=true) (hg:q0v P t=true) {ad:Addr} {vs:List Value} (h:(loadCells ad (q0n P t)).run P w = .ok vs.toArray w) :
  (loadVar t ad).run P w = .ok (.agg vs.toArray) w:=by
 simp [loadVar,q5Q hu,hg,q5k hu,h]

theorem qg0 {t:TypeId} (hu:(P.underlying t).isSome=true) (hg:q0v P t=false) {ad:Addr} {u:Value} (h:w.cell? ad=some u):(loadVar t ad).run P w = .ok u w:=by
 simp [loadVar,q5Q hu,hg,h]

theorem qoU (hH:HRel fid M H φ B w) {t:TypeId} {X:Value} (hu:(P.underlying t).isSome=true) (h:VRels fid M H φ as [X]) (hv:qjH (if q0v P t then some (q0n P t) else none) H as=some v) :
  ∃ r,(Instr.loadAt t X).run P w = .ok r w∧VRel fid M H φ v r:=by
 -- what is known of the cells at an address
 have fin : ∀ (b o:Nat) (cs:List AV),(∀ (j:Nat) (y:AV),cs[j]?=some y→∃ u,w.cell? ⟨b,o+j,none⟩=some u∧VRel fid M H φ y u)→∀ off,q5r cs off (if q0v P t then some (q0n P t) else none)=some v →
   ∃ r,(Instr.loadAt t (.pointer (some ⟨b,o+off,none⟩))).run P w = .ok r w∧VRel fid M H φ v r:=by
  intro b o cs hcs off hl
  cases hg:q0v P t with
  | true=>
   simp only[hg,if_true,q5r] at hl
   split at hl
   ·rename_i hle
    cases hl
    obtain ⟨vs,hrun,hrel⟩:=q85 (P:=P) (b:=b) (o:=o+off) (m:=q0n P t) (cs:=(cs.drop off).take (q0n P t)) (by simp; omega) (fun j y hy=>by
     rw[VA] at hy
     split at hy
     ·rw[VB] at hy
      rw[KT]
      exact hcs _ _ hy
     ·cases hy)
    exact ⟨.agg vs.toArray,by simp [Instr.loadAt,Instr.sureAddr,q6M hu hg hrun],VRel.ofAggs hrel⟩
   ·cases hl
  | false=>
   simp only[hg,Km,if_false,q5r] at hl
   obtain ⟨u,h1,h2⟩:=hcs _ _ hl
   exact ⟨u,by simp [Instr.loadAt,Instr.sureAddr,qg0 hu hg h1],h2⟩
 unfold qjH at hv
 split at hv
 ·rename_i cs off
  have h1:=h.head
  cases h1 with
  | tptr _ _ b o vf hm hp hvv=>
   exact fin b o cs (fun j y hy=>⟨vf j,hH.mem _ _ _ (hm j (q0f hy)),hvv j y hy⟩) off hv
 ·rename_i n r i off
  have h1:=h.head
  cases h1 with
  | ptr _ _ _ _ ad hp hh=>
   unfold Heap.load at hv
   obtain ⟨n',els,ro,fl,fam,hrow,hv2⟩:=q3A hv
   clear hv
   unfold qcO at hv2
   split at hv2
   ·rename_i hn
    subst hn
    have hae:=hh els ro fl fam hrow
    subst hae
    have R:=hH.row _ _ _ _ _ _ hrow
    obtain ⟨c,ty,fr,hc,hsz,hfz,hcell⟩:=R.cells
    have hel : ∀ e,els[i]?=some e→∀ (j:Nat) (y:AV),e.cells[j]?=some y→∃ u,w.cell? ⟨(φ r).blk,(φ r).off+i * n'+j,none⟩=some u∧VRel fid M H φ y u:=fun e he j y hy=>by
     obtain ⟨u,h1,h2⟩:=hcell i e j y he hy
     exact ⟨u,by rw[cell_of_heap hc]; exact h1,h2⟩
    cases hg:q0v P t with
    | false=>
     simp only[hg,Km,if_false] at hv2
     unfold oneCell at hv2
     split at hv2
     ·rename_i e he
      have:=fin _ _ e.cells (hel e he) off (by simpa [hg,q5r] using hv2)
      exact this
     ·cases hv2
    | true=>
     simp only[hg,if_true] at hv2
     split at hv2
     ·unfold qfT at hv2
      split at hv2
      ·rename_i e he
       split at hv2
       ·rename_i h0
        obtain ⟨rfl,hmn⟩:=h0
        simp only[Kq] at hv2
        subst hv2
        have hw:=(R.wide e (Kc he)).1
        obtain ⟨vs,hrun,hrel⟩:=q85 (P:=P) (m:=q0n P t) (cs:=e.cells) (by omega) (hel e he)
        exact ⟨.agg vs.toArray,by simp [Instr.loadAt,Instr.sureAddr,q6M hu hg hrun],VRel.ofAggs hrel⟩
       ·exact fin _ _ e.cells (hel e he) off (by simpa [hg] using hv2)
      ·cases hv2
     ·split at hv2
      ·rename_i h0
       obtain ⟨rfl,hmod,hle⟩:=h0
       simp only[Kq] at hv2
       subst hv2
       have hwide : ∀ x,x∈(els.drop i).take (q0n P t / n')→x.cells.length=n':=fun x hx=>(R.wide x (KW (KB hx))).1
       have hlen:(flat ((els.drop i).take (q0n P t / n'))).length=q0n P t:=by
        rw[q0P hwide,KI,VZ,VT (by omega)]
        exact Nat.div_mul_cancel (Nat.dvd_of_mod_eq_zero hmod)
       obtain ⟨vs,hrun,hrel⟩:=q85 (P:=P) (b:=(φ r).blk) (o:=(φ r).off+i * n') (m:=q0n P t) hlen (fun p y hy=>by
        obtain ⟨i',x,j,h1,h2,rfl⟩:=q80 hwide hy
        rw[VA] at h1
        split at h1
        ·rw[VB] at h1
         obtain ⟨u,h3,h4⟩:=hcell _ _ _ _ h1 h2
         refine ⟨u,?_,h4⟩
         rw[cell_of_heap hc,←h3,Vi]
         simp [KT]
        ·cases h1)
       exact ⟨.agg vs.toArray,by simp [Instr.loadAt,Instr.sureAddr,q6M hu hg hrun],VRel.ofAggs hrel⟩
      ·cases hv2
   ·cases hv2
 ·cases hv
end
end Ago
namespace Ago
open Go

structure Placed (H:Heap) (id:Nat) (b:Blk) (H':Heap):Prop where
 at_:H'[id]?=some b
 other : ∀ r,r≠id→H'[r]?=H[r]?
 free : ∀ x,H[id]?=some x→x = .resv
 len:H.length≤H'.length

theorem Placed.push (H:Heap) (b:Blk):Placed H H.length b (H++[b]):=
 ⟨by simp,fun r hr=>by
  rw[Vo]
  split
  ·rfl
  ·rename_i h
   rw[KQ (by simp; omega),KQ (by omega)],fun x hx=>by (have:=q0f hx; omega),by simp⟩

theorem Placed.set {H:Heap} {id:Nat} (b:Blk) (h:H[id]?=some .resv):Placed H id b (H.set id b):=
 ⟨by simp [q0f h],fun r hr=>by rw[K0 (fun e=>hr e.symm)],fun x hx=>by rw[h] at hx; exact (K7 hx).symm,by simp⟩

def q0Q (φ:Nat→Loc) (id:Nat) (L:Loc):Nat→Loc:=fun r=>if r=id then L else φ r

section
variable {P:Program} {fid:FuncId→Option Nat} {pf:Nat→Bool} {M:Mem} {H H':Heap} {φ:Nat→Loc} {B:Nat} {w w':World} {as:List AV} {v:AV}

theorem Placed.le {id:Nat} {b:Blk} {L:Loc} (p:Placed H id b H') (hb:b ≠ .resv∨True):HLe H.length H H' φ (q0Q φ id L):=by
 refine ⟨p.len,fun r x hr hx=>?_⟩
 by_cases hid:r=id
 ·subst hid
  have:=p.free x hx
  subst this
  exact ⟨b,p.at_,trivial,fun h=>(h rfl).elim⟩
 ·exact ⟨x,by rw[p.other r hid]; exact hx,x.le_refl,fun h=>⟨h,by simp [q0Q,hid]⟩⟩

theorem q2s {b:Nat} {o:Obj} (h:w.heap[b]?=some o):b<w.heap.size:=(VD.1 h).1

theorem q6u (h:HRel fid M H φ B w) {b o:Nat} {u:Value} (hm:M b o=some u):b<w.heap.size:=World.block_lt_of_cell? w _ (h.mem b o u hm)

theorem RowAt.mono {L:Loc} {r n:Nat} {els:List AV} {fl:Bool} {fam:Nat} {M':Mem} {φ':Nat→Loc} (hM : ∀ b o u,M b o=some u→M' b o=some u) (hle:HLe H.length H H' φ φ') (hw:w'.heap[L.blk]?=w.heap[L.blk]?)
  (h:RowAt fid M H φ B w L r n els fl fam):RowAt fid M' H' φ' B w' L r n els fl fam:=by
 obtain ⟨c,t,fr,hc,hsz,hfz,hcell⟩:=h.cells
 refine ⟨h.base,h.pos,h.fits,⟨c,t,fr,by rw[hw]; exact hc,hsz,hfz,fun i x j y hx hy=>?_⟩,h.wide,h.flat⟩
 obtain ⟨u,h1,h2⟩:=hcell i x j y hx hy
 exact ⟨u,h1,h2.mono hM hle⟩

theorem MapAt.mono {L:Loc} {es:List (AV × AV)} {M':Mem} {φ':Nat→Loc} (hM : ∀ b o u,M b o=some u→M' b o=some u) (hle:HLe H.length H H' φ φ') (hw:w'.heap[L.blk]?=w.heap[L.blk]?)
  (h:MapAt fid M H φ B w L es):MapAt fid M' H' φ' B w' L es:=by
 obtain ⟨ces,clock,hc,hsz,he⟩:=h.ents
 refine ⟨h.base,ces,clock,by rw[hw]; exact hc,hsz,fun i k u hx=>?_⟩
 obtain ⟨e,h1,h2,h3⟩:=he i k u hx
 exact ⟨e,h1,h2.mono hM hle,h3.mono hM hle⟩

theorem HRel.placeRow {id n:Nat} {els:List AV} {fl:Bool} {fam:Nat} {c:Array Value} {t:TypeId} {fr:Nat × Nat} (h:HRel fid M H φ B w) (hw : ∀ b,b<w.heap.size→w'.heap[b]?=w.heap[b]?) (hB:B≤w.heap.size)
  (hnew:w'.heap[w.heap.size]?=some (.cells c t fr)) (hfr : ∀ o,o<c.size→¬ (fr.1≤o∧o<fr.2)) (p:Placed H id (.row n els false fl fam) H') (hn:0<n) (hfit:els.length * n≤c.size)
  (hcells : ∀ (q:Nat) (y:AV),(flat els)[q]?=some y→∃ u,c[q]?=some u∧VRel fid M H φ y u) (hwide : ∀ x,x∈els→x.cells.length=n∧x.cells.all AV.one=true) (hfl:fl=true→∀ x,x∈els→x.isPure=true) :
  HRel fid M H' (q0Q φ id ⟨w.heap.size,0,c.size⟩) B w':=by
 have hle:HLe H.length H H' φ (q0Q φ id ⟨w.heap.size,0,c.size⟩):=p.le (.inr trivial)
 have old : ∀ r b,H'[r]?=some b→r≠id→H[r]?=some b:=fun r b hr hne=>by rw[←p.other r hne]; exact hr
 have new : ∀ b,H'[id]?=some b→b = .row n els false fl fam:=fun b hb=>by rw[p.at_] at hb; exact (K7 hb).symm
 have loc : ∀ r,r≠id→q0Q φ id ⟨w.heap.size,0,c.size⟩ r=φ r:=fun r hr=>by simp [q0Q,hr]
 have loc0:q0Q φ id ⟨w.heap.size,0,c.size⟩ id=⟨w.heap.size,0,c.size⟩:=by simp [q0Q]
 have blt : ∀ r n els ro fl fam,H[r]?=some (.row n els ro fl fam)→(φ r).blk<w.heap.size:=fun r n els ro fl fam hr=>by
  obtain ⟨c,t,fr,hc,_⟩:=(h.row _ _ _ _ _ _ hr).cells
  exact q2s hc
 have mlt : ∀ r es,H[r]?=some (.map es)→(φ r).blk<w.heap.size:=fun r es hr=>by
  obtain ⟨c,cl,hc,_⟩:=(h.map _ _ hr).ents
  exact q2s hc
 refine ⟨fun b o u hm=>?_,fun r n' els' ro' fl' fam' hr=>?_,fun r es hr=>?_,fun r r' n1 e1 o1 f1 a1 n2 e2 o2 f2 a2 hne h1 h2 hb=>?_,fun r r' es es' hne h1 h2=>?_,fun r n' els' ro' fl' fam' hr o u hm=>?_,fun r es hr o=>?_,h.bl.keep _root_.id (fun r s q hr=>?_) (fun _ _ _ _ _ _ _ _ e=>e) (fun r n' els' ro' fl' fam' hr=>?_) (fun _ _ v hm=>.inl ⟨v,hm⟩) fun r s q k hr hk=>hw k ((h.bl.at_ _ _ _ hr).feet hk).2.1⟩
 ·have hlt:=q6u h hm
  rw[World.cell?_of_block (w:=w) (hw b hlt)]
  exact h.mem b o u hm
 ·by_cases hid:r=id
  ·subst hid
   have:=new _ hr
   cases this
   rw[loc0]
   refine ⟨hB,hn,by simpa using hfit,⟨c,t,fr,hnew,rfl,hfr,fun i x j y hx hy=>?_⟩,hwide,hfl⟩
   obtain ⟨u,h1,h2⟩:=hcells (i * n+j) y (qfp (fun z hz=>(hwide z hz).1) hx hy)
   exact ⟨u,by simpa using h1,h2.mono (fun _ _ _ h=>h) hle⟩
  ·have hr0:=old _ _ hr hid
   rw[loc r hid]
   exact (h.row _ _ _ _ _ _ hr0).mono (fun _ _ _ h=>h) hle (hw _ (blt _ _ _ _ _ _ hr0))
 ·by_cases hid:r=id
  ·subst hid; cases new _ hr
  ·have hr0:=old _ _ hr hid
   rw[loc r hid]
   exact (h.map _ _ hr0).mono (fun _ _ _ h=>h) hle (hw _ (mlt _ _ hr0))
 ·by_cases hid:r=id
  ·subst hid
   have h2':=old _ _ h2 (fun e=>hne e.symm)
   rw[loc0,loc r' (fun e=>hne e.symm)] at hb
   have:=blt _ _ _ _ _ _ h2'
   simp only at hb
   omega
  ·by_cases hid':r'=id
   ·subst hid'
    have h1':=old _ _ h1 hid
    rw[loc0,loc r hid] at hb
    have:=blt _ _ _ _ _ _ h1'
    simp only at hb
    omega
   ·rw[loc r hid,loc r' hid'] at hb ⊢
    exact h.sepRR r r' _ _ _ _ _ _ _ _ _ _ hne (old _ _ h1 hid) (old _ _ h2 hid') hb
 ·by_cases hid:r=id
  ·subst hid; cases new _ h1
  ·by_cases hid':r'=id
   ·subst hid'; cases new _ h2
   ·rw[loc r hid,loc r' hid']
    exact h.sepMM r r' _ _ hne (old _ _ h1 hid) (old _ _ h2 hid')
 ·by_cases hid:r=id
  ·subst hid
   rw[loc0] at hm
   have:=q6u h hm
   simp only at this
   omega
  ·rw[loc r hid] at hm ⊢
   obtain ⟨r2,els2,fl2,h1,h2,h3⟩:=h.ownR _ _ _ _ _ _ (old _ _ hr hid) o u hm
   have hne:r2≠id:=fun e=>by
    subst e
    have:=p.free _ h1
    cases this
   exact ⟨r2,els2,fl2,by rw[p.other r2 hne]; exact h1,by rw[loc r2 hne]; exact h2,h3⟩
 ·by_cases hid:r=id
  ·subst hid; cases new _ hr
  ·rw[loc r hid]
   exact h.ownM _ _ (old _ _ hr hid) o
 ·have hid:r≠id:=fun e=>by subst e; cases new _ hr
  exact ⟨old _ _ hr hid,loc r hid⟩
 ·by_cases hid:r=id
  ·subst hid
   rw[loc0]
   exact .inr (Kr _)
  ·rw[loc r hid]
   exact .inl ⟨r,_,_,_,_,_,old _ _ hr hid,rfl⟩

theorem HRel.placeGone {id:Nat} (h:HRel fid M H φ B w) (p:Placed H id .gone H'):HRel fid M H' φ B w:=by
 have hle:HLe H.length H H' φ φ:=by
  refine ⟨p.len,fun r x hr hx=>?_⟩
  by_cases hid:r=id
  ·subst hid
   have:=p.free x hx
   subst this
   exact ⟨.gone,p.at_,trivial,fun h=>(h rfl).elim⟩
  ·exact ⟨x,by rw[p.other r hid]; exact hx,x.le_refl,fun h=>⟨h,rfl⟩⟩
 have old : ∀ r b,H'[r]?=some b→b≠Blk.gone→H[r]?=some b:=fun r b hr hne=>by
  by_cases hid:r=id
  ·subst hid; rw[p.at_] at hr; exact (hne (K7 hr).symm).elim
  ·rw[←p.other r hid]; exact hr
 refine ⟨h.mem,fun r n' els' ro' fl' fam' hr=>?_,fun r es hr=>?_,fun r r' n1 e1 o1 f1 a1 n2 e2 o2 f2 a2 hne h1 h2 hb=>?_,fun r r' es es' hne h1 h2=>?_,fun r n' els' ro' fl' fam' hr o u hm=>?_,fun r es hr o=>?_,h.bl.keep _root_.id (fun r s q hr=>⟨old _ _ hr (by simp),rfl⟩) (fun _ _ _ _ _ _ _ _ e=>e) (fun r n' els' ro' fl' fam' hr=>.inl ⟨r,_,_,_,_,_,old _ _ hr (by simp),rfl⟩) (fun _ _ v hm=>.inl ⟨v,hm⟩) fun _ _ _ _ _ _=>rfl⟩
 ·exact (h.row _ _ _ _ _ _ (old _ _ hr (by simp))).mono (fun _ _ _ h=>h) hle rfl
 ·exact (h.map _ _ (old _ _ hr (by simp))).mono (fun _ _ _ h=>h) hle rfl
 ·exact h.sepRR r r' _ _ _ _ _ _ _ _ _ _ hne (old _ _ h1 (by simp)) (old _ _ h2 (by simp)) hb
 ·exact h.sepMM r r' _ _ hne (old _ _ h1 (by simp)) (old _ _ h2 (by simp))
 ·obtain ⟨r2,els2,fl2,h1,h2,h3⟩:=h.ownR _ _ _ _ _ _ (old _ _ hr (by simp)) o u hm
  have hne:r2≠id:=fun e=>by
   subst e
   have:=p.free _ h1
   cases this
  exact ⟨r2,els2,fl2,by rw[p.other r2 hne]; exact h1,h2,h3⟩
 ·exact h.ownM _ _ (old _ _ hr (by simp)) o
end
end Ago
namespace Ago
open Go

section
variable {P:Program} {fid:FuncId→Option Nat} {pf:Nat→Bool} {M:Mem} {H H':Heap} {φ:Nat→Loc} {B:Nat} {w w':World} {as:List AV} {v:AV}

theorem q8z (n:Nat) : ∀ (k:Nat) (cs:List AV),(q8w n k cs).length=k
 | 0,_=>rfl
 | k+1,cs=>by simp [q8w,q8z n k]

theorem q6f {n:Nat} (hn:0<n) : ∀ (k:Nat) (cs:List AV),cs.length=k * n→cs.all AV.one=true→flat (q8w n k cs)=cs∧∀ x,x∈q8w n k cs→x.cells.length=n∧x.cells.all AV.one=true
 | 0,cs,hl,_=>by
  have:cs=[]:=KE (by simpa using hl)
  subst this
  exact ⟨rfl,fun x hx=>by cases hx⟩
 | k+1,cs,hl,h1=>by
  have hlen:n≤cs.length:=by rw[hl,Vi]; omega
  obtain ⟨ih1,ih2⟩:=q6f hn k (cs.drop n) (by rw[VZ,hl,Vi]; omega) (Kp.2 fun y hy=>Kp.1 h1 y (KW hy))
  have hx:((if n=1 then (cs[0]?).getD .dead else AV.agg (cs.take n)):AV).cells=cs.take n:=by
   split
   ·rename_i h
    subst h
    cases cs with
    | nil=>simp at hlen
    | cons y ys=>
     have:y.one=true:=Kp.1 h1 y (Ku ..)
     cases y<;>first | rfl | cases this
   ·rfl
  refine ⟨?_,fun x hxm=>?_⟩
  ·simp only[q8w,Ago.flat,ih1,hx,Vl]
  ·simp only[q8w,KA] at hxm
   rcases hxm with rfl | hxm
   ·rw[hx]
    exact ⟨by simp [hlen],Kp.2 fun y hy=>Kp.1 h1 y (KB hy)⟩
   ·exact ih2 x hxm

theorem q6c {n:Nat} : ∀ (k:Nat) (cs:List AV),(∀ y,y∈cs→AV.pureN 5 y=true)→∀ x,x∈q8w n k cs→x.isPure=true
 | 0,cs,_,x,hx=>by cases hx
 | k+1,cs,h,x,hx=>by
  simp only[q8w,KA] at hx
  rcases hx with rfl | hx
  ·split
   ·cases cs with
    | nil=>rfl
    | cons y ys=>exact q29 5 y (h y (Ku ..))
   ·exact Kp.2 fun y hy=>h y (KB hy)
  ·exact q6c k (cs.drop n) (fun y hy=>h y (KW hy)) x hx

def MadeOk (P:Program) (fid:FuncId→Option Nat) (M:Mem) (H:Heap) (φ:Nat→Loc) (B:Nat) (w:World) (s:Sem Value) (v:AV) (b:Blk) (id:Nat):Prop:=
 ∀ H',Placed H id b H'→∃ r w' φ',s.run P w = .ok r w'∧HRel fid M H' φ' B w'∧HLe H.length H H' φ φ'∧VRel fid M H' φ' v r∧RowKit.Below B w w'

theorem q3F (hB:B≤w.heap.size) (o:Obj):RowKit.Below B w (w.alloc o):=(RowKit.Below.refl _ _).alloc hB o

theorem q12 (o:Obj) (b:Nat) (h:b<w.heap.size):(w.alloc o).heap[b]?=w.heap[b]?:=RowKit.Below.heap_alloc w o b h
theorem q1x (o:Obj):(w.alloc o).heap[w.heap.size]?=some o:=by
 show (w.heap.push o)[w.heap.size]?=some o
 simp

theorem q3S {id:Nat} {b:Blk} (p:Placed H id b H') (hb:b ≠ .resv):Present H' id:=⟨b,p.at_,hb⟩

theorem qjZ {id n:Nat} {els:List AV} {fl:Bool} {fam:Nat} {L:Loc} (p:Placed H id (.row n els false fl fam) H'):VRel fid M H' (q0Q φ id L) (.ptr n id 0 0) (.pointer (some ⟨L.blk,L.off,none⟩)):=by
 refine .ptr n id 0 0 _ (q3S p (by simp)) fun els' ro' fl' fam' he=>?_
 simp [q0Q]

theorem q3M {t:TypeId} {cs:List AV} (h:zeroCells P t=some cs) : ∃ z,(∀ w:World,(zeroValue t).run P w = .ok z w)∧VRels fid M H φ cs z.cells.toList∧cs.all AV.one=true∧cs.length=q0n P t∧∀ y,y∈cs→AV.pureN 5 y=true:=by
 unfold zeroCells at h
 split at h
 ·rename_i cs' z hz hi
  split at h
  ·rename_i hc
   cases h
   simp only[Kk,beq_iff_eq] at hc
   obtain ⟨h1,h2⟩:=qcA (fid:=fid) (M:=M) (H:=H) (φ:=φ) hc.1
   refine ⟨z,fun w=>?_,h1,h2,hc.2,fun y hy=>?_⟩
   ·cases hinfo:P.info? t with
    | none=>simp [hinfo] at hi
    | some i=>
     simp only[hinfo,VK] at hi
     simp [zeroValue,typeInfo,hinfo,hi]
   ·have : ∀ {cs:List AV} {vs:List Value},q9H cs vs=true→∀ y,y∈cs→AV.pureN 5 y=true:=by
     intro cs
     induction cs with
     | nil=>intro vs _ y hy; cases hy
     | cons x cs ih=>
      intro vs hl y hy
      cases vs with
      | nil=>cases hl
      | cons u vs=>
       simp only[q9H,Kk] at hl
       simp only[KA] at hy
       rcases hy with rfl | hy
       ·have:=hl.1
        unfold qol at this
        split at this<;>first | rfl | cases this
       ·exact ih hl.2 y hy
    exact this hc.1 y hy
  ·cases h
 ·cases h

theorem qcH {t:TypeId} {z:Value} {n id:Nat} {els:List AV} {fl:Bool} (hH:HRel fid M H φ B w) (hB:B≤w.heap.size) (hn:0<n) (hz:VRels fid M H φ (flat els) z.cells.toList)
  (hwide : ∀ x,x∈els→x.cells.length=n∧x.cells.all AV.one=true) (hfl:fl=true→∀ x,x∈els→x.isPure=true) :
  MadeOk P fid M H φ B w (do pure (.pointer (some (← newVar t z)))) (.ptr n id 0 0) (.row n els false fl id) id:=by
 intro H' p
 refine ⟨.pointer (some ⟨w.heap.size,0,none⟩),w.alloc (.cells z.cells t),q0Q φ id ⟨w.heap.size,0,z.cells.size⟩,by simp [newVar,newRow],?_,p.le (.inr trivial),qjZ (L:=⟨w.heap.size,0,z.cells.size⟩) p,q3F hB _⟩
 refine hH.placeRow (fun b hb=>q12 _ b hb) hB (q1x _) (fun o ho h=>by simp at h) p hn ?_ (fun q y hy=>?_) hwide hfl
 ·have:=hz.1
  rw[q0P (fun x hx=>(hwide x hx).1)] at this
  simpa using Nat.le_of_eq this
 ·obtain ⟨u,h1,h2⟩:=q1i hz hy
  exact ⟨u,by simpa using h1,h2⟩

theorem qsA {o:Oper} {ρ:Operand→Value} {t:TypeId} {n:Nat} {els:List AV} {id:Nat} {b:Blk} (ho:o.op = .alloc t) (hH:HRel fid M H φ B w) (hB:B≤w.heap.size) (hn:0<n)
  {cs:List AV} (hc:zeroCells P t=some cs) (hf:flat els=cs) (hwide : ∀ x,x∈els→x.cells.length=n∧x.cells.all AV.one=true) (hpure : ∀ x,x∈els→x.isPure=true) (hv:qtW n els id as=some (v,b)) :
  MadeOk P fid M H φ B w (Instr.alloc t true (.tuple #[])) v b id:=by
 unfold qtW at hv
 split at hv
 ·cases hv
  obtain ⟨z,hz,hrel,_⟩:=q3M (fid:=fid) (M:=M) (H:=H) (φ:=φ) hc
  intro H' p
  obtain ⟨r,w',φ',hrun,rest⟩:=qcH (P:=P) (t:=t) (z:=z) (id:=id) (fl:=true) hH hB hn (hf▸hrel) hwide (fun _=>hpure) H' p
  refine ⟨r,w',φ',?_,rest⟩
  simp only[Instr.alloc,Sem.run_bind,hz,Result.andThen_ok]
  exact hrun
 ·cases hv

theorem HRel.placeBld {id q T:Nat} {w':World} (h:HRel fid M H φ B w) (hw : ∀ b,b<w.heap.size→w'.heap[b]?=w.heap[b]?) (hB:B≤w.heap.size) (hnew:w'.heap[w.heap.size]?=some (.cells #[.pointer none,.slice none 0 0] T (0,0))) (hT:q / 100000=T)
  (p:Placed H id (.iter [] q) H'):HRel fid M H' (q0Q φ id ⟨w.heap.size,0,0⟩) B w':=by
 have hle:HLe H.length H H' φ (q0Q φ id ⟨w.heap.size,0,0⟩):=p.le (.inr trivial)
 have old : ∀ r b,H'[r]?=some b→r≠id→H[r]?=some b:=fun r b hr hne=>by rw[←p.other r hne]; exact hr
 have new : ∀ b,H'[id]?=some b→b = .iter [] q:=fun b hb=>by rw[p.at_] at hb; exact (K7 hb).symm
 have loc : ∀ r,r≠id→q0Q φ id ⟨w.heap.size,0,0⟩ r=φ r:=fun r hr=>by simp [q0Q,hr]
 have loc0:q0Q φ id ⟨w.heap.size,0,0⟩ id=⟨w.heap.size,0,0⟩:=by simp [q0Q]
 have blt : ∀ r n els ro fl fam,H[r]?=some (.row n els ro fl fam)→(φ r).blk<w.heap.size:=fun r n els ro fl fam hr=>by
  obtain ⟨c,t,fr,hc,_⟩:=(h.row _ _ _ _ _ _ hr).cells
  exact q2s hc
 have mlt : ∀ r es,H[r]?=some (.map es)→(φ r).blk<w.heap.size:=fun r es hr=>by
  obtain ⟨c,cl,hc,_⟩:=(h.map _ _ hr).ents
  exact q2s hc
 have fnew : ∀ k,q8o w' w.heap.size k→k=w.heap.size:=fun k hk=>by
  rcases hk with rfl | ⟨v,hv,hk⟩
  ·rfl
  ·simp [World.cell?,hnew] at hv
   subst hv
   cases hk
 have fold : ∀ r s x k,H'[r]?=some (.iter s x)→r≠id→q8o w' ((q0Q φ id ⟨w.heap.size,0,0⟩) r).blk k→H[r]?=some (.iter s x)∧q8o w (φ r).blk k∧k<w.heap.size:=fun r s x k hr hne hf=>by
  have hr0:=old _ _ hr hne
  rw[loc r hne] at hf
  have hlt:=((h.bl.at_ _ _ _ hr0).feet (.inl rfl)).2.1
  rw[q9S (hw _ hlt)] at hf
  exact ⟨hr0,hf,((h.bl.at_ _ _ _ hr0).feet hf).2.1⟩
 refine ⟨fun b o u hm=>?_,fun r n' els' ro' fl' fam' hr=>?_,fun r es hr=>?_,fun r r' n1 e1 o1 f1 a1 n2 e2 o2 f2 a2 hne h1 h2 hb=>?_,fun r r' es es' hne h1 h2=>?_,fun r n' els' ro' fl' fam' hr o u hm=>?_,fun r es hr o=>?_,
  ⟨fun r s x hr=>?_,fun r s x r' n els ro fl fam hr hr' hf=>?_,fun r s x k o hr hf=>?_,fun r r' s x s' x' k hne hr hr' hf hf'=>?_⟩⟩
 ·have hlt:=q6u h hm
  rw[World.cell?_of_block (w:=w) (hw b hlt)]
  exact h.mem b o u hm
 ·have hid:r≠id:=fun e=>by subst e; cases new _ hr
  have hr0:=old _ _ hr hid
  rw[loc r hid]
  exact (h.row _ _ _ _ _ _ hr0).mono (fun _ _ _ h=>h) hle (hw _ (blt _ _ _ _ _ _ hr0))
 ·have hid:r≠id:=fun e=>by subst e; cases new _ hr
  have hr0:=old _ _ hr hid
  rw[loc r hid]
  exact (h.map _ _ hr0).mono (fun _ _ _ h=>h) hle (hw _ (mlt _ _ hr0))
 ·have hid:r≠id:=fun e=>by subst e; cases new _ h1
  have hid':r'≠id:=fun e=>by subst e; cases new _ h2
  rw[loc r hid,loc r' hid'] at hb ⊢
  exact h.sepRR r r' _ _ _ _ _ _ _ _ _ _ hne (old _ _ h1 hid) (old _ _ h2 hid') hb
 ·have hid:r≠id:=fun e=>by subst e; cases new _ h1
  have hid':r'≠id:=fun e=>by subst e; cases new _ h2
  rw[loc r hid,loc r' hid']
  exact h.sepMM r r' _ _ hne (old _ _ h1 hid) (old _ _ h2 hid')
 ·have hid:r≠id:=fun e=>by subst e; cases new _ hr
  rw[loc r hid] at hm ⊢
  obtain ⟨r2,els2,fl2,h1,h2,h3⟩:=h.ownR _ _ _ _ _ _ (old _ _ hr hid) o u hm
  have hne:r2≠id:=fun e=>by
   subst e
   have:=p.free _ h1
   cases this
  exact ⟨r2,els2,fl2,by rw[p.other r2 hne]; exact h1,by rw[loc r2 hne]; exact h2,h3⟩
 ·have hid:r≠id:=fun e=>by subst e; cases new _ hr
  rw[loc r hid]
  exact h.ownM _ _ (old _ _ hr hid) o
 ·by_cases hid:r=id
  ·subst hid
   cases new _ hr
   rw[loc0,hT]
   exact ⟨hB,_,_,.inl rfl,hnew,World.ownsRow_nil _ _ _ _,by simp [Value.ownBlock]⟩
  ·have hr0:=old _ _ hr hid
   rw[loc r hid]
   exact (h.bl.at_ _ _ _ hr0).keep fun k hk=>hw k ((h.bl.at_ _ _ _ hr0).feet hk).2.1
 ·have hid':r'≠id:=fun e=>by subst e; cases new _ hr'
  have hr0':=old _ _ hr' hid'
  rw[loc r' hid'] at hf
  by_cases hid:r=id
  ·subst hid
   rw[loc0] at hf
   have:=fnew _ hf
   have:=blt _ _ _ _ _ _ hr0'
   omega
  ·obtain ⟨h1,h2,_⟩:=fold _ _ _ _ hr hid hf
   exact h.bl.rows _ _ _ _ _ _ _ _ _ h1 hr0' h2
 ·by_cases hid:r=id
  ·subst hid
   rw[loc0] at hf
   rw[fnew _ hf]
   cases hm:M w.heap.size o with
   | none=>rfl
   | some u=>have:=q6u h hm; omega
  ·obtain ⟨h1,h2,_⟩:=fold _ _ _ _ hr hid hf
   exact h.bl.own _ _ _ _ o h1 h2
 ·by_cases hid:r=id
  ·subst hid
   rw[loc0] at hf
   obtain ⟨_,_,h3⟩:=fold _ _ _ _ hr' (fun e=>hne e.symm) hf'
   have:=fnew _ hf
   omega
  ·obtain ⟨h1,h2,h3⟩:=fold _ _ _ _ hr hid hf
   by_cases hid':r'=id
   ·subst hid'
    rw[loc0] at hf'
    have:=fnew _ hf'
    omega
   ·obtain ⟨h4,h5,_⟩:=fold _ _ _ _ hr' hid' hf'
    exact h.bl.two _ _ _ _ _ _ _ hne h1 h4 h2 h5

theorem qok (a b:Nat) (h:b<100000):(a * 100000+b) / 100000=a:=by omega

theorem qut {t:TypeId} {q id:Nat} {b:Blk} (hH:HRel fid M H φ B w) (hB:B≤w.heap.size) (hc:qpn P t=some q) (hv:qkN q id as=some (v,b)) :
  MadeOk P fid M H φ B w (Instr.alloc t true (.tuple #[])) v b id:=by
 unfold qkN at hv
 split at hv
 ·cases hv
  unfold qpn at hc
  split at hc
  ·split at hc
   ·split at hc
    ·rename_i e i _ hi
     split at hc
     ·rename_i he
      cases hc
      have hz:i.zero=some (.agg #[.pointer none,.slice none 0 0]):=by
       have:=he.2
       unfold qjj at this
       split at this
       ·rename_i cs hcs
        split at this
        ·rename_i hl
         rw[hcs]
         congr 2
         exact Array.toList_inj.1 hl
        ·cases this
       ·cases this
      intro H' p
      refine ⟨.pointer (some ⟨w.heap.size,0,none⟩),w.alloc (.cells #[.pointer none,.slice none 0 0] t),q0Q φ id ⟨w.heap.size,0,0⟩,?_,?_,p.le (.inr trivial),.iref _ _ (q3S p (by simp)) fun s x h=>by simp [q0Q],q3F hB _⟩
      ·simp only[Instr.alloc,Sem.run_bind,zeroValue,typeInfo,hi,hz,Sem.run_pure,run_program,Result.andThen_ok]
       simp [newVar,newRow,Value.cells]
      ·exact hH.placeBld (fun b hb=>q12 _ b hb) hB (q1x _) (qok t e he.1) p
     ·cases hc
    ·cases hc
   ·cases hc
  ·cases hc
 ·cases hv

theorem qvU {t:TypeId} {X:Value} {n id:Nat} {b:Blk} (hH:HRel fid M H φ B w) (hB:B≤w.heap.size) (hn:0<n) (h:VRels fid M H φ as [X]) (hv:qtx n id as=some (v,b)) :
  MadeOk P fid M H φ B w (Instr.box t X) v b id:=by
 unfold qtx at hv
 split at hv
 ·rename_i x
  split at hv
  ·cases hv
  ·rename_i hone
   have hone':x.cells.all AV.one=true:=by simpa using hone
   have hrel:=h.head.cells hone'
   split at hv
   ·rename_i hlen
    cases hv
    exact qcH hH hB hn (by simpa [Ago.flat] using hrel) (fun y hy=>by simp at hy; subst hy; exact ⟨hlen,hone'⟩) (fun hp y hy=>by simp at hy; subst hy; exact hp)
   ·split at hv
    ·rename_i hmod
     cases hv
     have hlen:x.cells.length=x.cells.length / n * n:=(Nat.div_mul_cancel (Nat.dvd_of_mod_eq_zero hmod)).symm
     obtain ⟨h1,h2⟩:=q6f hn (x.cells.length / n) x.cells hlen hone'
     refine qcH hH hB hn (by rw[h1]; exact hrel) h2 (fun hp=>q6c _ _ fun y hy=>?_)
     cases x with
     | agg cs=>exact Kp.1 (show cs.all (AV.pureN 5)=true from hp) y hy
     | _=>
      rename_i hl
      simp only[AV.cells,KA,List.mem_nil_iff,or_false] at hy
      subst hy
      first
       | rfl
       | (cases hp; done)
       | (simp [AV.cells] at hl hmod; omega)
    ·cases hv
 ·cases hv
end
end Ago
namespace Ago
open Go

section
variable {P:Program} {fid:FuncId→Option Nat} {pf:Nat→Bool} {M:Mem} {H H':Heap} {φ:Nat→Loc} {B:Nat} {w w':World} {as:List AV} {v:AV}

theorem HRel.world (h:HRel fid M H φ B w) (hw : ∀ b,b<w.heap.size→w'.heap[b]?=w.heap[b]?):HRel fid M H φ B w':=by
 refine ⟨fun b o u hm=>?_,fun r n' els' ro' fl' fam' hr=>?_,fun r es hr=>?_,h.sepRR,h.sepMM,h.ownR,h.ownM,h.bl.keep id (fun r s q hr=>⟨hr,rfl⟩) (fun _ _ _ _ _ _ _ _ e=>e) (fun r _ _ _ _ _ hr=>.inl ⟨r,_,_,_,_,_,hr,rfl⟩) (fun _ _ v hm=>.inl ⟨v,hm⟩) fun r s q k hr hk=>hw k ((h.bl.at_ _ _ _ hr).feet hk).2.1⟩
 ·rw[World.cell?_of_block (w:=w) (hw b (q6u h hm))]
  exact h.mem b o u hm
 ·have R:=h.row _ _ _ _ _ _ hr
  obtain ⟨c,t,fr,hc,_⟩:=R.cells
  exact R.mono (fun _ _ _ h=>h) (HLe.refl _ _ _) (hw _ (q2s hc))
 ·have R:=h.map _ _ hr
  obtain ⟨c,cl,hc,_⟩:=R.ents
  exact R.mono (fun _ _ _ h=>h) (HLe.refl _ _ _) (hw _ (q2s hc))

theorem q3Y {t:TypeId} (h:q0n P t≠0) : ∃ i,P.info? t=some i∧i.size=q0n P t:=by
 unfold q0n at *
 cases hi:P.info? t with
 | none=>simp [hi] at h
 | some i=>exact ⟨i,rfl,rfl⟩

theorem qbl : ∀ {agg:Bool} {cs:List AV} {z:AV},q8F agg cs=some z→cs.all AV.one=true→(∀ y,y∈cs→AV.pureN 5 y=true)→z.cells=cs∧z.isPure=true
 | true,cs,z,h,_,hp=>by cases h; exact ⟨rfl,Kp.2 hp⟩
 | false,[],z,h,_,_=>by cases h
 | false,[x],z,h,h1,hp=>by
  cases h
  have hx:x.one=true:=by simpa using h1
  refine ⟨?_,q29 5 _ (hp _ (Ku ..))⟩
  cases x<;>first | rfl | cases hx
 | false,_::_::_,z,h,_,_=>by cases h

theorem q6Z {t:TypeId} {z:AV} (h:q2z P t=some z) : ∃ i zv,P.info? t=some i∧i.zero=some zv∧VRels fid M H φ z.cells zv.cells.toList∧z.cells.length=q0n P t∧z.cells.all AV.one=true∧z.isPure=true:=by
 unfold q2z at h
 cases hc:zeroCells P t with
 | none=>simp [hc] at h
 | some cs=>
  simp only[hc,VK] at h
  obtain ⟨zv,hrun,hrel,h1,hlen,hp⟩:=q3M (fid:=fid) (M:=M) (H:=H) (φ:=φ) hc
  have hcells:=qbl h h1 hp
  unfold zeroCells at hc
  split at hc
  ·rename_i cs' z' hz hi
   split at hc
   ·rename_i hcc
    cases hc
    cases hinfo:P.info? t with
    | none=>simp [hinfo] at hi
    | some i=>
     simp only[hinfo,VK] at hi
     have e:=hrun default
     simp [zeroValue,typeInfo,hinfo,hi] at e
     subst e
     refine ⟨i,_,rfl,hi,?_,?_,?_,hcells.2⟩
     ·rw[hcells.1]; exact hrel
     ·rw[hcells.1]; exact hlen
     ·rw[hcells.1]; exact h1
   ·cases hc
  ·cases hc

theorem qdF {z:AV} {zv:Array Value} {n:Nat} (hn:0<n) (h:VRels fid M H φ z.cells zv.toList) (hl:z.cells.length=n) (k:Nat):VRels fid M H φ (flat (List.replicate k z)) (madeCells zv (k * n)).toList:=by
 have hw : ∀ x,x∈List.replicate k z→x.cells.length=n:=fun x hx=>by rw[(V5.1 hx).2]; exact hl
 have hzs:zv.size=n:=by have:=h.1; simp at this; omega
 refine ⟨by rw[q0P hw]; simp [madeCells],fun p y u hy hu=>?_⟩
 obtain ⟨i,x,j,h1,h2,h3⟩:=q80 hw hy
 have hx:x=z:=(V5.1 (Kc h1)).2
 subst hx
 have hj:j<n:=hl▸q0f h2
 have hp:p<k * n:=by have:=q0f hu; simpa [madeCells] using this
 simp only[madeCells,Array.toList_map,Array.toList_range,KH,VF hp,KM,Kq] at hu
 have hm:p % n=j:=by rw[h3,Nat.add_comm,Nat.add_mul_mod_self_right,Nat.mod_eq_of_lt hj]
 rw[hzs,hm] at hu
 have hz:zv.toList[j]?=some u:=by
  have hjz:j<zv.size:=by omega
  rw[getElem!_pos zv j hjz] at hu
  rw[←hu]
  simp
 exact h.2 j y u h2 hz

theorem qgh {n:Nat} : ∀ {l:List AV} {i:Nat} {x:AV},(∀ y,y∈l→y.cells.length=n)→i<l.length→flat (l.set i x)=(flat l).take (i * n)++x.cells++(flat l).drop (i * n+n)
 | [],i,x,_,h=>by simp at h
 | y::l,0,x,hw,h=>by
  have hy:=hw y (Ku ..)
  simp [Ago.flat,←hy]
 | y::l,i+1,x,hw,h=>by
  have hy:=hw y (Ku ..)
  have ih:=qgh (x:=x) (fun z hz=>hw z (Kt _ hz)) (by simpa using h:i<l.length)
  have e1:(i+1) * n=n+i * n:=by rw[Vi]; omega
  have e2:(i+1) * n+n=n+(i * n+n):=by rw[Vi]; omega
  simp only[List.set_cons_succ,Ago.flat,ih]
  rw[e2,e1,←hy,List.take_length_add_append,List.drop_length_add_append]
  simp

theorem qeo {n:Nat} : ∀ (pl:List Nat) (args:List AV) (l:List AV),(∀ y,y∈l→y.cells.length=n)→pl.length=args.length→(∀ x,x∈args→x.cells.length=n)→(∀ i,i∈pl→i<l.length) →
  q3T (flat l) ((pl.map fun i=>(i * n,n)).zip args)=some (flat ((pl.zip args).foldl (fun l x=>l.set x.1 x.2) l))
 | [],_,l,_,_,_,_=>by simp [q3T]
 | i::pl,[],l,_,h,_,_=>by simp at h
 | i::pl,x::args,l,hw,hl,ha,hp=>by
  have hx:=ha x (Ku ..)
  have hi:=hp i (Ku ..)
  have hfl:=q0P hw
  have hle:i * n+n≤(flat l).length:=by
   rw[hfl]
   have:=Vh n (Nat.succ_le_of_lt hi)
   rw[Nat.succ_mul] at this
   exact this
  simp only[Kd,List.zip_cons_cons,q3T,hx,hle,and_self,if_true,Vz]
  rw[←qgh hw hi]
  exact qeo pl args (l.set i x) (fun y hy=>by
   rcases V3 hy with h | h
   ·exact hw y h
   ·rw[h]; exact hx) (by simpa using hl) (fun y hy=>ha y (Kt _ hy)) (fun j hj=>by simpa using hp j (Kt _ hj))

theorem q5m {Q:AV→Prop} : ∀ (ps:List (Nat × AV)) (l:List AV),(∀ x,x∈l→Q x)→(∀ p,p∈ps→Q p.2)→∀ x,x∈ps.foldl (fun l x=>l.set x.1 x.2) l→Q x
 | [],l,hl,_,x,hx=>hl x hx
 | p::ps,l,hl,hp,x,hx=>q5m ps (l.set p.1 p.2) (fun y hy=>by
   rcases V3 hy with h | h
   ·exact hl y h
   ·rw[h]; exact hp p (Ku ..)) (fun q hq=>hp q (Kt _ hq)) x hx

theorem q5z : ∀ (ps:List (Nat × AV)) (l:List AV),(ps.foldl (fun l x=>l.set x.1 x.2) l).length=l.length
 | [],l=>rfl
 | p::ps,l=>by simp only[Vz]; rw[q5z ps]; simp

theorem q8u {id n len cap:Nat} {els:List AV} {fl:Bool} {fam:Nat} {L:Loc} (p:Placed H id (.row n els false fl fam) H') (hc:len≤cap) (hl:len≤els.length) (ho:L.off=0) (hs:cap * n≤L.size) :
  VRel fid M H' (q0Q φ id L) (.sref n id 0 len) (.slice (some ⟨L.blk,0,none⟩) len cap):=by
 refine .sref n id 0 len cap _ hc (fun _=>rfl) (q3S p (by simp)) fun els' ro' fl' fam' he=>?_
 rw[p.at_] at he
 cases he
 refine ⟨by omega,fun _=>?_⟩
 have e:q0Q φ id L id=L:=by simp [q0Q]
 rw[e]
 exact ⟨by simp [ho],by simp [ho]; exact hs⟩

theorem qef {t e:TypeId} {len:Nat} {parts:Array (Nat × Value)} {z:AV} {id:Nat} {b:Blk} (hH:HRel fid M H φ B w) (hB:B≤w.heap.size) (ht:P.underlying t=some (.slice e)) (hn:q0n P e≠0) (hlim:len * q0n P e≤2^24)
  (hz:q2z P e=some z) (h:VRels fid M H φ as (parts.toList.map (·.2))) (hv:q4o (q0n P e) (List.replicate len z) (parts.toList.map (·.1)) id as=some (v,b)) :
  MadeOk P fid M H φ B w (Instr.buildSlice t len parts) v b id:=by
 intro H' p
 unfold q4o at hv
 split at hv
 ·rename_i hc
  obtain ⟨hl,hall,hpl⟩:=hc
  obtain ⟨i,zv,hi,hzv,hzr,hzl,hz1,hzp⟩:=q6Z (fid:=fid) (M:=M) (H:=H) (φ:=φ) hz
  obtain ⟨i',hi',hsz⟩:=q3Y hn
  rw[hi] at hi'
  cases hi'
  have hnpos:0<q0n P e:=V6 hn
  have hwidth : ∀ x,x∈as→x.cells.length=q0n P e∧x.cells.all AV.one=true:=fun x hx=>by
   have:=Kp.1 hall x hx
   simpa using this
  have hrepw : ∀ x,x∈List.replicate len z→x.cells.length=q0n P e:=fun x hx=>by rw[(V5.1 hx).2]; exact hzl
  have hplt : ∀ j,j∈parts.toList.map (·.1)→j<(List.replicate len z).length:=fun j hj=>by
   have:=Kp.1 hpl j hj
   simpa using this
  have hov:=qeo (n:=q0n P e) (parts.toList.map (·.1)) as (List.replicate len z) hrepw hl (fun x hx=>(hwidth x hx).1) hplt
  have hsolid:as.all AV.solid=true:=Kp.2 fun x hx=>by
   have h1:=(hwidth x hx).2
   cases x<;>first | rfl | (simp [AV.cells,AV.one] at h1)
  obtain ⟨out,hout,hrel⟩:=q9o (fid:=fid) (M:=M) (H:=H) (φ:=φ) (fun i=>some (i * q0n P e,q0n P e)) parts.toList ((parts.toList.map (·.1)).map fun i=>(i * q0n P e,q0n P e)) as _ (madeCells zv.cells (len * q0n P e)) _ (qdF hnpos hzr hzl len) h hsolid (by simpa using hl)
   (fun i p q h1 h2=>by
    simp only[KH,h1,KM,Kq] at h2
    rw[←h2]) hov
  have hrun:(Instr.buildSlice t len parts).run P w = .ok (.slice (some ⟨w.heap.size,0,none⟩) len len) (w.alloc (.cells out e)):=by
   have hout':Instr.fill (fun i=>some (i * q0n P e,q0n P e)) ((Array.range (len * q0n P e)).map (zv.cells[· % zv.cells.size]!)) parts.toList=some out:=hout
   have hlim' : ¬ (16777216<len * q0n P e):=by simpa using hlim
   by_cases h0:len=0
   ·subst h0
    have hout2:Instr.fill (fun i=>some (i * q0n P e,q0n P e)) ((Array.range 0).map ((#[]:Array Value)[· % (#[]:Array Value).size]!)) parts.toList=some out:=by
     rw[←hout']
     simp only[Nat.zero_mul,Array.range_zero',Array.map_empty]
    simp only[Instr.buildSlice,Sem.run_bind,run_underlying ht,Result.andThen_ok,Go.sizeOf,typeInfo,hi,hsz,run_program,Sem.run_pure,Nat.zero_mul,newRow,run_newObj]
    simp only[show ¬ (0>2^24) by decide,if_false,if_true,Sem.run_pure,Result.andThen_ok,hout2,Sem.run_bind,run_newObj]
    rfl
   ·have h1 : ¬ (len * q0n P e>2^24):=by omega
    have h2 : ¬ (len * q0n P e=0):=Nat.mul_ne_zero h0 hn
    simp only[Instr.buildSlice,Sem.run_bind,run_underlying ht,Result.andThen_ok,Go.sizeOf,typeInfo,hi,hsz,run_program,Sem.run_pure,h1,h2,if_false,zeroValue,hzv,hout',newRow,run_newObj]
    rfl
  have hwide2 : ∀ x,x∈((parts.toList.map (·.1)).zip as).foldl (fun l x=>l.set x.1 x.2) (List.replicate len z)→x.cells.length=q0n P e∧x.cells.all AV.one=true:=by
   refine q5m (Q:=fun x=>x.cells.length=q0n P e∧x.cells.all AV.one=true) _ _ (fun x hx=>?_) (fun q hq=>hwidth _ (List.of_mem_zip hq).2)
   rw[(V5.1 hx).2]
   exact ⟨hzl,hz1⟩
  have hlen2:(((parts.toList.map (·.1)).zip as).foldl (fun l x=>l.set x.1 x.2) (List.replicate len z)).length=len:=by rw[q5z]; simp
  have hos:out.size=len * q0n P e:=by
   have:=hrel.1
   rw[q0P (fun x hx=>(hwide2 x hx).1),hlen2] at this
   simpa using this.symm
  cases len with
  | zero=>
   simp only[List.replicate,Kq,Vm] at hv
   obtain ⟨rfl,rfl⟩:=hv
   refine ⟨_,_,φ,hrun,?_,?_,.snil _ _,q3F hB _⟩
   ·exact (hH.placeGone p).world (fun b hb=>q12 _ b hb)
   ·have:=p.le (φ:=φ) (L:=φ id) (.inr trivial)
    have e:q0Q φ id (φ id)=φ:=by funext r; simp [q0Q]; intro h; rw[h]
    rw[e] at this
    exact this
  | succ len=>
   simp only[List.replicate,Kq,Vm] at hv
   obtain ⟨rfl,rfl⟩:=hv
   refine ⟨_,_,q0Q φ id ⟨w.heap.size,0,out.size⟩,hrun,?_,p.le (.inr trivial),?_,q3F hB _⟩
   ·refine hH.placeRow (fun b hb=>q12 _ b hb) hB (q1x _) (fun o ho h=>by simp at h) p hnpos ?_ (fun q y hy=>?_) hwide2 (fun hfl=>?_)
    ·rw[hos]
     exact Nat.le_of_eq (by rw[show (z::List.replicate len z)=List.replicate (len+1) z from rfl,hlen2])
    ·obtain ⟨u,h1,h2⟩:=q1i hrel hy
     exact ⟨u,by simpa using h1,h2⟩
    ·refine q5m (Q:=fun x=>x.isPure=true) _ (List.replicate (len+1) z) (fun x hx=>?_) (fun q hq=>(Bool.and_eq_true_iff.1 (Kp.1 hfl _ (List.of_mem_zip hq).2)).1)
     rw[(V5.1 hx).2]
     exact hzp
   ·rw[show (z::List.replicate len z).length=len+1 by simp]
    refine q8u (L:=⟨w.heap.size,0,out.size⟩) (len:=len+1) (cap:=len+1) p (Kr _) ?_ rfl (by show _≤out.size; rw[hos]; exact Kr _)
    have:=hlen2
    rw[show (z::List.replicate len z)=List.replicate (len+1) z from rfl,hlen2]
    exact Kr _
 ·cases hv

theorem qkL {t e:TypeId} {L C:Value} {z:AV} {id:Nat} {b:Blk} (hH:HRel fid M H φ B w) (hB:B≤w.heap.size) (ht:P.underlying t=some (.slice e)) (hn:q0n P e≠0)
  (hz:q2z P e=some z) (h:VRels fid M H φ as [L,C]) (hv:q7n (q0n P e) (q3d P e) z id as=some (v,b)):MadeOk P fid M H φ B w (Instr.makeSlice t L C) v b id:=by
 intro H' p
 unfold q7n at hv
 split at hv
 ·rename_i kl l kc c
  have h1:=h.head
  have h2:=h.tail.head
  cases h1
  cases h2
  split at hv
  ·rename_i hc
   obtain ⟨h0,hlc,hbytes,hcl⟩:=hc
   obtain ⟨i,zv,hi,hzv,hzr,hzl,hz1,hzp⟩:=q6Z (fid:=fid) (M:=M) (H:=H) (φ:=φ) hz
   obtain ⟨i',hi',hsz⟩:=q3Y hn
   rw[hi] at hi'
   cases hi'
   have hnpos:0<q0n P e:=V6 hn
   have hb:i.bytes=q3d P e:=by simp [q3d,hi]
   have hcl':c≤2147483648:=by simpa [lim] using hcl
   have hrun:=run_make (P:=P) w t e i zv ht hi hzv kl kc l c h0 hlc (by rw[hb,Int.mul_comm]; exact Int.le_trans hbytes (by decide)) (by omega)
   rw[hsz] at hrun
   have hrc:=qdF hnpos hzr hzl c.toNat
   split at hv
   ·rename_i hc0
    simp only[Kq,Vm] at hv
    obtain ⟨rfl,rfl⟩:=hv
    have hl0:l.toNat=0:=by omega
    have hcc:c.toNat=0:=by omega
    rw[hl0,hcc] at hrun
    refine ⟨_,_,φ,hrun,?_,?_,.snil _ _,q3F hB _⟩
    ·exact (hH.placeGone p).world (fun b hb=>q12 _ b hb)
    ·have:=p.le (φ:=φ) (L:=φ id) (.inr trivial)
     have e:q0Q φ id (φ id)=φ:=by funext r; simp [q0Q]; intro h; rw[h]
     rw[e] at this
     exact this
   ·simp only[Kq,Vm] at hv
    obtain ⟨rfl,rfl⟩:=hv
    have hwide2 : ∀ x,x∈List.replicate c.toNat z→x.cells.length=q0n P e∧x.cells.all AV.one=true:=fun x hx=>by rw[(V5.1 hx).2]; exact ⟨hzl,hz1⟩
    have hos:(madeCells zv.cells (c.toNat * q0n P e)).size=c.toNat * q0n P e:=size_madeCells _ _
    refine ⟨_,_,q0Q φ id ⟨w.heap.size,0,(madeCells zv.cells (c.toNat * q0n P e)).size⟩,hrun,?_,p.le (.inr trivial),?_,q3F hB _⟩
    ·refine hH.placeRow (fun b hb=>q12 _ b hb) hB (q1x _) (fun o ho h=>by simp at h) p hnpos (by simp [hos]) (fun q y hy=>?_) hwide2 (fun _ x hx=>by rw[(V5.1 hx).2]; exact hzp)
     obtain ⟨u,h1,h2⟩:=q1i hrc hy
     exact ⟨u,by simpa using h1,h2⟩
    ·exact q8u (L:=⟨w.heap.size,0,(madeCells zv.cells (c.toNat * q0n P e)).size⟩) p (by omega) (by simp; omega) rfl (by simp [hos])
  ·cases hv
 ·cases hv
end
end Ago
namespace Ago
open Go

theorem q7x {r fam from_:Nat} : ∀ (H:Heap) (j:Nat) (H1:Heap),q0D r fam from_ H j=some H1→H1.length=H.length∧∀ i b,H[i]?=some b →
  (H1[i]?=some b∧∀ n els ro fl,b = .row n els ro fl fam→i+j=r∨els.length<from_)∨(H1[i]?=some .gone∧i+j≠r∧∃ n els fl,b = .row n els false fl fam)
 | [],_,H1,h=>by cases h; exact ⟨rfl,fun i b hb=>by cases hb⟩
 | b::bs,j,H1,h=>by
  simp only[q0D] at h
  cases hg:q0D r fam from_ bs (j+1) with
  | none=>simp [hg] at h
  | some bs'=>
   obtain ⟨hl,ih⟩:=q7x bs (j+1) bs' hg
   simp only[hg] at h
   have tailcase : ∀ (x:Blk) (i:Nat) (c:Blk),(b::bs)[i+1]?=some c→((x::bs')[i+1]?=some c∧∀ n els ro fl,c = .row n els ro fl fam→(i+1)+j=r∨els.length<from_)∨((x::bs')[i+1]?=some .gone∧(i+1)+j≠r∧∃ n els fl,c = .row n els false fl fam):=by
    intro x i c hc
    have e:i+1+j=i+(j+1):=by omega
    rw[e]
    simp only[KY] at hc ⊢
    exact ih i c hc
   have same : ∀ (H2:Heap),some (b::bs')=some H2→(∀ n els ro fl,b = .row n els ro fl fam→j=r∨els.length<from_)→H2.length=(b::bs).length∧∀ i c,(b::bs)[i]?=some c →
     (H2[i]?=some c∧∀ n els ro fl,c = .row n els ro fl fam→i+j=r∨els.length<from_)∨(H2[i]?=some .gone∧i+j≠r∧∃ n els fl,c = .row n els false fl fam):=by
    intro H2 he hb
    cases he
    refine ⟨by simp [hl],fun i c hc=>?_⟩
    cases i with
    | zero=>
     simp only[KZ,Kq] at hc
     subst hc
     refine .inl ⟨rfl,fun n els ro fl he=>?_⟩
     rw[KS]
     exact hb n els ro fl he
    | succ i=>exact tailcase b i c hc
   cases b with
   | row n els ro fl fam'=>
    simp only at h
    split at h
    ·rename_i hc
     obtain ⟨rfl,hj,hfrom⟩:=hc
     split at h
     ·cases h
     ·rename_i hro
      have hro':ro=false:=by simpa using hro
      subst hro'
      simp only[Kq] at h
      subst h
      refine ⟨by simp [hl],fun i c hc=>?_⟩
      cases i with
      | zero=>
       simp only[KZ,Kq] at hc
       subst hc
       exact .inr ⟨rfl,by omega,n,els,fl,rfl⟩
      | succ i=>exact tailcase .gone i c hc
    ·rename_i hc
     refine same _ h fun n' els' ro' fl' he=>?_
     cases he
     simp only[true_and,not_and,Nat.not_le] at hc
     by_cases hj:j=r
     ·exact .inl hj
     ·exact .inr (hc hj)
   | gone=>exact same _ h fun _ _ _ _ he=>by cases he
   | resv=>exact same _ h fun _ _ _ _ he=>by cases he
   | map es=>exact same _ h fun _ _ _ _ he=>by cases he
   | iter s p=>exact same _ h fun _ _ _ _ he=>by cases he

theorem q2X {H H1:Heap} {r fam from_:Nat} (h:H.strike r fam from_=some H1):H1.length=H.length∧∀ i b,H[i]?=some b →
  (H1[i]?=some b∧∀ n els ro fl,b = .row n els ro fl fam→i=r∨els.length<from_)∨(H1[i]?=some .gone∧i≠r∧∃ n els fl,b = .row n els false fl fam):=
 q7x H 0 H1 h

theorem q2Q {H H1:Heap} {r fam from_:Nat} (h:H.strike r fam from_=some H1) {i:Nat} {b:Blk} (hb:H1[i]?=some b):b = .gone∨(H[i]?=some b∧∀ n els ro fl,b = .row n els ro fl fam→i=r∨els.length<from_):=by
 obtain ⟨hl,hs⟩:=q2X h
 have hlt:=q0f hb
 rw[hl] at hlt
 rcases hs i H[i] (Ki hlt) with ⟨h1,h2⟩ | ⟨h1,_⟩
 ·rw[hb] at h1
  have e:=K7 h1
  rw[e]
  exact .inr ⟨Ki hlt,h2⟩
 ·rw[hb] at h1
  exact .inl (K7 h1)

section
variable {P:Program} {fid:FuncId→Option Nat} {pf:Nat→Bool} {M:Mem} {H H':Heap} {φ φ':Nat→Loc} {B:Nat} {w w':World} {as:List AV} {v:AV}

theorem HRel.step {id n:Nat} {els:List AV} {ro fl:Bool} {fam:Nat} {L:Loc} (hH:HRel fid M H φ B w) (hle:HLe H.length H H' φ φ')
  (hother : ∀ r b,r≠id→H'[r]?=some b→b = .gone∨b = .resv∨(H[r]?=some b∧φ' r=φ r)) (hid:H'[id]?=some (.row n els ro fl fam)) (hφ:φ' id=L)
  (hkeep : ∀ r n els fl fam,H[r]?=some (.row n els true fl fam)→r≠id∧H'[r]?=H[r]?)
  (hrows : ∀ r n' els' ro' fl' fam',r≠id→H'[r]?=some (.row n' els' ro' fl' fam')→H[r]?=some (.row n' els' ro' fl' fam')→RowAt fid M H φ B w' (φ r) r n' els' fl' fam')
  (hmaps : ∀ r es,H[r]?=some (.map es)→MapAt fid M H φ B w' (φ r) es)
  (hmem : ∀ b o v,M b o=some v→w'.cell? ⟨b,o,none⟩=some v)
  (hnew:RowAt fid M H φ B w' L id n els fl fam)
  (hsep : ∀ r n' els' ro' fl' fam',r≠id→H'[r]?=some (.row n' els' ro' fl' fam')→H[r]?=some (.row n' els' ro' fl' fam')→(φ r).blk=L.blk→fam'=fam∧n'=n∧(φ r).off=L.off)
  (hown : ∀ o v,M L.blk o=some v→∃ r2 els2 fl2,H[r2]?=some (.row n els2 true fl2 fam)∧(φ r2).blk=L.blk∧o<L.off+els2.length * n)
  (hwb : ∀ k,k<w.heap.size→(∀ r n els ro fl fam,H[r]?=some (.row n els ro fl fam)→(φ r).blk≠k)→w'.heap[k]?=w.heap[k]?) (hLb:(∃ r n els ro fl fam,H[r]?=some (.row n els ro fl fam)∧(φ r).blk=L.blk)∨w.heap.size≤L.blk):HRel fid M H' φ' B w':=by
 have old : ∀ r n' els' ro' fl' fam',r≠id→H'[r]?=some (.row n' els' ro' fl' fam')→H[r]?=some (.row n' els' ro' fl' fam')∧φ' r=φ r:=fun r n' els' ro' fl' fam' hne hr=>by
  rcases hother r _ hne hr with h | h | h
  ·cases h
  ·cases h
  ·exact h
 have oldm : ∀ r es,H'[r]?=some (.map es)→H[r]?=some (.map es)∧φ' r=φ r:=fun r es hr=>by
  by_cases hne:r=id
  ·subst hne; rw[hid] at hr; cases hr
  ·rcases hother r _ hne hr with h | h | h
   ·cases h
   ·cases h
   ·exact h
 have keep : ∀ r n els fl fam,H[r]?=some (.row n els true fl fam)→H'[r]?=some (.row n els true fl fam)∧φ' r=φ r:=fun r n els fl fam hr=>by
  obtain ⟨h1,h2⟩:=hkeep r n els fl fam hr
  have h3:H'[r]?=some (.row n els true fl fam):=by rw[h2,hr]
  exact ⟨h3,(old r _ _ _ _ _ h1 h3).2⟩
 refine ⟨hmem,fun r n' els' ro' fl' fam' hr=>?_,fun r es hr=>?_,fun r r' n1 e1 o1 f1 a1 n2 e2 o2 f2 a2 hne h1 h2 hb=>?_,fun r r' es es' hne h1 h2=>?_,fun r n' els' ro' fl' fam' hr o u hm=>?_,fun r es hr o=>?_,hH.bl.keep _root_.id (fun r s q hr=>?_) (fun _ _ _ _ _ _ _ _ e=>e) (fun r n' els' ro' fl' fam' hr=>?_) (fun _ _ v hm=>.inl ⟨v,hm⟩) fun r s q k hr hk=>hwb k ((hH.bl.at_ _ _ _ hr).feet hk).2.1 fun r' n0 els0 ro0 fl0 fam0 hr' e=>hH.bl.rows _ _ _ _ _ _ _ _ _ hr hr' (by rw[e]; exact hk)⟩
 ·by_cases hne:r=id
  ·subst hne
   rw[hid] at hr
   cases hr
   rw[hφ]
   exact hnew.mono (fun _ _ _ h=>h) hle rfl
  ·obtain ⟨h1,h2⟩:=old r _ _ _ _ _ hne hr
   rw[h2]
   exact (hrows r _ _ _ _ _ hne hr h1).mono (fun _ _ _ h=>h) hle rfl
 ·obtain ⟨h1,h2⟩:=oldm r es hr
  rw[h2]
  exact (hmaps r es h1).mono (fun _ _ _ h=>h) hle rfl
 ·by_cases hi:r=id
  ·subst hi
   rw[hid] at h1
   cases h1
   have hne':r'≠r:=fun e=>hne e.symm
   obtain ⟨h3,h4⟩:=old r' _ _ _ _ _ hne' h2
   rw[hφ,h4] at hb ⊢
   obtain ⟨a,b,c⟩:=hsep r' _ _ _ _ _ hne' h2 h3 hb.symm
   exact ⟨a.symm,b.symm,c.symm⟩
  ·by_cases hi':r'=id
   ·subst hi'
    rw[hid] at h2
    cases h2
    obtain ⟨h3,h4⟩:=old r _ _ _ _ _ hi h1
    rw[hφ,h4] at hb ⊢
    exact hsep r _ _ _ _ _ hi h1 h3 hb
   ·obtain ⟨h3,h4⟩:=old r _ _ _ _ _ hi h1
    obtain ⟨h5,h6⟩:=old r' _ _ _ _ _ hi' h2
    rw[h4,h6] at hb ⊢
    exact hH.sepRR r r' _ _ _ _ _ _ _ _ _ _ hne h3 h5 hb
 ·obtain ⟨h3,h4⟩:=oldm r es h1
  obtain ⟨h5,h6⟩:=oldm r' es' h2
  rw[h4,h6]
  exact hH.sepMM r r' _ _ hne h3 h5
 ·by_cases hi:r=id
  ·subst hi
   rw[hid] at hr
   cases hr
   rw[hφ] at hm ⊢
   obtain ⟨r2,els2,fl2,h1,h2,h3⟩:=hown o u hm
   obtain ⟨h4,h5⟩:=keep _ _ _ _ _ h1
   exact ⟨r2,els2,fl2,h4,by rw[h5]; exact h2,h3⟩
  ·obtain ⟨h3,h4⟩:=old r _ _ _ _ _ hi hr
   rw[h4] at hm ⊢
   obtain ⟨r2,els2,fl2,h1,h2,h3'⟩:=hH.ownR _ _ _ _ _ _ h3 o u hm
   obtain ⟨h5,h6⟩:=keep _ _ _ _ _ h1
   exact ⟨r2,els2,fl2,h5,by rw[h6]; exact h2,h3'⟩
 ·obtain ⟨h3,h4⟩:=oldm r es hr
  rw[h4]
  exact hH.ownM r es h3 o
 ·by_cases hne:r=id
  ·subst hne; rw[hid] at hr; cases hr
  ·rcases hother r _ hne hr with h | h | h
   ·cases h
   ·cases h
   ·exact h
 ·by_cases hne:r=id
  ·subst hne
   rw[hφ]
   rcases hLb with ⟨r0,n0,els0,ro0,fl0,fam0,h1,h2⟩ | h1
   ·exact .inl ⟨r0,_,_,_,_,_,h1,h2.symm⟩
   ·exact .inr h1
  ·obtain ⟨h1,h2⟩:=old r _ _ _ _ _ hne hr
   exact .inl ⟨r,_,_,_,_,_,h1,by rw[h2]⟩


theorem q5v (b:Nat) (t:TypeId) (fr:Nat × Nat) : ∀ (vs:List Value) (o:Nat) (w:World) (c:Array Value),w.heap[b]?=some (.cells c t fr)→o+vs.length≤c.size →
  ∃ c',(w.setCells b o vs).heap[b]?=some (.cells c' t fr)∧c'.size=c.size∧(∀ q,q<o∨o+vs.length≤q→c'[q]?=c[q]?)∧∀ j,j<vs.length→c'[o+j]?=vs[j]?
 | [],o,w,c,h,_=>⟨c,h,rfl,fun _ _=>rfl,fun j hj=>by simp at hj⟩
 | v::vs,o,w,c,h,hl=>by
  have h1:(w.setCell ⟨b,o,none⟩ v).heap[b]?=some (.cells (c.setIfInBounds o v) t fr):=by
   show (w.heap.modify b _)[b]?=_
   obtain ⟨hlt,hk⟩:=VD.1 h
   rw[KU (by rw[Array.size_modify]; exact hlt),Array.getElem_modify_self,hk]
   rfl
  simp only[List.length_cons] at hl
  obtain ⟨c',h2,h3,h4,h5⟩:=q5v b t fr vs (o+1) _ _ h1 (by simp; omega)
  refine ⟨c',h2,by simpa using h3,fun q hq=>?_,fun j hj=>?_⟩
  ·simp only[List.length_cons] at hq
   rw[h4 q (by omega),Array.getElem?_setIfInBounds_ne (by omega)]
  ·cases j with
   | zero=>
    rw[Vs,h4 o (by omega)]
    simp only[KZ]
    rw[Array.getElem?_setIfInBounds_self_of_lt (by omega)]
   | succ j=>
    have:=h5 j (by simpa using hj)
    rw[show o+(j+1)=o+1+j by omega,this]
    rfl

theorem q26 (b:Nat) : ∀ (vs:List Value) (o:Nat) (w:World) (k:Nat),k≠b→(w.setCells b o vs).heap[k]?=w.heap[k]?
 | [],_,_,_,_=>rfl
 | v::vs,o,w,k,h=>by
  rw[World.setCells,q26 b vs (o+1) _ k h]
  exact RowKit.Below.heap_setCell w ⟨b,o,none⟩ v k h

theorem q2c {b:Nat} (hb:B≤b) : ∀ (vs:List Value) (o:Nat) {w0 w:World},RowKit.Below B w0 w→RowKit.Below B w0 (w.setCells b o vs)
 | [],_,_,_,h=>h
 | v::vs,o,w0,w,h=>q2c hb vs (o+1) (h.setCell (p:=⟨b,o,none⟩) hb v)

structure Wrote (fid:FuncId→Option Nat) (M:Mem) (H H1:Heap) (φ:Nat→Loc) (B:Nat) (w w':World) (r p:Nat) (vs:List Value) (keepR:Prop):Prop where
 mem : ∀ b o v,M b o=some v→w'.cell? ⟨b,o,none⟩=some v
 rows : ∀ r' n' els' ro' fl' fam',(r'≠r∨keepR)→H1[r']?=some (.row n' els' ro' fl' fam')→RowAt fid M H φ B w' (φ r') r' n' els' fl' fam'
 maps : ∀ r' es,H[r']?=some (.map es)→MapAt fid M H φ B w' (φ r') es
 blk : ∀ c t fr,w.heap[(φ r).blk]?=some (.cells c t fr)→∃ c',w'.heap[(φ r).blk]?=some (.cells c' t fr)∧c'.size=c.size∧(∀ q,q<(φ r).off+p∨(φ r).off+p+vs.length≤q→c'[q]?=c[q]?)∧∀ j,j<vs.length→c'[(φ r).off+p+j]?=vs[j]?
 below:RowKit.Below B w w'
 others : ∀ k,k≠(φ r).blk→w'.heap[k]?=w.heap[k]?

theorem HRel.write {r n:Nat} {els:List AV} {ro fl:Bool} {fam from_ p:Nat} {vs:List Value} {H1:Heap} {x:Nat} (hH:HRel fid M H φ B w) (hr:H[r]?=some (.row n els ro fl fam)) (hs:H.strike x fam from_=some H1) (hx:x=r∨H.length≤x)
  (hro:ro=false∨els.length * n≤p) (hp:(from_-1) * n≤p) (hfit:(φ r).off+p+vs.length≤(φ r).size) :
  Wrote fid M H H1 φ B w (w.setCells (φ r).blk ((φ r).off+p) vs) r p vs (els.length * n≤p):=by
 have R:=hH.row _ _ _ _ _ _ hr
 obtain ⟨c,t,fr,hc,hsz,hfz,hcell⟩:=R.cells
 have hlenp : ∀ k,k<from_→k * n≤p:=fun k hk=>Vc (Vh n (by omega)) hp
 -- a row of H1 in this block ends ahead of p
 have ends : ∀ r' n' els' ro' fl' fam',(r'≠r∨els.length * n≤p)→H1[r']?=some (.row n' els' ro' fl' fam')→(φ r').blk=(φ r).blk→n'=n∧(φ r').off=(φ r).off∧els'.length * n≤p:=by
  intro r' n' els' ro' fl' fam' hne hr' hb
  rcases q2Q hs hr' with h | ⟨h1,h2⟩
  ·cases h
  ·by_cases he:r'=r
   ·subst he
    rw[hr] at h1
    cases h1
    rcases hne with h | h
    ·exact (h rfl).elim
    ·exact ⟨rfl,rfl,h⟩
   ·obtain ⟨h3,h4,h5⟩:=hH.sepRR r' r _ _ _ _ _ _ _ _ _ _ he h1 hr hb
    subst h3
    subst h4
    rcases h2 _ _ _ _ rfl with h | h
    ·rcases hx with hx | hx
     ·exact (he (h.trans hx)).elim
     ·have:=q0f h1
      omega
    ·exact ⟨rfl,h5,hlenp _ h⟩
 have hown : ∀ o u,M (φ r).blk o=some u→o<(φ r).off+p:=by
  intro o u hm
  obtain ⟨r2,els2,fl2,h1,h2,h3⟩:=hH.ownR _ _ _ _ _ _ hr o u hm
  by_cases he:r2=r
  ·subst he
   rw[hr] at h1
   cases h1
   rcases hro with h | h
   ·cases h
   ·omega
  ·obtain ⟨_,hspec⟩:=q2X hs
   rcases hspec r2 _ h1 with ⟨h4,h5⟩ | ⟨_,_,_,_,_,h4⟩
   ·have:=(ends r2 _ _ _ _ _ (.inl he) h4 h2).2.2
    omega
   ·cases h4
 obtain ⟨c',hc',hsz',hout,hin⟩:=q5v (φ r).blk t fr vs ((φ r).off+p) w c hc (by rw[hsz]; exact hfit)
 refine ⟨fun b o u hm=>?_,fun r' n' els' ro' fl' fam' hne hr'=>?_,fun r' es hr'=>?_,fun c0 t0 fr0 h0=>?_,q2c R.base vs _ (RowKit.Below.refl _ _),fun k hk=>q26 _ _ _ _ _ hk⟩
 ·by_cases hb:b=(φ r).blk
  ·subst hb
   have:=hown o u hm
   rw[cell_of_heap hc',hout o (.inl this),←cell_of_heap hc]
   exact hH.mem _ _ _ hm
  ·rw[World.cell?_of_block (w:=w) (q26 _ _ _ _ _ hb)]
   exact hH.mem _ _ _ hm
 ·have h1:H[r']?=some (.row n' els' ro' fl' fam'):=by
   rcases q2Q hs hr' with h | ⟨h1,_⟩
   ·cases h
   ·exact h1
  have R':=hH.row _ _ _ _ _ _ h1
  by_cases hb:(φ r').blk=(φ r).blk
  ·obtain ⟨hn,ho,hle⟩:=ends r' _ _ _ _ _ hne hr' hb
   subst hn
   obtain ⟨d,t',fr',hd,hsd,hfd,hcd⟩:=R'.cells
   have e:=hd
   rw[hb,hc] at e
   simp only[Kq,Obj.cells.injEq] at e
   obtain ⟨rfl,rfl,rfl⟩:=e
   refine ⟨R'.base,R'.pos,R'.fits,⟨c',t,fr,by rw[hb]; exact hc',by rw[hsz']; exact hsd,hfd,fun i y j z hy hz=>?_⟩,R'.wide,R'.flat⟩
   obtain ⟨u,h2,h3⟩:=hcd i y j z hy hz
   refine ⟨u,?_,h3⟩
   rw[hout _ (.inl ?_)]
   ·exact h2
   ·have hi:=q0f hy
    have hj:j<n':=by have:=q0f hz; rw[(R'.wide y (Kc hy)).1] at this; exact this
    have:=Vh n' (Nat.succ_le_of_lt hi)
    rw[Nat.succ_mul] at this
    omega
  ·exact R'.mono (fun _ _ _ h=>h) (HLe.refl _ _ _) (q26 _ _ _ _ _ hb)
 ·have Mp:=hH.map _ _ hr'
  obtain ⟨ces,clock,h1,_⟩:=Mp.ents
  refine Mp.mono (fun _ _ _ h=>h) (HLe.refl _ _ _) (q26 _ _ _ _ _ fun hb=>?_)
  rw[hb,hc] at h1
  cases h1
 ·rw[hc] at h0
  simp only[Kq,Obj.cells.injEq] at h0
  obtain ⟨rfl,rfl,rfl⟩:=h0
  exact ⟨c',hc',hsz',hout,hin⟩
end
end Ago
