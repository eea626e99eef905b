/- A machine that takes sorts as they are: on a row of trees of one cell each,under a comparison that the machine computes and that tells every two elements apart. -/
import Derived.Test.YtglenpfcanlbgaaGreatDoorPMachE
import Derived.Test.YtglenpfcanlbgaaGreatDoorPMachD
import Derived.Shelf.SlSortCmp.NoneTotal
import Derived.Test.YtglenpfcanlbgaaGreatDoorPMachG
import Derived.Shelf.Small.Strs
import Derived.Shelf.SortM.Plain
import Derived.Shelf.SortM.SortNone
set_option linter.unusedSimpArgs false
set_option linter.unusedVariables false
namespace Ago

structure OrdOn (c:AV→AV→Int) (els:List AV):Prop where
 irrefl : ∀ x,x∈els→¬ c x x<0
 trans : ∀ x y z,x∈els→y∈els→z∈els→c x y<0→c y z<0→c x z<0
 total : ∀ x y,x∈els→y∈els→¬ c x y<0→¬ c y x<0→x=y

theorem bs_mono {C C':Ctx} (h1:C'.code=C.code) (h2 : ∀ f a H v H',C.prim f a H v H'→C'.prim f a H v H') (h3 : ∀ f t v,C.pprim f t v→C'.pprim f t v) {j:J} (h:BS C j):BS C' j:=by
 induction h with
 | prim h=>exact .prim (h2 _ _ _ _ _ h)
 | pprim h=>exact .pprim (h3 _ _ _ h)
 | nil s=>exact .nil s
 | pass hw _ ih=>exact .pass hw ih
 | pure hw ho hv _ ih=>exact .pure hw ho hv ih
 | read hw ho hv _ ih=>exact .read hw ho hv ih
 | new hw ho hv _ ih=>exact .new hw ho hv ih
 | newAt hw ho hv hf _ ih=>exact .newAt hw ho hv hf ih
 | eff hw ho hv _ ih=>exact .eff hw ho hv ih
 | call hw ho _ _ ihv ih=>exact .call hw ho ihv ih
 | pcall hw ho ha _ _ ihr ih=>exact .pcall hw ho ha ihr ih
 | callv hw ho ha _ _ ihv ih=>exact .callv hw ho ha ihv ih
 | skip s=>exact .skip s
 | ops _ ih=>exact .ops ih
 | draw hne _ ih=>exact .draw hne ih
 | seq _ _ ih1 ih2=>exact .seq ih1 ih2
 | seqE _ he ih=>exact .seqE ih he
 | condT hx _ ih=>exact .condT hx ih
 | condF hx _ ih=>exact .condF hx ih
 | block _ ih=>exact .block ih
 | scope _ ih=>exact .scope ih
 | loop _ _ ih1 ih2=>exact .loop ih1 ih2
 | loopE _ he ih=>exact .loopE ih he
 | exit id s=>exact .exit id s
 | ret s=>exact .ret s
 | run hf _ he hr ih=>exact .run (by rw[h1]; exact hf) ih he hr
 | prun hf _ he hr hv ih=>exact .prun (by rw[h1]; exact hf) ih he hr hv

end Ago
namespace Ago
open Go Go.Proofs Go.Sort Go.Shelf

theorem setCells_eq (b:Nat) : ∀ (vs:List Value) (o:Nat) (w:World),w.setCells b o vs=mapBlock w b fun c=>c.mapIdx fun k x=>if o≤k∧k<o+vs.length then (vs[k-o]?).getD x else x
 | [],o,w=>by
  symm
  refine mapBlock_id w b _ fun c e fr _=>?_
  apply Array.ext_getElem?
  intro k
  rw[Array.getElem?_mapIdx]
  cases c[k]? with
  | none=>rfl
  | some y=>
   rw[Option.map_some,if_neg (by simp only[List.length_nil]; omega)]
 | v::vs,o,w=>by
  rw[World.setCells,setCells_eq b vs (o+1),setCell_eq,mapBlock_mapBlock]
  refine mapBlock_congr _ _ _ _ fun c _ _ _=>?_
  apply Array.ext_getElem?
  intro k
  rw[Array.getElem?_mapIdx,Array.getElem?_mapIdx,Array.getElem?_setIfInBounds]
  by_cases hk:o=k
  ·subst hk
   rw[if_pos rfl]
   by_cases hc:o<c.size
   ·rw[if_pos hc,Array.getElem?_eq_getElem hc,Option.map_some,Option.map_some,if_neg (by omega),if_pos (by simp)]
    simp
   ·rw[if_neg hc,Array.getElem?_eq_none (by omega)]
    rfl
  ·rw[if_neg hk]
   cases c[k]? with
   | none=>rfl
   | some y=>
    rw[Option.map_some,Option.map_some]
    by_cases h1:o+1≤k∧k<o+1+vs.length
    ·rw[if_pos h1,if_pos (by simp only[List.length_cons]; omega),show k-o=(k-(o+1))+1 by omega,List.getElem?_cons_succ]
    ·rw[if_neg h1,if_neg (by simp only[List.length_cons]; omega)]

theorem putRow_cells {α:Type} [Inhabited α] (enc:α→Value) (w:World) (blk off:Nat) (d:Array α):putRow enc w blk off d=w.setCells blk off (d.toList.map enc):=by
 rw[setCells_eq]
 unfold putRow
 refine mapBlock_congr _ _ _ _ fun c _ _ _=>?_
 apply Array.ext_getElem?
 intro k
 unfold putCells
 rw[Array.getElem?_mapIdx,Array.getElem?_mapIdx]
 cases c[k]? with
 | none=>rfl
 | some y=>
  rw[Option.map_some,Option.map_some]
  by_cases h:off≤k∧k<off+d.size
  ·rw[if_pos h,if_pos (by simpa using h)]
   have hk:k-off<d.size:=by omega
   rw[List.getElem?_map,Array.getElem?_toList,Array.getElem?_eq_getElem hk,Option.map_some,Option.getD_some,getElem!_pos d _ hk]
  ·rw[if_neg h,if_neg (by simpa using h)]

theorem sortWorld_heap {α:Type} [Inhabited α] (enc:α→Value) (w:World) (blk off m:Nat) (dk:Array α) (os:Array Obj) {b:Nat} (hb:b<w.heap.size):(sortWorld enc w blk off m dk os).heap[b]?=(w.setCells blk off (dk.toList.map enc)).heap[b]?:=by
 rw[←putRow_cells]
 show ((putRow enc (Sort.ahead w m) blk off dk).heap++os)[b]?=_
 have:b<(putRow enc (Sort.ahead w m) blk off dk).heap.size:=by rw[Go.Sort.size_putRow]; exact hb
 rw[Array.getElem?_append_left this]
 rfl

section
variable {P:Program} {fid:FuncId→Option Nat} {pf:Nat→Bool}

end

end Ago
namespace Ago
open Go Go.Proofs Go.Shelf
section
variable {P:Program} {fid:FuncId→Option Nat} {pf:Nat→Bool}
def CmpAt (P:Program) (fid:FuncId→Option Nat) (f:Nat):Prop:=∀ g,fid g=some f→∃ ρ,Lays.n213 P ρ∧ρ.f 213=g
theorem cmp_sim {f:Nat} (h:CmpAt P fid f) (a b:List UInt8):SimPure P fid f [.str a,.str b] (.int .i64 (Lib.compareBytes a b)):=by
 intro g hg M φ us w hargs hM
 obtain ⟨ρ,L,rfl⟩:=h g hg
 obtain ⟨u0,u1,rfl⟩ : ∃ u0 u1,us = #[u0,u1]:=by
  have h1:=hargs.1
  simp at h1
  obtain ⟨l⟩:=us
  match l,h1 with
  | [a,b],_=>exact ⟨a,b,rfl⟩
 have h0:VRel fid M [] φ (.str a) u0:=hargs.head
 have h1:VRel fid M [] φ (.str b) u1:=hargs.tail.head
 cases h0 with
 | str s _ hs=>
  cases h1 with
  | str t _ ht=>
   refine (Any.bytealg_CompareString L s t w).mono fun e w' he=>?_
   obtain ⟨rfl,rfl⟩:=he
   rw[hs,ht]
   exact ⟨_,rfl,M,.int _ _,fun _ _ _ h=>h,fun _ _ _ h _=>h,hM,Bel.refl _ _⟩
end
end Ago
namespace Ago
open Go Go.Proofs Go.Sort Go.Shelf

def runesGo (s:ByteArray):Nat→Nat→Nat
 | 0,_=>0
 | k+1,pos=>if pos<s.size then 1+runesGo s k (pos+(Utf8.decode s pos).2) else 0
def runes (s:List UInt8):Nat:=runesGo ⟨s.toArray⟩ s.length 0

def sortS (ss:List (List UInt8)):List (List UInt8):=ss.mergeSort fun x y=>decide (x≤y)

def ssortOk (args:List AV) (H:Heap) (v:AV) (H':Heap):Prop:=
 v = .tup []∧((∃ n,args=[.snil n]∧H'=H) ∨
  ∃ r fam H1,∃ ss:List (List UInt8),args=[.sref 1 r 0 ss.length]∧ss≠[]∧ss.length≤lim∧H[r]?=some (.row 1 (ss.map .str) false true fam)∧H.strike r fam 0=some H1∧H'=H1.set r (.row 1 ((sortS ss).map .str) false true fam))

def extCtx (C:Ctx) (cs ln ss:Nat→Bool):Ctx where
 code:=C.code
 prim f args H v H':=C.prim f args H v H'∨(ss f=true∧ssortOk args H v H')
 pprim f ts v:=C.pprim f ts v∨(cs f=true∧∃ a b,ts=[.str a,.str b]∧v = .int .i64 (Lib.compareBytes a b))∨(ln f=true∧∃ s,ts=[.str s]∧s.length≤lim∧v = .int .i64 (runes s:Nat))

theorem extCtx_up {C:Ctx} {cs ln ss:Nat→Bool} {f:Nat} {ts:List AV} {v:AV} (h:PRun C f ts v):PRun (extCtx C cs ln ss) f ts v:=bs_mono (C:=C) (C':=extCtx C cs ln ss) rfl (fun _ _ _ _ _ h=>Or.inl h) (fun _ _ _ h=>Or.inl h) h
theorem fits_ext {C:Ctx} {cs ln ss:Nat→Bool} {code:Nat→Option AFn} {clR clP:Nat→Option (Nat × Nat)} (h:Fits C code clR clP):Fits (extCtx C cs ln ss) code clR clP:=
 ⟨h.code,fun f p x H v H' h1 h2=>Or.inl (h.prim f p x H v H' h1 h2),fun f p l h1 h2 h3=>Or.inl (h.pprim f p l h1 h2 h3)⟩
section
variable {P:Program} {fid:FuncId→Option Nat} {pf:Nat→Bool} {ss:Nat→Bool}
def LenAt (P:Program) (fid:FuncId→Option Nat) (f:Nat):Prop:=∀ g,fid g=some f→∀ (s:ByteArray) (w:World),s.size≤lim→Calls P g #[.string s] w fun e w'=>e = .returned (.int .i64 (runes s.data.toList:Nat))∧Bel w.heap.size w w'
def SsortAt (P:Program) (fid:FuncId→Option Nat) (f:Nat):Prop:=∀ g,fid g=some f→∃ ρ,SlLaysM.n6 P ρ∧ρ.f 6=g

theorem len_sim {f:Nat} (h:LenAt P fid f) (s:List UInt8) (hl:s.length≤lim):SimPure P fid f [.str s] (.int .i64 (runes s:Nat)):=by
 intro g hg M φ us w hargs hM
 obtain ⟨u0,rfl⟩ : ∃ u0,us = #[u0]:=by
  have h1:=hargs.1
  simp at h1
  obtain ⟨l⟩:=us
  match l,h1 with
  | [a],_=>exact ⟨a,rfl⟩
 have h0:VRel fid M [] φ (.str s) u0:=hargs.head
 cases h0 with
 | str t _ hs=>
  have ht:t.size≤lim:=by
   rw[←hs] at hl
   simpa using hl
  refine (h g hg t w ht).mono fun e w' he=>?_
  obtain ⟨rfl,hb⟩:=he
  rw[hs]
  refine ⟨_,rfl,M,.int _ _,fun _ _ _ h=>h,fun _ _ _ h _=>h,fun b o u hm=>?_,hb⟩
  have h1:=hM b o u hm
  have h2:=World.block_lt_of_cell? w _ h1
  rw[←h1]
  exact RowKit.Below.cell hb.toBelow h2

theorem ssort_run (hS : ∀ f,ss f=true→SsortAt P fid f) {f:Nat} {args:List AV} {H H':Heap} {v:AV} (hf:ss f=true) (h:ssortOk args H v H'):SimRun P fid f args H v H':=by
 intro g hg M φ B us w hargs hH hB
 obtain ⟨rfl,h⟩:=h
 obtain ⟨ρ,L,rfl⟩:=hS f hf g hg
 obtain ⟨u0,rfl⟩ : ∃ u0,us = #[u0]:=by
  have h1:us.size=1:=by
   have h1:=hargs.1
   rcases h with ⟨n,rfl,_⟩ | ⟨r,fam,H1,ss,rfl,_⟩<;>simpa using h1.symm
  obtain ⟨l⟩:=us
  match l,h1 with
  | [a],_=>exact ⟨a,rfl⟩
 rcases h with ⟨n,rfl,rfl⟩ | ⟨r,fam,H1,ss,rfl,hne,hlim,hr,hst,rfl⟩
 ·have h0:VRel fid M _ φ (.snil n) u0:=hargs.head
  cases h0 with
  | snil _ a=>
   refine (AnyM.slices_Sort_string_none (P:=P) (ρ:=ρ) L a 0 w).mono fun e w' he=>?_
   obtain ⟨rfl,rfl⟩:=he
   exact ⟨_,rfl,M,φ,unit_rel,hH,Ext.refl ..⟩
 ·have h0:VRel fid M H φ (.sref 1 r 0 ss.length) u0:=hargs.head
  have hpos:0<ss.length:=List.length_pos_iff.2 hne
  have R:=hH.row _ _ _ _ _ _ hr
  obtain ⟨cs,t,fr,hc,hsz,hfz,hcell⟩:=R.cells
  cases h0 with
  | sref _ _ _ _ cap a hc0 ha0 hp0 hsl=>
  obtain ⟨_,hsl2⟩:=hsl _ _ _ _ hr
  obtain ⟨rfl,_⟩:=hsl2 (by omega)
  have hblk:(φ r).blk<w.heap.size:=by
   rcases Nat.lt_or_ge (φ r).blk w.heap.size with h | h
   ·exact h
   ·rw[Array.getElem?_eq_none h] at hc
    cases hc
  have hHolds:Holds encStr w (φ r).blk (φ r).off ss.toArray:=by
   intro j hj
   have hj':j<ss.length:=by simpa using hj
   have hfits:=R.fits
   rw[List.length_map] at hfits
   refine ⟨?_,frozen_of_heap hc (hfz _ (by omega))⟩
   rw[cell_of_heap hc,getElem!_pos ss.toArray j hj]
   obtain ⟨v,h2,h3⟩:=hcell j (.str ss[j]) 0 (.str ss[j]) (by rw[List.getElem?_map,List.getElem?_eq_getElem hj']; rfl) rfl
   cases h3 with
   | str s _ hs=>
    obtain ⟨d⟩:=s
    have:d=ss[j].toArray:=by rw[←hs]
    subst this
    simpa using h2
  have hmain:=AnyM.slices_Sort_string L (φ r).blk (φ r).off cap ss w hHolds hblk (by have:lim=2147483648:=rfl; omega)
  rw[Nat.zero_mul,Nat.add_zero]
  refine hmain.mono fun e w' he=>?_
  obtain ⟨rfl,n,os,rfl⟩:=he
  have hlen:(sortS ss).length=ss.length:=List.length_mergeSort ..
  have hW:=hH.rewrite (els':=(sortS ss).map .str) (fl':=true) (p:=0) (us:=(sortS ss).map encStr) (vs:=(sortS ss).map .str) hr hst (by rw[List.length_map,hlen,List.length_map]; omega) ?_ (by simp [hlen]) ?_ ?_ ?_
  ·rw[Nat.add_zero] at hW
   obtain ⟨hw1,hw2,hw3⟩:=hW
   have hsz2:(w.setCells (φ r).blk (φ r).off ((sortS ss).map encStr)).heap.size=w.heap.size:=by simp
   have hkey : ∀ b,b<w.heap.size→(grow (putRow encStr (Sort.ahead w n) (φ r).blk (φ r).off (sortS ss).toArray) os).heap[b]?=(w.setCells (φ r).blk (φ r).off ((sortS ss).map encStr)).heap[b]?:=fun b hb=>by
    have:=sortWorld_heap encStr w (φ r).blk (φ r).off n (sortS ss).toArray os hb
    simpa [sortWorld] using this
   have hw4:=hw1.world (w':=grow (putRow encStr (Sort.ahead w n) (φ r).blk (φ r).off (sortS ss).toArray) os) fun b hb=>hkey b (by rw[←hsz2]; exact hb)
   refine ⟨_,rfl,M,φ,unit_rel,hw4,fun _ _ _ h=>h,fun _ _ _ h _=>h,hw2.later,⟨⟨rfl,rfl,rfl,?_,fun k hk=>?_⟩,Nat.le_add_right _ _⟩⟩
   ·show w.heap.size≤((putRow _ (Sort.ahead w n) _ _ _).heap++os).size
    rw[Array.size_append,Go.Sort.size_putRow]
    exact Nat.le_add_right _ _
   ·have:=hkey k (by omega)
    rw[show sortS ss=ss.mergeSort fun x y=>decide (x≤y) from rfl] at this
    rw[this]
    exact hw3.block k hk
  ·refine ⟨by simp,fun i x v hx hv=>?_⟩
   rw[List.getElem?_map] at hx hv
   cases hdi:(sortS ss)[i]? with
   | none=>rw[hdi] at hx; cases hx
   | some z=>
    rw[hdi] at hx hv
    cases hx
    cases hv
    exact .str _ _ (by simp)
  ·have hfl : ∀ ys:List (List UInt8),Ago.flat (ys.map .str)=ys.map .str:=by
    intro ys
    induction ys with
    | nil=>rfl
    | cons y ys ih=>rw[List.map_cons,Ago.flat,ih]; rfl
   rw[hfl,hfl,Nat.zero_add,List.length_map,hlen]
   simp
  ·intro x hx
   obtain ⟨y,_,rfl⟩:=List.mem_map.1 hx
   exact ⟨rfl,rfl⟩
  ·intro _ x hx
   obtain ⟨y,_,rfl⟩:=List.mem_map.1 hx
   rfl
end

theorem extCtx_ok {P:Program} {fid:FuncId→Option Nat} {pf:Nat→Bool} {C:Ctx} {cs ln ss:Nat→Bool} (hC:CtxOk P fid pf C) (h1 : ∀ f,cs f=true→C.code f=none∧CmpAt P fid f∧ln f=false∧∀ ts v,¬ C.pprim f ts v)
  (h2 : ∀ f,ln f=true→C.code f=none∧LenAt P fid f∧cs f=false∧∀ ts v,¬ C.pprim f ts v) (h3 : ∀ f,ss f=true→C.code f=none∧SsortAt P fid f∧∀ a H v H',¬ C.prim f a H v H'):CtxOk P fid pf (extCtx C cs ln ss):=by
 refine ⟨hC.fids,hC.coded,fun f args H v H' hp=>?_,fun f ts v hp=>?_⟩
 ·rcases hp with hp | ⟨hf,hp⟩
  ·obtain ⟨k1,k2,k3⟩:=hC.prim _ _ _ _ _ hp
   refine ⟨k1,k2,fun v2 H2 hp2=>?_⟩
   rcases hp2 with hp2 | ⟨hf,hp2⟩
   ·exact k3 _ _ hp2
   ·exact ((h3 f hf).2.2 _ _ _ _ hp).elim
  ·refine ⟨(h3 f hf).1,ssort_run (fun f hf=>(h3 f hf).2.1) hf hp,fun v2 H2 hp2=>?_⟩
   rcases hp2 with hp2 | ⟨_,hp2⟩
   ·exact ((h3 f hf).2.2 _ _ _ _ hp2).elim
   ·obtain ⟨rfl,hp⟩:=hp
    obtain ⟨rfl,hp2⟩:=hp2
    refine ⟨rfl,?_⟩
    rcases hp with ⟨n,rfl,rfl⟩ | ⟨r,fam,H1,zs,rfl,_,_,k4,k5,rfl⟩
    ·rcases hp2 with ⟨n',k1,rfl⟩ | ⟨r',fam',H1',zs',k1,_⟩
     ·rfl
     ·simp at k1
    ·rcases hp2 with ⟨n',k1,_⟩ | ⟨r',fam',H1',zs',k1,_,_,j4,j5,rfl⟩
     ·simp at k1
     ·simp only[List.cons.injEq,AV.sref.injEq,and_true,true_and] at k1
      obtain ⟨rfl,_⟩:=k1
      rw[k4] at j4
      simp only[Option.some.injEq,Blk.row.injEq,true_and] at j4
      obtain ⟨j6,rfl⟩:=j4
      have:zs=zs':=(List.map_inj_right (fun a b h=>by injection h)).1 j6
      subst this
      rw[k5] at j5
      cases j5
      rfl
 ·rcases hp with hp | ⟨hf,a,b,rfl,rfl⟩ | ⟨hf,s,rfl,hsl,rfl⟩
  ·obtain ⟨k1,k2,k3⟩:=hC.pprim _ _ _ hp
   refine ⟨k1,k2,fun v2 hp2=>?_⟩
   rcases hp2 with hp2 | ⟨hf,_⟩ | ⟨hf,_⟩
   ·exact k3 _ hp2
   ·exact ((h1 f hf).2.2.2 _ _ hp).elim
   ·exact ((h2 f hf).2.2.2 _ _ hp).elim
  ·refine ⟨(h1 f hf).1,cmp_sim (h1 f hf).2.1 a b,fun v2 hp2=>?_⟩
   rcases hp2 with hp2 | ⟨_,a',b',k1,rfl⟩ | ⟨hl,_⟩
   ·exact ((h1 f hf).2.2.2 _ _ hp2).elim
   ·cases k1
    rfl
   ·rw[(h1 f hf).2.2.1] at hl
    cases hl
  ·refine ⟨(h2 f hf).1,len_sim (h2 f hf).2.1 s hsl,fun v2 hp2=>?_⟩
   rcases hp2 with hp2 | ⟨hl,_⟩ | ⟨_,s',k1,_,rfl⟩
   ·exact ((h2 f hf).2.2.2 _ _ hp2).elim
   ·rw[(h2 f hf).2.2.1] at hl
    cases hl
   ·cases k1
    rfl
end Ago
