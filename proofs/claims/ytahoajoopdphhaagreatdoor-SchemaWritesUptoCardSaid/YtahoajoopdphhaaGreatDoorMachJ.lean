/- strings.Builder: WriteString,WriteByte and String,with all that they leave as it was. -/
import Derived.Test.YtahoajoopdphhaaGreatDoorMachH
import Derived.Shelf.Strings.Builder1
import Derived.Shelf.Small.Strs
set_option linter.unusedSimpArgs false
set_option linter.unusedVariables false
namespace Ago
open Go Go.Proofs Go.Shelf Go.RowKit
section
variable {P:Program} {ρ:Ren} {w:World}

theorem q6D {f:FuncId} {args:Array Value} {v:Value} {Q:World→Prop} (h:Calls P f args w fun e w'=>e = .returned v∧Q w'):Calls P f args w fun e w'=>e = .returned v∧Q w'∧w.drawn≤w'.drawn:=by
 intro cs
 obtain ⟨e,w',fr,⟨rfl,hq⟩,hc,hf,hl⟩:=h cs
 exact ⟨_,w',fr,⟨rfl,hq,qmy hc⟩,hc,hf,hl⟩

theorem qbk (base:Nat) (t tx ty e:TypeId) (i:TypeInfo) (ht:P.underlying t=some (.slice e)) (hi:P.info? e=some i) (hz:i.zero=some (.int .u8 0)) (hsize:i.size=1) (hby:i.bytes=1)
  (v:Value) (n:Nat) (xs:List Value) (hown:w.ownsRow base e 1 v n xs) (X:Value) (m:Nat) (us:List Value) (hs:Src P 1 tx X m us w) (hbytes:n+m≤140737488355328) (hbase:base≤w.heap.size) :
  ∃ v' w',(Builtin.append_ #[t,tx] ty #[v,X]).run P w = .ok v' w'∧w'.ownsRow base e 1 v' (n+m) (xs++us)∧w.grownBy w' v.ownBlock∧∀ k,v'.ownBlock=some k→v.ownBlock=some k∨w.heap.size≤k:=by
 have hxl:xs.length=n:=by simpa using hown.1
 have hul:us.length=m:=by simpa using hs.newsLen
 have hlen:(xs++us).length=(n+m) * 1:=by rw[Kb,hxl,hul,Nat.mul_one]
 have hs':Src P i.size tx X m us w:=by rw[hsize]; exact hs
 have grown : ∀ (a:Option Addr) (old:Nat),old<n+m→(Builtin.firstCells i.size n (.slice a n old)).run P w.drew = .ok xs.toArray w.drew →
   ∃ v' w',(Builtin.append_ #[t,tx] ty #[.slice a n old,X]).run P w = .ok v' w'∧w'.ownsRow base e 1 v' (n+m) (xs++us)∧w.grownBy w' (Value.ownBlock (.slice a n old))∧∀ k,v'.ownBlock=some k→Value.ownBlock (.slice a n old)=some k∨w.heap.size≤k:=by
  intro a old ho hf
  have hr:=run_append_grow_src (P:=P) w t tx ty e i (.int .u8 0) ht hi hz a n old xs hf X m us hs' ho (by omega) (growslice_fits (by omega) (by rw[hby]; omega))
  have hge:=grownCap_ge w (n+m) old e
  have hle:=grownCap_le_maxLen w (n+m) old e (by unfold maxLen; omega)
  refine ⟨_,_,hr,⟨hlen,.inr ⟨w.heap.size,_,_,rfl,hbase,q1x (w:=w.drew) _,hge,hle,?_,?_⟩⟩,⟨rfl,rfl,rfl,?_,fun k hk _=>q12 (w:=w.drew) _ k hk⟩,fun k hk=>?_⟩
  ·simp only[Array.size_append,List.size_toArray,hlen,size_zeroCells]
   simp [Value.cells]
   omega
  ·rw[Array.toList_append,←hlen]
   exact List.take_left
  ·show w.heap.size≤(w.heap.push _).size
   simp
  ·simp only[Value.ownBlock,Kq] at hk
   exact .inr (Nat.le_of_eq hk)
 rcases hown.2 with ⟨rfl,rfl⟩ | ⟨g,cap,cur,rfl,hbg,hg,hnc,hcm,hcs,htake⟩
 ·have hx:xs=[]:=KE hxl
  subst hx
  by_cases hm:m=0
  ·subst hm
   have hu:us=[]:=KE hul
   subst hu
   exact ⟨_,_,q3q t tx ty e i ht hi none 0 0 X hs' (Kr _),World.ownsRow_nil w base e 1,⟨rfl,rfl,rfl,Kr _,fun _ _ _=>rfl⟩,fun k hk=>.inl hk⟩
  ·exact grown none 0 (by omega) (run_firstCells_none w.drew _ _ _ _)
 ·by_cases hroom:n+m≤cap
  ·have hr:=run_append_room_src (P:=P) w t tx ty e i ht hi g 0 n cap X m us hs' hroom
    (fun j hj=>by rw[cell_of_heap hg,KU (by rw[hcs,hsize]; omega)]; rfl) (fun j hj=>q28 hg (by simp))
   obtain ⟨c',h1,h2,h3,h4⟩:=q5v g e (0,0) us (0+n * i.size) w cur hg (by rw[hcs,hsize,hul]; omega)
   refine ⟨_,_,hr,⟨hlen,.inr ⟨g,cap,c',rfl,hbg,h1,hroom,hcm,h2.trans hcs,?_⟩⟩,⟨?_,?_,?_,?_,fun k _ hk=>q26 g us _ w k (fun e=>hk (by simp [Value.ownBlock,e]))⟩,fun k hk=>.inl hk⟩
   ·rw[hsize] at h3 h4
    apply Vw
    intro j
    rw[VA]
    by_cases hj:j<(n+m) * 1
    ·rw[if_pos hj,Vo]
     rw[VW]
     by_cases hjn:j<n
     ·rw[if_pos (by omega),h3 j (.inl (by omega)),←htake,VA,if_pos (by omega),VW]
     ·rw[if_neg (by omega),hxl]
      have:=h4 (j-n) (by omega)
      rw[show 0+n * 1+(j-n)=j by omega] at this
      exact this
    ·rw[if_neg hj,KQ (by omega)]
   ·exact (q2c (B:=0) (Kn _) us _ (Below.refl 0 w)).os
   ·exact (q2c (B:=0) (Kn _) us _ (Below.refl 0 w)).tape
   ·exact (q2c (B:=0) (Kn _) us _ (Below.refl 0 w)).output
   ·exact (q2c (B:=0) (Kn _) us _ (Below.refl 0 w)).size
  ·exact grown _ cap (by omega) (run_firstCells_some w.drew _ _ _ _ _ xs (by rw[hsize]; simpa using hxl) (by
    intro j u hu
    have:=hown.cells (g:=g) rfl j u hu
    simpa using this))

theorem q4Z {ops:Array Oper} {rest:List Oper} {o:Oper} {a:Act} {Q:Exit→Act→World→Prop} (hgd:o.guard=none) (sl x:Operand) (t tx:TypeId)
  (ho:o.op = .call { callee:=.builtin .append,args := #[sl,x],argTypes := #[t,tx] })
  (base:Nat) (e:TypeId) (i:TypeInfo) (ht:P.underlying t=some (.slice e)) (hi:P.info? e=some i) (hz:i.zero=some (.int .u8 0)) (hsize:i.size=1) (hby:i.bytes=1)
  (v:Value) (n:Nat) (xs:List Value) (hs:a.eval sl=v) (hown:w.ownsRow base e 1 v n xs) (X:Value) (m:Nat) (us:List Value) (hX:a.eval x=X) (hsrc:Src P 1 tx X m us w) (hbytes:n+m≤140737488355328) (hbase:base≤w.heap.size)
  (h : ∀ v' w',w'.ownsRow base e 1 v' (n+m) (xs++us)→w.grownBy w' v.ownBlock→(∀ k,v'.ownBlock=some k→v.ownBlock=some k∨w.heap.size≤k)→wpList P ops Q rest (a.put o.dst v') w'):wpList P ops Q (o::rest) a w:=by
 refine wpList_plain hgd fun K hK=>?_
 obtain ⟨v',w',hr,h2,h3,h4⟩:=qbk (P:=P) base t tx o.type e i ht hi hz hsize hby v n xs hown X m us hsrc hbytes hbase
 unfold Oper.wp execOp
 simp only[ho,resolve,invoke,builtin,Sem.run_bind,Sem.run_pure,Result.andThen_ok,List.map_toArray,Kd,Kl,hs,hX,hr]
 exact hK _ _ (h v' w' h2 h3 h4)

structure BldStep (T e B b:Nat) (s':List UInt8) (w w':World):Prop where
 at_:BldAt T e B b s' w'
 below:Below B w w'
 block : ∀ k,k<w.heap.size→¬ q8o w b k→w'.heap[k]?=w.heap[k]?
 foot : ∀ k,q8o w' b k→q8o w b k∨w.heap.size≤k

theorem q7N (L:Lays.n240 P ρ) (X:Builder.X72 P ρ) (B b:Nat) (q v:Value) (w:World) (hB:B≤b) (hq:q = .pointer none∨q = .pointer (some ⟨b,0,none⟩)) (hb:w.heap[b]?=some (.cells #[q,v] (ρ.t 72) (0,0))) :
  Calls P (ρ.f 240) #[.pointer (some ⟨b,0,none⟩)] w fun e w1=>e = .returned (.tuple #[])∧w1.heap.size=w.heap.size∧(∀ k,k≠b→w1.heap[k]?=w.heap[k]?)∧w1.heap[b]?=some (.cells #[.pointer (some ⟨b,0,none⟩),v] (ρ.t 72) (0,0))∧Below B w w1:=by
 rcases hq with rfl | rfl
 ·refine (Any.Builder_copyCheck_fresh L X b w (by simp [World.cell?,hb]) (by simp [World.shape?,hb]) (by simp [World.frozen?,hb])).mono ?_
  rintro e w' ⟨rfl,rfl⟩
  refine ⟨rfl,by simp [World.setCell],fun k hk=>Below.heap_setCell _ _ _ _ hk,?_,(Below.refl B w).setCell (p:=⟨b,0,none⟩) hB _⟩
  simp [World.setCell,VX,hb]
 ·refine (Any.Builder_copyCheck_used L X b w (by simp [World.cell?,hb])).mono ?_
  rintro e w' ⟨rfl,rfl⟩
  exact ⟨rfl,rfl,fun _ _=>rfl,hb,Below.refl B _⟩

theorem qkH {T e B b:Nat} {q0 v v':Value} {s s':List UInt8} {w w1 w2:World} (hB:B≤b) (hTe:T≠e) (hb:w.heap[b]?=some (.cells #[q0,v] T (0,0))) (hs1:w1.heap.size=w.heap.size) (hk1 : ∀ k,k≠b→w1.heap[k]?=w.heap[k]?) (hb1:Below B w w1)
  (hown:w1.ownsRow B e 1 v s.length (s.map fun c=>.int .u8 c.toNat)) (hbw:b<w1.heap.size) (hne:v.ownBlock≠some b) (hb2:w2.heap[b]?=some (.cells #[.pointer (some ⟨b,0,none⟩),v] T (0,0)))
  (hown':w2.ownsRow B e 1 v' s'.length (s'.map fun c=>.int .u8 c.toNat)) (hsz:w1.heap.size≤w2.heap.size) (hblk : ∀ k,k<w1.heap.size→some k≠v.ownBlock→w2.heap[k]?=w1.heap[k]?) (hbel:Below B w w2) (hf : ∀ k,v'.ownBlock=some k→v.ownBlock=some k∨w1.heap.size≤k) :
  BldStep T e B b s' w (w2.setCell ⟨b,1,none⟩ v'):=by
 have hne':v'.ownBlock≠some b:=by
  intro h
  rcases hf b h with h | h
  ·exact hne h
  ·omega
 have hset:(w2.setCell ⟨b,1,none⟩ v').heap[b]?=some (.cells #[.pointer (some ⟨b,0,none⟩),v'] T (0,0)):=by simp [World.setCell,VX,hb2]
 have hoth : ∀ k,k≠b→(w2.setCell ⟨b,1,none⟩ v').heap[k]?=w2.heap[k]?:=fun k hk=>Below.heap_setCell _ _ _ _ hk
 have hfv : ∀ k,v.ownBlock=some k→q8o w b k:=fun k hk=>.inr ⟨v,by simp [World.cell?,hb],hk⟩
 refine ⟨⟨hB,_,v',.inr rfl,hset,?_,hne'⟩,hbel.setCell (p:=⟨b,1,none⟩) hB _,fun k hk hn=>?_,fun k hk=>?_⟩
 ·exact hown'.kept (row:=some b) ⟨rfl,rfl,rfl,by simp [World.setCell],fun k _ hk=>hoth k (fun e=>hk (by rw[e]))⟩ (Or.inr hne')
 ·have h1:k≠b:=fun e=>hn (.inl e)
  rw[hoth k h1,hblk k (by omega) (fun e=>hn (hfv k e.symm)),hk1 k h1]
 ·rcases hk with rfl | ⟨u,hu,hk⟩
  ·exact .inl (.inl rfl)
  ·have:(w2.setCell ⟨b,1,none⟩ v').cell? ⟨b,1,none⟩=some v':=by simp [World.cell?,hset]
   rw[this] at hu
   cases hu
   rcases hf k hk with h | h
   ·exact .inl (hfv k h)
   ·exact .inr (by omega)

theorem q8E {B e:Nat} {v:Value} {n:Nat} {xs:List Value} {w w1:World} (h:w.ownsRow B e 1 v n xs) (hk : ∀ k,v.ownBlock=some k→w1.heap[k]?=w.heap[k]?):w1.ownsRow B e 1 v n xs:=by
 refine ⟨h.1,?_⟩
 rcases h.2 with h | ⟨g,cap,cur,rfl,hg,hgb,r⟩
 ·exact .inl h
 ·exact .inr ⟨g,cap,cur,rfl,hg,by rw[hk g rfl]; exact hgb,r⟩

set_option maxHeartbeats 4000000 in
set_option maxRecDepth 100000 in
theorem qaH (L:Lays.n166 P ρ) (X:Builder.Extra P ρ) (B b:Nat) (s0:List UInt8) (s:ByteArray) (w:World) (h:BldAt (ρ.t 72) (ρ.t 5) B b s0 w) (hlen:s0.length+s.size≤140737488355328) (hBw:B≤w.heap.size) :
  Calls P (ρ.f 166) #[.pointer (some ⟨b,0,none⟩),.string s] w fun e w'=>e = .returned (.tuple #[.int .i64 s.size,.nilIface])∧BldStep (ρ.t 72) (ρ.t 5) B b (s0++s.data.toList) w w':=by
 obtain ⟨i0,hi,hz0,hz1,hz2⟩:=info_parts X.infoByte
 obtain ⟨hB,q,v,hq,hbk,hown,hne⟩:=h
 have mixed:=L.mixed
 have t72:=L.t72; have a72:=L.a72; have z72:=L.z72; have v72:=L.v72; have u72:=run_underlying L.t72
 have t70:=L.t70; have a70:=L.a70; have z70:=L.z70; have v70:=L.v70; have u70:=run_underlying L.t70
 have t37:=L.t37; have a37:=L.a37; have z37:=L.z37; have v37:=L.v37; have u37:=run_underlying L.t37
 have t3:=L.t3; have a3:=L.a3; have z3:=L.z3; have v3:=L.v3; have u3:=run_underlying L.t3
 have t9:=L.t9; have a9:=L.a9; have z9:=L.z9; have v9:=L.v9; have u9:=run_underlying L.t9
 have t4:=L.t4; have a4:=L.a4; have z4:=L.z4; have v4:=L.v4; have u4:=run_underlying L.t4
 have t164:=L.t164; have a164:=L.a164; have z164:=L.z164; have v164:=L.v164; have u164:=run_underlying L.t164
 have t5:=X.t5; have a5:=X.a5; have z5:=X.z5; have v5:=X.v5; have u5:=run_underlying X.t5
 have e240 : ∀ args w,(callFunc (ρ.f 240) args).run P w = .ok (.enter (ρ.f 240) args) w:=enters_of L.f240 (by kernel_rfl) rfl
 go_enter L.f166,Body.n166_ntmps ρ
 go_wp2_with (go_at_fn (ρ.f 240); refine (q7N { L with } X.toX72 B b q v _ hB hq hbk).mono ?_)
 rintro e w1 ⟨rfl,hs0,hk1,hbk1,hb1⟩
 have hs2:=Nat.le_antisymm_iff.1 hs0
 clear hs0
 have hown1:=q8E hown (w1:=w1) (fun k hk=>hk1 k fun e=>hne (by rw[hk,e]))
 have c0:w1.cell? ⟨b,0,none⟩=some (.pointer (some ⟨b,0,none⟩)):=by simp [World.cell?,hbk1]
 have c1:w1.cell? ⟨b,1,none⟩=some v:=by simp [World.cell?,hbk1]
 have hlt:b<w1.heap.size:=q2s hbk1
 go_wp2_with (at_builtin; go_loud (refine q4Z rfl _ _ (ρ.t 37) (ρ.t 9) rfl B (ρ.t 5) i0 L.t37 hi hz0 hz1 hz2 _ _ _ rfl hown1 (.string s) s.size (Go.byteCells s) rfl (Src.ofString _ L.t9 s) hlen (by omega) ?_))
 intro v' w2 hown' hgrow hf
 have hb2:w2.heap[b]?=some (.cells #[.pointer (some ⟨b,0,none⟩),v] (ρ.t 72) (0,0)):=by
  rw[hgrow.block b hlt (fun e=>hne e.symm)]
  exact hbk1
 have d0:w2.cell? ⟨b,0,none⟩=some (.pointer (some ⟨b,0,none⟩)):=by simp [World.cell?,hb2]
 have d1:w2.cell? ⟨b,1,none⟩=some v:=by simp [World.cell?,hb2]
 have f1:w2.frozen? ⟨b,1,none⟩=false:=by simp [World.frozen?,hb2]
 obtain ⟨ao,n',cap,rfl⟩ : ∃ ao n' cap,v' = .slice ao n' cap:=by
  rcases hown'.2 with ⟨hv,_⟩ | ⟨g,cap,cur,hv,_⟩
  ·exact ⟨_,_,_,hv⟩
  ·exact ⟨_,_,_,hv⟩
 go_wp2
 go_ret2
 refine ⟨rfl,qkH (s:=s0) hB X.neB5 hbk (Nat.le_antisymm_iff.2 hs2) hk1 hb1 hown1 hlt hne hb2 ?_ hgrow.size hgrow.block (hb1.grown hgrow (by omega) (fun k hk=>(hown1.lt k hk).1)) hf⟩
 have e1:(s0++s.data.toList).length=s0.length+s.size:=by rw[Kb,VV]; rfl
 rw[e1,Va]
 exact hown'

set_option maxHeartbeats 4000000 in
set_option maxRecDepth 100000 in
theorem qct (L:Lays.n167 P ρ) (X:Builder.Extra P ρ) (B b:Nat) (s0:List UInt8) (c:UInt8) (w:World) (h:BldAt (ρ.t 72) (ρ.t 5) B b s0 w) (hlen:s0.length+1≤140737488355328) (hBw:B≤w.heap.size) :
  Calls P (ρ.f 167) #[.pointer (some ⟨b,0,none⟩),.int .u8 c.toNat] w fun e w'=>e = .returned .nilIface∧BldStep (ρ.t 72) (ρ.t 5) B b (s0++[c]) w w':=by
 obtain ⟨i0,hi,hz0,hz1,hz2⟩:=info_parts X.infoByte
 obtain ⟨hB,q,v,hq,hbk,hown,hne⟩:=h
 have mixed:=L.mixed
 have t72:=L.t72; have a72:=L.a72; have z72:=L.z72; have v72:=L.v72; have u72:=run_underlying L.t72
 have t70:=L.t70; have a70:=L.a70; have z70:=L.z70; have v70:=L.v70; have u70:=run_underlying L.t70
 have t5:=L.t5; have a5:=L.a5; have z5:=L.z5; have v5:=L.v5; have u5:=run_underlying L.t5
 have t37:=L.t37; have a37:=L.a37; have z37:=L.z37; have v37:=L.v37; have u37:=run_underlying L.t37
 have t9:=L.t9; have a9:=L.a9; have z9:=L.z9; have v9:=L.v9; have u9:=run_underlying L.t9
 have t4:=L.t4; have a4:=L.a4; have z4:=L.z4; have v4:=L.v4; have u4:=run_underlying L.t4
 have t164:=L.t164; have a164:=L.a164; have z164:=L.z164; have v164:=L.v164; have u164:=run_underlying L.t164
 have e240 : ∀ args w,(callFunc (ρ.f 240) args).run P w = .ok (.enter (ρ.f 240) args) w:=enters_of L.f240 (by kernel_rfl) rfl
 go_enter L.f167,Body.n167_ntmps ρ
 go_wp2_with (go_at_fn (ρ.f 240); refine (q7N { L with } X.toX72 B b q v _ hB hq hbk).mono ?_)
 rintro e w1 ⟨rfl,hs0,hk1,hbk1,hb1⟩
 have hs2:=Nat.le_antisymm_iff.1 hs0
 clear hs0
 have hown1:=q8E hown (w1:=w1) (fun k hk=>hk1 k fun e=>hne (by rw[hk,e]))
 have c0:w1.cell? ⟨b,0,none⟩=some (.pointer (some ⟨b,0,none⟩)):=by simp [World.cell?,hbk1]
 have c1:w1.cell? ⟨b,1,none⟩=some v:=by simp [World.cell?,hbk1]
 have hlt:b<w1.heap.size:=q2s hbk1
 go_wp2_with (at_builtin; go_loud (refine q4Z rfl _ _ (ρ.t 37) (ρ.t 37) rfl B (ρ.t 5) i0 L.t37 hi hz0 hz1 hz2 _ _ _ rfl (hown1.alloc _) (.slice (some ⟨w1.heap.size,0,none⟩) 1 1) 1 [.int .u8 c.toNat] rfl (Src.ofSlice _ L.t37 _ _ _ _ rfl ?c1 ?c2) hlen ?c5 ?_))
 case c1=>
  intro j u hj
  match j,hj with
  | 0,hj=>simp at hj; subst hj; simp [Addr.add]
 case c2=>intro u hu; simp at hu; subst hu; rfl
 case c5=>have:=hb1.size; simp; omega
 intro v' w2 hown' hgrow hf
 have hb2:w2.heap[b]?=some (.cells #[.pointer (some ⟨b,0,none⟩),v] (ρ.t 72) (0,0)):=by
  rw[hgrow.block b (by simp; omega) (fun e=>hne e.symm),q12 _ b hlt]
  exact hbk1
 have d0:w2.cell? ⟨b,0,none⟩=some (.pointer (some ⟨b,0,none⟩)):=by simp [World.cell?,hb2]
 have d1:w2.cell? ⟨b,1,none⟩=some v:=by simp [World.cell?,hb2]
 have f1:w2.frozen? ⟨b,1,none⟩=false:=by simp [World.frozen?,hb2]
 obtain ⟨g,cap,rfl⟩ : ∃ g cap,v' = .slice (some ⟨g,0,none⟩) (s0.length+1) cap:=by
  rcases hown'.2 with ⟨_,h0⟩ | ⟨g,cap,cur,hv,_⟩
  ·omega
  ·exact ⟨g,cap,hv⟩
 go_wp2
 go_ret
 refine ⟨rfl,qkH (s:=s0) hB X.neB5 hbk (Nat.le_antisymm_iff.2 hs2) hk1 hb1 hown1 hlt hne hb2 ?_ ?_ (fun k hk hn=>?_) ((hb1.alloc (by omega) _).grown hgrow (by have:=hb1.size; simp; omega) (fun k hk=>(hown1.lt k hk).1)) fun k hk=>?_⟩
 ·rw[Kb,Va]
  exact hown'
 ·have:=hgrow.size
  simp at this
  omega
 ·rw[hgrow.block k (by simp; omega) hn,q12 _ k hk]
 ·rcases hf k hk with h | h
  ·exact .inl h
  ·exact .inr (by first | omega | (simp at h; omega))

theorem qeN (w:World) (a:Addr) (n k:Nat) (hk:k≠a.block):(w.freeze a n).heap[k]?=w.heap[k]?:=by
 unfold World.freeze
 split
 ·rfl
 ·simp [VX,Ne.symm hk]

set_option maxHeartbeats 4000000 in
set_option maxRecDepth 100000 in
theorem qiG (L:Lays.n169 P ρ) (X:Builder.Extra P ρ) (B b:Nat) (l:List UInt8) (w:World) (h:BldAt (ρ.t 72) (ρ.t 5) B b l w) (h0:l≠[]) :
  Calls P (ρ.f 169) #[.pointer (some ⟨b,0,none⟩)] w fun e w'=>e = .returned (.string ⟨l.toArray⟩)∧Below B w w'∧∀ k,k<w.heap.size→¬ q8o w b k→w'.heap[k]?=w.heap[k]?:=by
 obtain ⟨hB,p,v,hq,hbk,hown,hne⟩:=h
 have hl0:l.length≠0:=by simpa using h0
 obtain ⟨g,cap,cur,rfl,hbg,hg,hnc,hcm,hcs,htake⟩ : ∃ g cap cur,v = .slice (some ⟨g,0,none⟩) l.length cap∧B≤g∧w.heap[g]?=some (.cells cur (ρ.t 5) (0,0))∧l.length≤cap∧cap≤maxLen∧cur.size=cap * 1∧cur.toList.take (l.length * 1)=Lib.byteCells l:=by
  rcases hown.2 with ⟨_,hz⟩ | ⟨g,cap,cur,hv,r⟩
  ·exact absurd hz hl0
  ·exact ⟨g,cap,cur,hv,r⟩
 have c1:w.drew.cell? ⟨b,1,none⟩=some (.slice (some ⟨g,0,none⟩) l.length cap):=by
  have:w.drew.heap[b]?=some (.cells #[p,.slice (some ⟨g,0,none⟩) l.length cap] (ρ.t 72) (0,0)):=hbk
  rw[Lib.cell_of_heap this]; rfl
 have hSD:(Builtin.unsafeSliceData_ #[(ρ.t 37)] (ρ.t 127) #[.slice (some ⟨g,0,none⟩) l.length cap]).run P w.drew = .ok (.pointer (some ⟨g,0,none⟩)) w.drew:=
  Lib.run_unsafeSliceData_row _ _ _ _ _ _ (by omega)
 have hUS:(Builtin.unsafeString_ #[(ρ.t 127),(ρ.t 3)] (ρ.t 9) #[.pointer (some ⟨g,0,none⟩),.int .i64 l.length]).run P w.drew = .ok (.string ⟨l.toArray⟩) (w.drew.freeze ⟨g,0,none⟩ l.length):=by
  refine Lib.run_unsafeString_row w.drew (ρ.t 127) (ρ.t 3) (ρ.t 9) (ρ.t 5) L.t127 X.cellsByte g cur.size (by have hg':w.drew.heap[g]?=some (.cells cur (ρ.t 5) (0,0)):=hg; simp [World.shape?,hg']) l h0 (by omega) (by unfold maxLen at hcm; omega) ?_
  intro j x hx
  have:=hown.cells (g:=g) rfl j (.int .u8 x.toNat) (by simp [hx])
  exact this
 have hfin:Below B w (w.drew.freeze ⟨g,0,none⟩ l.length)∧∀ k,k<w.heap.size→¬ q8o w b k→(w.drew.freeze ⟨g,0,none⟩ l.length).heap[k]?=w.heap[k]?:=
  ⟨Lib.below_freeze (Below.drew (Below.refl B w)) (p:=⟨g,0,none⟩) hbg _,fun k _ hk=>qeN w.drew _ _ k fun e=>hk (.inr ⟨_,c1,by rw[e]; rfl⟩)⟩
 have mixed:=L.mixed
 have t72:=L.t72; have a72:=L.a72; have z72:=L.z72; have v72:=L.v72; have u72:=run_underlying L.t72
 have t70:=L.t70; have a70:=L.a70; have z70:=L.z70; have v70:=L.v70; have u70:=run_underlying L.t70
 have t37:=L.t37; have a37:=L.a37; have z37:=L.z37; have v37:=L.v37; have u37:=run_underlying L.t37
 have t127:=L.t127; have a127:=L.a127; have z127:=L.z127; have v127:=L.v127; have u127:=run_underlying L.t127
 have t3:=L.t3; have a3:=L.a3; have z3:=L.z3; have v3:=L.v3; have u3:=run_underlying L.t3
 have t9:=L.t9; have a9:=L.a9; have z9:=L.z9; have v9:=L.v9; have u9:=run_underlying L.t9
 have t5:=X.t5; have a5:=X.a5; have z5:=X.z5; have v5:=X.v5; have u5:=run_underlying X.t5
 go_enter L.f169,Body.n169_ntmps ρ
 go_wp2
 go_region_o
 all_goals (go_wp2; go_ret; exact ⟨rfl,hfin⟩)
end


def wsL (q:Nat) (args:List AV) (H:Heap) (v:AV) (H':Heap):Prop:=
 ∃ r s b,args=[.iref r,.str b]∧H[r]?=some (.iter s q)∧s.length+b.length≤lim∧v = .tup [.int .i64 b.length,.nili]∧H'=H.set r (.iter (s++b) q)
def wbL (q:Nat) (args:List AV) (H:Heap) (v:AV) (H':Heap):Prop:=
 ∃ r s n,args=[.iref r,.int .u8 n]∧0≤n∧n<256∧H[r]?=some (.iter s q)∧s.length+1≤lim∧v = .nili∧H'=H.set r (.iter (s++[UInt8.ofNat n.toNat]) q)
def bsL (q:Nat) (args:List AV) (H:Heap) (v:AV) (H':Heap):Prop:=
 ∃ r s,args=[.iref r]∧H[r]?=some (.iter s q)∧s≠[]∧v = .str s∧H'=H.set r .gone

variable {uT:Unit} [TabC uT]
section
variable {P:Program} {fid:FuncId→Option Nat} {M:Mem} {H:Heap} {φ:Nat→Loc} {B:Nat} {w w':World}

theorem HRel.bldSet {r:Nat} {s:List UInt8} {q:Nat} {b':Blk} (h:HRel fid M H φ B w) (hr:H[r]?=some (.iter s q)) (hb:b' = .gone∨∃ s',b' = .iter s' q∧BldAt (q / 100000) (q % 100000) B (φ r).blk s' w')
  (hblk : ∀ k,k<w.heap.size→¬ q8o w (φ r).blk k→w'.heap[k]?=w.heap[k]?) (hfoot:(∃ s',b' = .iter s' q)→∀ k,q8o w' (φ r).blk k→q8o w (φ r).blk k∨w.heap.size≤k) :
  HRel fid M (H.set r b') φ B w'∧HLe H.length H (H.set r b') φ φ:=by
 have hrl:=q0f hr
 have hle:HLe H.length H (H.set r b') φ φ:=by
  refine ⟨by simp,fun x b hx hb0=>?_⟩
  by_cases hxr:x=r
  ·subst hxr
   rw[hr] at hb0
   cases hb0
   refine ⟨b',by simp [hrl],?_,fun _=>⟨?_,rfl⟩⟩
   ·rcases hb with rfl | ⟨s',rfl,_⟩
    ·exact .inl rfl
    ·exact .inr ⟨_,_,rfl⟩
   ·rcases hb with rfl | ⟨s',rfl,_⟩<;>simp
  ·exact ⟨b,by rw[K0 (Ne.symm hxr)]; exact hb0,b.le_refl,fun h=>⟨h,rfl⟩⟩
 have old : ∀ x b,(H.set r b')[x]?=some b→x≠r→H[x]?=some b:=fun x b hx hne=>by rw[K0 (Ne.symm hne)] at hx; exact hx
 have here : ∀ b,(H.set r b')[r]?=some b→b=b':=fun b hx=>by rw[Ve hrl] at hx; exact (K7 hx).symm
 have nrow : ∀ (x n:Nat) (els:List AV) (ro fl:Bool) (fam:Nat),(H.set r b')[x]?=some (Blk.row n els ro fl fam)→H[x]?=some (Blk.row n els ro fl fam):=fun x n els ro fl fam hx=>by
  by_cases hxr:x=r
  ·subst hxr
   have:=here _ hx
   rcases hb with rfl | ⟨_,rfl,_⟩<;>cases this
  ·exact old _ _ hx hxr
 have nmap : ∀ (x:Nat) (es:List (AV × AV)),(H.set r b')[x]?=some (Blk.map es)→H[x]?=some (Blk.map es):=fun x es hx=>by
  by_cases hxr:x=r
  ·subst hxr
   have:=here _ hx
   rcases hb with rfl | ⟨_,rfl,_⟩<;>cases this
  ·exact old _ _ hx hxr
 have rblk : ∀ x n els ro fl fam,H[x]?=some (.row n els ro fl fam)→w'.heap[(φ x).blk]?=w.heap[(φ x).blk]?:=fun x n els ro fl fam hx=>by
  obtain ⟨c,t,fr,hc,_⟩:=(h.row _ _ _ _ _ _ hx).cells
  exact hblk _ (q2s hc) (h.bl.rows _ _ _ _ _ _ _ _ _ hr hx)
 have mblk : ∀ x es,H[x]?=some (.map es)→w'.heap[(φ x).blk]?=w.heap[(φ x).blk]?:=fun x es hx=>by
  obtain ⟨c,cl,hc,_⟩:=(h.map _ _ hx).ents
  refine hblk _ (q2s hc) fun hf=>?_
  obtain ⟨_,_,c2,t,fr,h2⟩:=(h.bl.at_ _ _ _ hr).feet hf
  rw[hc] at h2
  cases h2
 have keep : ∀ (x:Nat) (s1:List UInt8) (q1 k:Nat),H[x]?=some (.iter s1 q1)→x≠r→q8o w (φ x).blk k→w'.heap[k]?=w.heap[k]?:=fun x s1 q1 k hx hne hk=>hblk k ((h.bl.at_ _ _ _ hx).feet hk).2.1 (h.bl.two _ _ _ _ _ _ _ hne hx hr hk)
 have ft : ∀ (x:Nat) (s1:List UInt8) (q1 k:Nat),H[x]?=some (.iter s1 q1)→x≠r→q8o w' (φ x).blk k→q8o w (φ x).blk k:=fun x s1 q1 k hx hne hk=>(q9S (keep _ _ _ _ hx hne (.inl rfl))).1 hk
 have isB : ∀ (s1:List UInt8) (q1:Nat),(H.set r b')[r]?=some (Blk.iter s1 q1)→∃ s',b' = .iter s' q:=fun s1 q1 hx=>by
  have:=here _ hx
  rcases hb with rfl | ⟨s',rfl,_⟩
  ·cases this
  ·exact ⟨_,rfl⟩
 refine ⟨⟨fun b o u hm=>?_,fun x n els ro fl fam hx=>?_,fun x es hx=>?_,fun x y n1 e1 o1 f1 a1 n2 e2 o2 f2 a2 hne h1 h2 hb2=>h.sepRR x y _ _ _ _ _ _ _ _ _ _ hne (nrow _ _ _ _ _ _ h1) (nrow _ _ _ _ _ _ h2) hb2,
  fun x y es es' hne h1 h2=>h.sepMM x y _ _ hne (nmap _ _ h1) (nmap _ _ h2),fun x n els ro fl fam hx o u hm=>?_,fun x es hx o=>h.ownM _ _ (nmap _ _ hx) o,
  ⟨fun x s1 q1 hx=>?_,fun x s1 q1 y n els ro fl fam hx hy hf=>?_,fun x s1 q1 k o hx hf=>?_,fun x y s1 q1 s2 q2 k hne hx hy hf hf'=>?_⟩⟩,hle⟩
 ·have hcell:w'.heap[b]?=w.heap[b]?:=hblk b (q6u h hm) fun hf=>by
   have:=h.bl.own _ _ _ _ o hr hf
   rw[hm] at this
   cases this
  rw[World.cell?_of_block (w:=w) hcell]
  exact h.mem b o u hm
 ·have hx0:=nrow _ _ _ _ _ _ hx
  exact (h.row _ _ _ _ _ _ hx0).mono (fun _ _ _ h=>h) hle (rblk _ _ _ _ _ _ hx0)
 ·have hx0:=nmap _ _ hx
  exact (h.map _ _ hx0).mono (fun _ _ _ h=>h) hle (mblk _ _ hx0)
 ·obtain ⟨r2,els2,fl2,h1,h2,h3⟩:=h.ownR _ _ _ _ _ _ (nrow _ _ _ _ _ _ hx) o u hm
  have hne:r2≠r:=fun e=>by subst e; rw[hr] at h1; cases h1
  exact ⟨r2,els2,fl2,by rw[K0 (Ne.symm hne)]; exact h1,h2,h3⟩
 ·by_cases hxr:x=r
  ·subst hxr
   have:=here _ hx
   rcases hb with rfl | ⟨s',rfl,hb⟩
   ·cases this
   ·cases this
    exact hb
  ·have hx0:=old _ _ hx hxr
   exact (h.bl.at_ _ _ _ hx0).keep fun k hk=>keep _ _ _ _ hx0 hxr hk
 ·have hy0:=nrow _ _ _ _ _ _ hy
  by_cases hxr:x=r
  ·subst hxr
   rcases hfoot (isB _ _ hx) _ hf with h1 | h1
   ·exact h.bl.rows _ _ _ _ _ _ _ _ _ hr hy0 h1
   ·obtain ⟨c,t,fr,hc,_⟩:=(h.row _ _ _ _ _ _ hy0).cells
    have:=q2s hc
    omega
  ·have hx0:=old _ _ hx hxr
   exact h.bl.rows _ _ _ _ _ _ _ _ _ hx0 hy0 (ft _ _ _ _ hx0 hxr hf)
 ·by_cases hxr:x=r
  ·subst hxr
   rcases hfoot (isB _ _ hx) _ hf with h1 | h1
   ·exact h.bl.own _ _ _ _ o hr h1
   ·cases hm:M k o with
    | none=>rfl
    | some u=>have:=q6u h hm; omega
  ·have hx0:=old _ _ hx hxr
   exact h.bl.own _ _ _ _ o hx0 (ft _ _ _ _ hx0 hxr hf)
 ·by_cases hxr:x=r
  ·subst hxr
   have hyr:y≠x:=fun e=>hne e.symm
   have hy0:=old _ _ hy hyr
   have hf2:=ft _ _ _ _ hy0 hyr hf'
   rcases hfoot (isB _ _ hx) _ hf with h1 | h1
   ·exact h.bl.two _ _ _ _ _ _ _ hne hr hy0 h1 hf2
   ·have:=((h.bl.at_ _ _ _ hy0).feet hf2).2.1
    omega
  ·have hx0:=old _ _ hx hxr
   have hf1:=ft _ _ _ _ hx0 hxr hf
   by_cases hyr:y=r
   ·subst hyr
    rcases hfoot (isB _ _ hy) _ hf' with h1 | h1
    ·exact h.bl.two _ _ _ _ _ _ _ hne hx0 hr hf1 h1
    ·have:=((h.bl.at_ _ _ _ hx0).feet hf1).2.1
     omega
   ·have hy0:=old _ _ hy hyr
    exact h.bl.two _ _ _ _ _ _ _ hne hx0 hy0 hf1 (ft _ _ _ _ hy0 hyr hf')

def qc1 (P:Program) (fid:FuncId→Option Nat) (L:Program→Ren→Prop) (k f q:Nat):Prop:=∀ g,fid g=some f→∃ ρ,L P ρ∧Builder.Extra P ρ∧ρ.f k=g∧q / 100000=ρ.t 72∧q % 100000=ρ.t 5

theorem qsj {f q:Nat} (h:qc1 P fid Lays.n166 166 f q) {a:List AV} {v:AV} {H':Heap} (hw:wsL q a H v H'):q3h P fid f a H v H':=by
 obtain ⟨r,s,b,rfl,hr,hlen,rfl,rfl⟩:=hw
 intro g hg M φ B us w hargs hH hB htb
 obtain ⟨ρ,L,X,rfl,hT,he⟩:=h g hg
 obtain ⟨u0,u1,rfl⟩ : ∃ u0 u1,us = #[u0,u1]:=by
  have h1:=hargs.1
  simp at h1
  obtain ⟨l⟩:=us
  match l,h1 with
  | [a,b],_=>exact ⟨a,b,rfl⟩
 have h0:VRel fid M H φ (.iref r) u0:=hargs.head
 have h1:VRel fid M H φ (.str b) u1:=hargs.tail.head
 cases h0 with
 | iref _ b0 hp hs=>
  have hb0:=hs _ _ hr
  subst hb0
  cases h1 with
  | str sb _ hsb=>
   have hat:=hH.bl.at_ _ _ _ hr
   rw[hT,he] at hat
   have hsz:sb.size=b.length:=by rw[←hsb,VV]; rfl
   refine (q6D (qaH L X B _ s sb w hat (by rw[hsz]; unfold lim at hlen; omega) hB)).mono ?_
   rintro e w' ⟨rfl,hst,hdr⟩
   rw[hsb] at hst
   obtain ⟨hrel,hle⟩:=hH.bldSet (b':=.iter (s++b) q) hr (.inr ⟨_,rfl,by rw[hT,he]; exact hst.at_⟩) hst.block (fun _=>hst.foot)
   refine ⟨_,rfl,M,φ,?_,hrel,⟨fun _ _ _ h=>h,fun _ _ _ h _=>h,hle.later,⟨hst.below,hdr⟩⟩⟩
   refine .tup _ _ rfl fun i x v hx hv=>?_
   match i,hx,hv with
   | 0,hx,hv=>simp at hx hv; subst hx; subst hv; rw[hsz]; exact .int _ _
   | 1,hx,hv=>simp at hx hv; subst hx; subst hv; exact .nili
   | i+2,hx,hv=>simp at hx

theorem qu1 {f q:Nat} (h:qc1 P fid Lays.n167 167 f q) {a:List AV} {v:AV} {H':Heap} (hw:wbL q a H v H'):q3h P fid f a H v H':=by
 obtain ⟨r,s,n,rfl,hn0,hn1,hr,hlen,rfl,rfl⟩:=hw
 intro g hg M φ B us w hargs hH hB htb
 obtain ⟨ρ,L,X,rfl,hT,he⟩:=h g hg
 obtain ⟨u0,u1,rfl⟩ : ∃ u0 u1,us = #[u0,u1]:=by
  have h1:=hargs.1
  simp at h1
  obtain ⟨l⟩:=us
  match l,h1 with
  | [a,b],_=>exact ⟨a,b,rfl⟩
 have h0:VRel fid M H φ (.iref r) u0:=hargs.head
 have h1:VRel fid M H φ (.int .u8 n) u1:=hargs.tail.head
 cases h0 with
 | iref _ b0 hp hs=>
  have hb0:=hs _ _ hr
  subst hb0
  cases h1 with
  | int _ _=>
   have hat:=hH.bl.at_ _ _ _ hr
   rw[hT,he] at hat
   have hc:((UInt8.ofNat n.toNat).toNat:Int)=n:=by
    rw[UInt8.toNat_ofNat',Nat.mod_eq_of_lt (by omega)]
    omega
   have hcall:=qct L X B _ s (UInt8.ofNat n.toNat) w hat (by unfold lim at hlen; omega) hB
   rw[hc] at hcall
   refine (q6D hcall).mono ?_
   rintro e w' ⟨rfl,hst,hdr⟩
   obtain ⟨hrel,hle⟩:=hH.bldSet (b':=.iter (s++[UInt8.ofNat n.toNat]) q) hr (.inr ⟨_,rfl,by rw[hT,he]; exact hst.at_⟩) hst.block (fun _=>hst.foot)
   exact ⟨_,rfl,M,φ,.nili,hrel,⟨fun _ _ _ h=>h,fun _ _ _ h _=>h,hle.later,⟨hst.below,hdr⟩⟩⟩

theorem qt5 {f q:Nat} (h:qc1 P fid Lays.n169 169 f q) {a:List AV} {v:AV} {H':Heap} (hw:bsL q a H v H'):q3h P fid f a H v H':=by
 obtain ⟨r,s,rfl,hr,hne,rfl,rfl⟩:=hw
 intro g hg M φ B us w hargs hH hB htb
 obtain ⟨ρ,L,X,rfl,hT,he⟩:=h g hg
 obtain ⟨u0,rfl⟩ : ∃ u0,us = #[u0]:=by
  have h1:=hargs.1
  simp at h1
  obtain ⟨l⟩:=us
  match l,h1 with
  | [a],_=>exact ⟨a,rfl⟩
 have h0:VRel fid M H φ (.iref r) u0:=hargs.head
 cases h0 with
 | iref _ b0 hp hs=>
  have hb0:=hs _ _ hr
  subst hb0
  have hat:=hH.bl.at_ _ _ _ hr
  rw[hT,he] at hat
  refine (q6D (qiG L X B _ s w hat hne)).mono ?_
  rintro e w' ⟨rfl,⟨hbel,hblk⟩,hdr⟩
  obtain ⟨hrel,hle⟩:=hH.bldSet (b':=.gone) hr (.inl rfl) hblk (fun h=>by obtain ⟨_,h⟩:=h; cases h)
  exact ⟨_,rfl,M,φ,.str _ _ rfl,hrel,⟨fun _ _ _ h=>h,fun _ _ _ h _=>h,hle.later,⟨hbel,hdr⟩⟩⟩

theorem qqW {q:Nat} {a:List AV} {v v2:AV} {H' H2:Heap} (h:wsL q a H v H') (k:wsL q a H v2 H2):v2=v∧H2=H':=by
 obtain ⟨r,s,b,rfl,hr,_,rfl,rfl⟩:=h
 obtain ⟨r2,s2,b2,e,hr2,_,rfl,rfl⟩:=k
 cases e
 rw[hr] at hr2
 cases hr2
 exact ⟨rfl,rfl⟩
theorem qr0 {q:Nat} {a:List AV} {v v2:AV} {H' H2:Heap} (h:wbL q a H v H') (k:wbL q a H v2 H2):v2=v∧H2=H':=by
 obtain ⟨r,s,b,rfl,_,_,hr,_,rfl,rfl⟩:=h
 obtain ⟨r2,s2,b2,e,_,_,hr2,_,rfl,rfl⟩:=k
 cases e
 rw[hr] at hr2
 cases hr2
 exact ⟨rfl,rfl⟩
theorem qqD {q:Nat} {a:List AV} {v v2:AV} {H' H2:Heap} (h:bsL q a H v H') (k:bsL q a H v2 H2):v2=v∧H2=H':=by
 obtain ⟨r,s,rfl,hr,_,rfl,rfl⟩:=h
 obtain ⟨r2,s2,e,hr2,_,rfl,rfl⟩:=k
 cases e
 rw[hr] at hr2
 cases hr2
 exact ⟨rfl,rfl⟩
end
end Ago
namespace Ago
open Go Go.Proofs Go.Shelf
variable {uT:Unit} [TabC uT]
def qvv:List AV→Option AV
 | [.str s,.int .u8 (.ofNat n)]=>if n<256 then some (.int .i64 (Lib.indexByte s (UInt8.ofNat n))) else none
 | _=>none
theorem qqF (s:List UInt8) (n:Nat) (h:n<256):qvv [.str s,.int .u8 n]=some (.int .i64 (Lib.indexByte s (UInt8.ofNat n))):=by
 show (if n<256 then some (AV.int .i64 (Lib.indexByte s (UInt8.ofNat n))) else none)=_
 rw[if_pos h]
theorem qey (c:UInt8) : ∀ s:List UInt8,(Lib.indexByte s c<0↔c∉s)∧-1≤Lib.indexByte s c
 | []=>by simp [Lib.indexByte]
 | b::l=>by
  obtain ⟨h1,h2⟩:=qey c l
  unfold Lib.indexByte
  by_cases hb:b=c
  ·subst hb
   simp
  ·have hb':(b == c)=false:=by simpa using hb
   have hc:c≠b:=fun e=>hb e.symm
   rw[hb']
   simp only[Km,if_false]
   by_cases hm:Lib.indexByte l c = -1
   ·have:c∉l:=h1.1 (by omega)
    simp [hm,this,hc]
   ·have:c∈l:=by
     apply Classical.byContradiction
     intro hn
     have:=h1.2 hn
     omega
    have hf:(Lib.indexByte l c == -1)=false:=by simpa using hm
    rw[hf]
    simp only[Km,if_false]
    refine ⟨⟨fun h=>by omega,fun h=>(h (Kt _ this)).elim⟩,by omega⟩
def qs2 (P:Program) (fid:FuncId→Option Nat) (f:Nat):Prop:=∀ g,fid g=some f→∃ ρ,Lays.n137 P ρ∧ρ.f 137=g
theorem qtd {P:Program} {fid:FuncId→Option Nat} {f:Nat} (h:qs2 P fid f):qqE P fid f qvv:=by
 intro ts v hv g hg M φ us w hargs hM htb
 obtain ⟨ρ,L,rfl⟩:=h g hg
 unfold qvv at hv
 split at hv
 ·rename_i s n
  split at hv
  ·rename_i hn
   cases hv
   obtain ⟨u0,u1,rfl⟩ : ∃ u0 u1,us = #[u0,u1]:=by
    have h1:=hargs.1
    simp at h1
    obtain ⟨l⟩:=us
    match l,h1 with
    | [a,b],_=>exact ⟨a,b,rfl⟩
   have h0:VRel fid M [] φ (.str s) u0:=hargs.head
   have h1:VRel fid M [] φ (.int .u8 (Int.ofNat n)) u1:=hargs.tail.head
   cases h0 with
   | str t _ ht=>
    cases h1 with
    | int _ _=>
     refine (Any.strings_IndexByte L t (Int.ofNat n) w).mono fun e w' he=>?_
     obtain ⟨rfl,rfl⟩:=he
     refine ⟨_,rfl,M,?_,fun _ _ _ h=>h,fun _ _ _ h _=>h,hM,Bel.refl _ _⟩
     rw[ht]
     exact .int _ _
  ·cases hv
 ·cases hv
end Ago
