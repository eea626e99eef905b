/- A run of the model's steps draws no fewer answers than were drawn; below a block number the world is as it was,and no fewer answers are drawn. -/
import Derived.Below
import GoSem.Core.Sem
import Derived.Test.YtahoajoopdphhaaGreatDoorMachB
import Derived.Deep.AppendSrc
import Derived.Lib.SliceRun
import Derived.Shelf.SlicesE.Kit
import Derived.Laws.BytesString
import Derived.MapKept
set_option linter.unusedSimpArgs false
set_option linter.unusedVariables false
namespace Ago
open Go

theorem qaG {α:Type} : ∀ (a:Ask α) (w:World),w.drawn≤(w.ask a).2.drawn
 | .done a,w=>Kr _
 | .ask what range k,w=>by
  unfold World.ask
  simp only
  split
  ·exact qaG (k 0) w
  ·exact Vc (Nat.le_succ _) (qaG _ { w with drawn:=w.drawn+1 })

theorem qdn (c:Sys) (w:World):w.drawn≤(w.sys c).2.drawn:=by
 have h:=qaG (Kernel.perform c w.os) w
 unfold World.sys
 split
 ·exact Kr _
 ·rename_i r os w1 _ e
  rw[e] at h
  exact h

theorem q6x {p:Program} {w:World} {a:Addr} {v:Value} {b:Bool} {w':World} {l:List Addr} (h:w.farStore p a v b = .ok (w',l)):w'.drawn=w.drawn:=by
 unfold World.farStore at h
 split at h
 ·split at h
  ·rename_i r e
   cases h
   unfold World.viewStore at e
   simp only[bind,Except.bind,pure,Except.pure] at e
   repeat' (split at e<;>try cases e)
   all_goals first | rfl | skip
  ·cases h
 ·cases h

theorem q0k {α:Type} {P:Program} (s:Sem α) : ∀ (w:World) {a:α} {w':World},s.run P w = .ok a w'→w.drawn≤w'.drawn:=by
 induction s with
 | pure a=>
  intro w _ _ h
  simp only[Sem.run] at h
  cases h
  exact Kr _
 | load m a k ih=>
  intro w _ _ h
  simp only[Sem.run] at h
  split at h
  ·exact ih _ _ h
  ·split at h
   ·exact ih _ _ h
   ·cases h
 | store m a v k ih=>
  intro w x w' h
  have fin:(match w.cell? a with
   | some _ => if w.frozen? a then Result.halt (.unsupported (.unsafePointer "a write to bytes that a string shares")) w else k.run P (w.setCell a v)
   | none=>match w.farStore P a v (m == Mode.atomic) with
    | .ok (w,_)=>k.run P w
    | .error h=>.halt h w) = .ok x w'→w.drawn≤w'.drawn:=by
   intro h
   split at h
   ·split at h
    ·cases h
    ·have:=ih _ h
     exact this
   ·split at h
    ·rename_i e
     have:=ih _ h
     rw[q6x e] at this
     exact this
    ·cases h
  cases v with
  | agg _=>simp only[Sem.run] at h; cases h
  | tuple _=>simp only[Sem.run] at h; cases h
  | _=>
   simp only[Sem.run] at h
   exact fin h
 | new o k ih=>
  intro w _ _ h
  simp only[Sem.run] at h
  have:=ih _ _ h
  exact this
 | shape r k ih=>
  intro w _ _ h
  simp only[Sem.run] at h
  exact ih _ _ h
 | freeze a n k ih=>
  intro w _ _ h
  simp only[Sem.run] at h
  have:=ih _ h
  unfold World.freeze at this
  split at this<;>exact this
 | frozen a k ih=>
  intro w _ _ h
  simp only[Sem.run] at h
  exact ih _ _ h
 | getObj r k ih=>
  intro w _ _ h
  simp only[Sem.run] at h
  split at h
  ·cases h
  ·exact ih _ _ h
  ·cases h
 | setObj r o k ih=>
  intro w _ _ h
  simp only[Sem.run] at h
  split at h
  ·cases h
  ·have:=ih _ h
   exact this
  ·cases h
 | choose q k ih=>
  intro w _ _ h
  simp only[Sem.run] at h
  split at h
  ·exact ih _ _ h
  ·have:=ih _ _ h
   exact Vc (Nat.le_succ _) this
 | sys c k ih=>
  intro w _ _ h
  simp only[Sem.run] at h
  exact Vc (qdn c w) (ih _ _ h)
 | program k ih=>
  intro w _ _ h
  simp only[Sem.run] at h
  exact ih _ _ h
 | mark m k ih=>
  intro w _ _ h
  simp only[Sem.run] at h
  exact ih _ h
 | halt e=>
  intro w _ _ h
  simp only[Sem.run] at h
  cases h

structure Bel (B:Nat) (w w':World):Prop extends RowKit.Below B w w' where
 drawn:w.drawn≤w'.drawn
theorem Bel.refl (B:Nat) (w:World):Bel B w w:=⟨RowKit.Below.refl _ _,Kr _⟩
theorem Bel.trans {B:Nat} {a b c:World} (h:Bel B a b) (k:Bel B b c):Bel B a c:=⟨h.toBelow.trans k.toBelow,Vc h.drawn k.drawn⟩
theorem Bel.mono {B B':Nat} {w w':World} (h:Bel B w w') (hB:B'≤B):Bel B' w w':=⟨h.toBelow.mono hB,h.drawn⟩
theorem Bel.of_run {α:Type} {P:Program} {B:Nat} {s:Sem α} {w w':World} {a:α} (h:RowKit.Below B w w') (hr:s.run P w = .ok a w'):Bel B w w':=⟨h,q0k s w hr⟩
class TabC (u:outParam Unit) where
 ok:Nat→World→Prop
 mono : ∀ {B:Nat} {w w':World},ok B w→Bel B w w'→ok B w'
 up : ∀ {B B':Nat} {w:World},ok B w→B≤B'→ok B' w
instance (priority:=low) noTab:TabC ():=⟨fun _ _=>True,fun _ _=>trivial,fun _ _=>trivial⟩
end Ago
namespace Ago
open Go

theorem q0O : ∀ (a b:List AV),flat (a++b)=flat a++flat b
 | [],_=>rfl
 | x::a,b=>by simp only[Kf,Ago.flat,q0O a b,Ke]

theorem qcI {n off:Nat} {vs:List AV} {e:AV} (hn:0<n) (he:e.cells.length=n) (he1:e.cells.all AV.one=true) (hv1:vs.all AV.one=true) (hle:off+vs.length≤n) :
  (q40 n off vs e).cells=e.cells.take off++vs++e.cells.drop (off+vs.length):=by
 have single : ∀ x:AV,x.cells=[x]→(∀ cs,x ≠ .agg cs)→n=1→(q40 n off vs x).cells=[x].take off++vs++[x].drop (off+vs.length):=by
  intro x hx hna h1
  subst h1
  cases off with
  | zero=>
   cases vs with
   | nil=>
    have e:q40 1 0 [] x=x:=by cases x<;>first | rfl | (exact (hna _ rfl).elim)
    rw[e]
    simpa using hx
   | cons v vs=>
    cases vs with
    | nil=>
     have e:q40 1 0 [v] x=v:=by cases x<;>first | rfl | (exact (hna _ rfl).elim)
     have hv:v.one=true:=by simpa using hv1
     have:v.cells=[v]:=by cases v<;>first | rfl | cases hv
     rw[e,this]
     rfl
    | cons _ _=>simp at hle
  | succ off=>
   cases vs with
   | nil=>
    cases off with
    | zero=>
     have e:q40 1 (0+1) [] x=x:=by cases x<;>first | rfl | (exact (hna _ rfl).elim)
     rw[e]
     simpa using hx
    | succ off=>simp at hle
   | cons v vs=>simp at hle; omega
 cases e with
 | agg cs=>
  have hn':cs.length=n:=he
  unfold q40
  split
  ·rename_i h
   obtain ⟨rfl,hv⟩:=h
   show vs=_
   simp only[AV.cells,VC,Kh,KS,hv]
   rw[←hn',List.drop_length,Kj]
  ·rfl
 | dead=>simp [AV.cells,AV.one] at he1
 | tup _=>simp [AV.cells,AV.one] at he1
 | _=>exact single _ rfl (fun _ h=>by cases h) he.symm

theorem qdA {n off:Nat} {vs:List AV} {e:AV} (he:e.isPure=true) (hv:vs.all (AV.pureN 5)=true):(q40 n off vs e).isPure=true:=by
 have hvs : ∀ x,x∈vs→AV.pureN 5 x=true:=fun x hx=>Kp.1 hv x hx
 have hset:(setCells e off vs).isPure=true:=by
  unfold setCells
  split
  ·rename_i cs
   have hcs : ∀ x,x∈cs→AV.pureN 5 x=true:=fun x hx=>Kp.1 (show cs.all (AV.pureN 5)=true from he) x hx
   refine Kp.2 fun x hx=>?_
   simp only[Kv] at hx
   rcases hx with (hx | hx) | hx
   ·exact hcs x (KB hx)
   ·exact hvs x hx
   ·exact hcs x (KW hx)
  ·split
   ·exact q29 5 _ (hvs _ (Ku ..))
   ·exact he
 unfold q40
 split
 ·split
  ·exact hv
  ·exact hset
 ·exact hset

theorem qce {n i off:Nat} {vs els els':List AV} (hn:0<n) (hw : ∀ x,x∈els→x.cells.length=n∧x.cells.all AV.one=true) (hv1:vs.all AV.one=true) (h:q9i n i off vs els=some els') :
  i * n+off+vs.length≤els.length * n∧els'.length=els.length∧flat els'=(flat els).take (i * n+off)++vs++(flat els).drop (i * n+off+vs.length) ∧
  (∀ x,x∈els'→x.cells.length=n∧x.cells.all AV.one=true)∧((∀ x,x∈els→x.isPure=true)→vs.all (AV.pureN 5)=true→∀ x,x∈els'→x.isPure=true):=by
 have hfl:=q0P (fun x hx=>(hw x hx).1)
 unfold q9i at h
 split at h
 ·rename_i hle
  split at h
  ·rename_i e he
   simp only[Kq] at h
   subst h
   have hi:=q0f he
   have hem:e∈els:=Kc he
   obtain ⟨hen,he1⟩:=hw e hem
   have hc:=qcI hn hen he1 hv1 hle
   have hsplit:els=els.take i++e::els.drop (i+1):=by
    rw[Ks] at he
    obtain ⟨h1,h2⟩:=he
    rw[←h2,←VR h1,Vl]
   have hA:(flat (els.take i)).length=i * n:=by
    rw[q0P (n:=n) (fun x hx=>(hw x (KB hx)).1),KI,VT (Nat.le_of_lt hi)]
   have hF:flat els=flat (els.take i)++(e.cells++flat (els.drop (i+1))):=by
    conv=>lhs; rw[hsplit]
    rw[q0O]
    rfl
   have hset:flat (els.set i (q40 n off vs e))=flat (els.take i)++((q40 n off vs e).cells++flat (els.drop (i+1))):=by
    rw[List.set_eq_take_append_cons_drop,if_pos hi,q0O]
    rfl
   have hbound:=Vh n (Nat.succ_le_of_lt hi)
   rw[Nat.succ_mul] at hbound
   refine ⟨by omega,by simp,?_,fun x hx=>?_,fun hp hvp x hx=>?_⟩
   ·rw[hset,hc,hF,←hA,List.take_length_add_append,Ke,Ke,KT,List.drop_length_add_append,List.take_append_of_le_length (by rw[hen]; omega),VU (by rw[hen]; exact hle)]
    simp only[Ke]
   ·rcases V3 hx with h | h
    ·exact hw x h
    ·subst h
     rw[hc]
     refine ⟨by simp [hen]; omega,?_⟩
     simp only[List.all_append,Kk]
     exact ⟨⟨Kp.2 fun y hy=>Kp.1 he1 y (KB hy),hv1⟩,Kp.2 fun y hy=>Kp.1 he1 y (KW hy)⟩
   ·rcases V3 hx with h | h
    ·exact hp x h
    ·subst h
     exact qdA (hp e hem) hvp
  ·cases h
 ·split at h
  ·rename_i hc
   obtain ⟨rfl,hmod,hle⟩:=hc
   simp only[Kq] at h
   subst h
   have hlen:vs.length=vs.length / n * n:=(Nat.div_mul_cancel (Nat.dvd_of_mod_eq_zero hmod)).symm
   generalize vs.length / n=k at hlen hle ⊢
   obtain ⟨hc1,hc2⟩:=q6f hn k vs hlen hv1
   have hA:(flat (els.take i)).length=i * n:=by
    rw[q0P (n:=n) (fun x hx=>(hw x (KB hx)).1),KI,VT (by omega)]
   have hB:(flat (els.take (i+k))).length=i * n+vs.length:=by
    rw[q0P (n:=n) (fun x hx=>(hw x (KB hx)).1),KI,VT hle,Vi,←hlen]
   have hF1:flat els=flat (els.take i)++flat (els.drop i):=by rw[←q0O,Vl]
   have hF2:flat els=flat (els.take (i+k))++flat (els.drop (i+k)):=by rw[←q0O,Vl]
   have hbound:=Vh n hle
   rw[Vi,←hlen] at hbound
   refine ⟨by omega,?_,?_,fun x hx=>?_,fun hp hvp x hx=>?_⟩
   ·simp only[Kb,KI,VZ,q8z]
    omega
   ·have e1:(flat els).take (i * n+0)=flat (els.take i):=by
     rw[hF1,Vs,List.take_append_of_le_length (by omega),Kz (by omega)]
    have e2:(flat els).drop (i * n+0+vs.length)=flat (els.drop (i+k)):=by
     conv=>lhs; rw[hF2]
     rw[VU (by omega),KX (by omega),Kh]
    rw[e1,e2,q0O,q0O,hc1]
   ·simp only[Kv] at hx
    rcases hx with (hx | hx) | hx
    ·exact hw x (KB hx)
    ·exact hc2 x hx
    ·exact hw x (KW hx)
   ·simp only[Kv] at hx
    rcases hx with (hx | hx) | hx
    ·exact hp x (KB hx)
    ·exact q6c _ _ (fun y hy=>Kp.1 hvp y hy) x hx
    ·exact hp x (KW hx)
  ·cases h

section
variable {P:Program} {fid:FuncId→Option Nat} {pf:Nat→Bool} {M:Mem} {H H':Heap} {φ φ':Nat→Loc} {B:Nat} {w w':World} {as:List AV} {v:AV}

theorem RowAt.ofFlat {L:Loc} {r n:Nat} {els:List AV} {fl:Bool} {fam:Nat} {c:Array Value} {t:TypeId} {fr:Nat × Nat} (base:B≤L.blk) (pos:0<n) (fits:L.off+els.length * n≤L.size)
  (hc:w.heap[L.blk]?=some (.cells c t fr)) (hsz:c.size=L.size) (hfz : ∀ o,o<L.size→¬ (fr.1≤o∧o<fr.2)) (hcell : ∀ (q:Nat) (y:AV),(Ago.flat els)[q]?=some y→∃ u,c[L.off+q]?=some u∧VRel fid M H φ y u)
  (wide : ∀ x,x∈els→x.cells.length=n∧x.cells.all AV.one=true) (hfl:fl=true→∀ x,x∈els→x.isPure=true):RowAt fid M H φ B w L r n els fl fam:=
 ⟨base,pos,fits,⟨c,t,fr,hc,hsz,hfz,fun i x j y hx hy=>by
  obtain ⟨u,h1,h2⟩:=hcell (i * n+j) y (qfp (fun z hz=>(wide z hz).1) hx hy)
  exact ⟨u,by rw[KT]; exact h1,h2⟩⟩,wide,hfl⟩

theorem RowAt.flatGet {L:Loc} {r n:Nat} {els:List AV} {fl:Bool} {fam:Nat} (h:RowAt fid M H φ B w L r n els fl fam) : ∃ c t fr,w.heap[L.blk]?=some (.cells c t fr)∧c.size=L.size∧(∀ o,o<L.size→¬ (fr.1≤o∧o<fr.2)) ∧
  ∀ (q:Nat) (y:AV),(Ago.flat els)[q]?=some y→∃ u,c[L.off+q]?=some u∧VRel fid M H φ y u:=by
 obtain ⟨c,t,fr,hc,hsz,hfz,hcell⟩:=h.cells
 refine ⟨c,t,fr,hc,hsz,hfz,fun q y hy=>?_⟩
 obtain ⟨i,x,j,h1,h2,rfl⟩:=q80 (fun z hz=>(h.wide z hz).1) hy
 obtain ⟨u,h3,h4⟩:=hcell i x j y h1 h2
 exact ⟨u,by rw[←KT]; exact h3,h4⟩

def EffOk (P:Program) (fid:FuncId→Option Nat) (M:Mem) (H:Heap) (φ:Nat→Loc) (B:Nat) (w:World) (s:Sem Value) (v:AV) (H':Heap):Prop:=
 ∃ r w' φ',s.run P w = .ok r w'∧HRel fid M H' φ' B w'∧HLe H.length H H' φ φ'∧VRel fid M H' φ' v r∧RowKit.Below B w w'

theorem q6a:VRel fid M H φ (.tup []) (.tuple #[]):=.tup [] #[] rfl (fun i x v h=>by cases h)

theorem HRel.rewrite {r n:Nat} {els els':List AV} {fl fl':Bool} {fam p:Nat} {us:List Value} {vs:List AV} {H1:Heap} (hH:HRel fid M H φ B w) (hr:H[r]?=some (.row n els false fl fam)) (hs:H.strike r fam 0=some H1)
  (hfit:p+vs.length≤els.length * n) (hvs:VRels fid M H φ vs us) (hlen:els'.length=els.length) (hflat:flat els'=(flat els).take p++vs++(flat els).drop (p+vs.length))
  (hwide : ∀ x,x∈els'→x.cells.length=n∧x.cells.all AV.one=true) (hfl:fl'=true→∀ x,x∈els'→x.isPure=true) :
  HRel fid M (H1.set r (.row n els' false fl' fam)) φ B (w.setCells (φ r).blk ((φ r).off+p) us)∧HLe H.length H (H1.set r (.row n els' false fl' fam)) φ φ∧RowKit.Below B w (w.setCells (φ r).blk ((φ r).off+p) us):=by
 have R:=hH.row _ _ _ _ _ _ hr
 have hus:us.length=vs.length:=hvs.1.symm
 have W:=hH.write (p:=p) (vs:=us) hr hs (.inl rfl) (.inl rfl) (by simp) (by have:=R.fits; omega)
 obtain ⟨hl1,hspec⟩:=q2X hs
 have hrlt:r<H1.length:=by rw[hl1]; exact q0f hr
 have hid:(H1.set r (.row n els' false fl' fam))[r]?=some (.row n els' false fl' fam):=by simp [hrlt]
 have hne : ∀ i,i≠r→(H1.set r (.row n els' false fl' fam))[i]?=H1[i]?:=fun i hi=>K0 (fun e=>hi e.symm)
 have hle:HLe H.length H (H1.set r (.row n els' false fl' fam)) φ φ:=by
  refine ⟨by simp [hl1],fun i b hi hb=>?_⟩
  by_cases he:i=r
  ·subst he
   rw[hr] at hb
   cases hb
   exact ⟨_,hid,.inr ⟨_,_,_,_,rfl,hlen⟩,fun _=>⟨by simp,rfl⟩⟩
  ·rw[hne i he]
   rcases hspec i b hb with ⟨h1,_⟩ | ⟨h1,_,_,_,_,rfl⟩
   ·exact ⟨b,h1,b.le_refl,fun h=>⟨h,rfl⟩⟩
   ·exact ⟨.gone,h1,.inl rfl,fun _=>⟨by simp,rfl⟩⟩
 refine ⟨?_,hle,W.below⟩
 obtain ⟨c,t,fr,hc,hsz,hfz,hcell⟩:=R.flatGet
 obtain ⟨c',hc',hsz',hout,hin⟩:=W.blk c t fr hc
 refine hH.step (id:=r) (L:=φ r) hle (fun i b hi hb=>?_) hid rfl (fun i n0 els0 fl0 fam0 hi=>?_) (fun i n0 els0 ro0 fl0 fam0 hi hb _=>?_) W.maps W.mem ?_ (fun i n0 els0 ro0 fl0 fam0 hi hb h1 hblk=>?_) (fun o u hm=>?_) (fun k _ hk=>W.others k fun e=>hk r _ _ _ _ _ hr e.symm) (.inl ⟨r,_,_,_,_,_,hr,rfl⟩)
 ·rw[hne i hi] at hb
  rcases q2Q hs hb with h | ⟨h,_⟩
  ·exact .inl h
  ·exact .inr (.inr ⟨h,rfl⟩)
 ·have he:i≠r:=fun e=>by subst e; rw[hr] at hi; cases hi
  refine ⟨he,?_⟩
  rw[hne i he]
  rcases hspec i _ hi with ⟨h1,_⟩ | ⟨_,_,_,_,_,h1⟩
  ·rw[h1,hi]
  ·cases h1
 ·exact W.rows i _ _ _ _ _ (.inl hi) (by rw[←hne i hi]; exact hb)
 ·refine RowAt.ofFlat (t:=t) R.base R.pos (by rw[hlen]; exact R.fits) hc' (by rw[hsz']; exact hsz) hfz (fun q y hy=>?_) hwide hfl
  have hflen:=q0P (fun x hx=>(R.wide x hx).1)
  rw[hflat,Ke,Vo] at hy
  have hpl:((flat els).take p).length=p:=by rw[KI,hflen]; omega
  rw[hpl] at hy
  split at hy
  ·rename_i hq
   rw[VA,if_pos hq] at hy
   obtain ⟨u,h1,h2⟩:=hcell q y hy
   exact ⟨u,by rw[hout _ (.inl (by omega))]; exact h1,h2⟩
  ·rename_i hq
   rw[Vo] at hy
   split at hy
   ·rename_i hq2
    obtain ⟨u,h1,h2⟩:=q1i hvs hy
    refine ⟨u,?_,h2⟩
    have:=hin (q-p) (by omega)
    rw[show (φ r).off+p+(q-p)=(φ r).off+q by omega] at this
    rw[this,h1]
   ·rename_i hq2
    rw[VB,show p+vs.length+(q-p-vs.length)=q by omega] at hy
    obtain ⟨u,h1,h2⟩:=hcell q y hy
    exact ⟨u,by rw[hout _ (.inr (by omega))]; exact h1,h2⟩
 ·rw[hne i hi] at hb
  obtain ⟨h3,h4,h5⟩:=hH.sepRR i r _ _ _ _ _ _ _ _ _ _ hi h1 hr hblk
  exact ⟨h3,h4,h5⟩
 ·exact hH.ownR _ _ _ _ _ _ hr o u hm

theorem q9q {cs:List AV} {us:List Value} (h:VRels fid M H φ cs us) (h1:cs.all AV.one=true) : ∀ u,u∈us→u.oneCell'=true:=by
 intro u hu
 obtain ⟨i,hi,he⟩:=Vk.1 hu
 have hi':i<cs.length:=h.1▸hi
 exact (h.2 i cs[i] u (Ki hi') (by rw[Ki hi,he])).oneCell (Kp.1 h1 _ (List.getElem_mem hi'))

theorem qq7 {t:TypeId} {A X:Value} (hH:HRel fid M H φ B w) (hu:(P.underlying t).isSome=true) (h:VRels fid M H φ as [A,X]) (hv:qhi (q0n P t) H as=some (v,H')) :
  EffOk P fid M H φ B w (Instr.storeAt t A X >>= fun _=>pure (.tuple #[])) v H':=by
 unfold qhi at hv
 split at hv
 ·rename_i n r i off x
  split at hv
  ·rename_i hc
   obtain ⟨hlen,hone⟩:=hc
   have hA:=h.head
   have hX:=h.tail.head.cells hone
   simp only[Kg] at hv
   obtain ⟨H2,hv,he⟩:=hv
   simp only[qkZ,Vm] at he
   obtain ⟨rfl,rfl⟩:=he
   unfold Heap.store at hv
   obtain ⟨n',els,ro,fl,fam,hr,hv2⟩:=q3A hv
   clear hv
   split at hv2
   ·rename_i hc
    obtain ⟨rfl,rfl⟩:=hc
    unfold qpq at hv2
    split at hv2
    ·rename_i els' H1 hrs hst
     simp only[Kq] at hv2
     subst hv2
     have R:=hH.row _ _ _ _ _ _ hr
     obtain ⟨h1,h2,h3,h4,h5⟩:=qce R.pos R.wide hone hrs
     obtain ⟨hrel,hle,hbel⟩:=hH.rewrite (us:=X.cells.toList) hr hst h1 hX h2 h3 h4 (fl':=fl && x.cells.all (AV.pureN 5)) (fun hf=>by
      simp only[Kk] at hf
      exact h5 (R.flat hf.1) hf.2)
     cases hA with
     | ptr _ _ _ _ ad hp hh=>
      have hae:=hh els false fl fam hr
      subst hae
      have hsz:X.cells.size=q0n P t:=by have:=hX.1; simp at this; omega
      obtain ⟨c,ty,fr,hcb,hcs,hfz,_⟩:=R.cells
      have hrun:(storeCells ⟨(φ r).blk,(φ r).off+i * n'+off,none⟩ X.cells.toList).run P w = .ok () (w.setCells (φ r).blk ((φ r).off+(i * n'+off)) X.cells.toList):=by
       have hfits:=R.fits
       have hXl:X.cells.toList.length=x.cells.length:=hX.1.symm
       have:=run_storeCells_cells (P:=P) (φ r).blk ((φ r).off+i * n'+off) X.cells.toList 0 w (fun j hj=>by
         rw[cell_of_heap hcb,KU (by omega)]
         rfl)
        (fun j hj=>q28 hcb (hfz _ (by omega))) (fun u hu=>q9q hX hone u hu)
       rw[this,Vs,KT]
      refine ⟨.tuple #[],_,φ,?_,hrel,hle,q6a,hbel⟩
      simp only[Instr.storeAt,Instr.sureAddr,Sem.run_bind,Sem.run_pure,Result.andThen_ok,storeVar,q5k hu,hsz,ne_eq,not_true_eq_false,if_false,hrun]
    ·cases hv2
   ·cases hv2
  ·cases hv
 ·cases hv
end
end Ago
namespace Ago
open Go

theorem qax {n:Nat} : ∀ {l:List AV},(∀ x,x∈l→x.cells.length=n∧x.cells.all AV.one=true)→(flat l).all AV.one=true
 | [],_=>rfl
 | x::l,h=>by
  simp only[Ago.flat,List.all_append,Kk]
  exact ⟨(h x (Ku ..)).2,qax fun y hy=>h y (Kt _ hy)⟩

section
variable {P:Program} {fid:FuncId→Option Nat} {pf:Nat→Bool} {M:Mem} {H H':Heap} {φ φ':Nat→Loc} {B:Nat} {w w':World} {as:List AV} {v:AV}

theorem q4a {b o:Nat} {cs:List AV} (h : ∀ (q:Nat) (y:AV),cs[q]?=some y→∃ u,w.cell? ⟨b,o+q,none⟩=some u∧VRel fid M H φ y u) :
  ∃ us:List Value,us.length=cs.length∧(∀ j u,us[j]?=some u→w.cell? ((⟨b,o,none⟩:Addr).add j)=some u)∧VRels fid M H φ cs us:=by
 let f:Nat→Value:=fun j=>(w.cell? ⟨b,o+j,none⟩).getD Go.undef
 have hf : ∀ (j:Nat) (y:AV),cs[j]?=some y→w.cell? ⟨b,o+j,none⟩=some (f j)∧VRel fid M H φ y (f j):=fun j y hy=>by
  obtain ⟨u,h1,h2⟩:=h j y hy
  simp only[f,h1,K8]
  exact ⟨trivial,h2⟩
 refine ⟨(List.range cs.length).map f,by simp,fun j u hj=>?_,by simp,fun i x u hx hu=>?_⟩
 ·have hlt:j<cs.length:=by have:=q0f hj; simpa using this
  simp only[KH,VF hlt,KM,Kq] at hj
  subst hj
  rw[q2v]
  exact (hf j cs[j] (Ki hlt)).1
 ·have hlt:=q0f hx
  simp only[KH,VF hlt,KM,Kq] at hu
  subst hu
  exact (hf i x hx).2

theorem q8x {n:Nat} {els:List AV} (hw : ∀ x,x∈els→x.cells.length=n) {b o:Nat} (h : ∀ (i:Nat) (x:AV) (j:Nat) (y:AV),els[i]?=some x→x.cells[j]?=some y→∃ u,w.cell? ⟨b,o+i * n+j,none⟩=some u∧VRel fid M H φ y u) :
  ∀ (q:Nat) (y:AV),(flat els)[q]?=some y→∃ u,w.cell? ⟨b,o+q,none⟩=some u∧VRel fid M H φ y u:=fun q y hy=>by
 obtain ⟨i,x,j,h1,h2,rfl⟩:=q80 hw hy
 obtain ⟨u,h3,h4⟩:=h i x j y h1 h2
 exact ⟨u,by rw[←KT]; exact h3,h4⟩

theorem RowAt.part {L:Loc} {r n:Nat} {els:List AV} {fl:Bool} {fam:Nat} (h:RowAt fid M H φ B w L r n els fl fam) (i k:Nat) :
  ∀ (i':Nat) (x:AV) (j:Nat) (y:AV),((els.drop i).take k)[i']?=some x→x.cells[j]?=some y→∃ u,w.cell? ⟨L.blk,L.off+i * n+i' * n+j,none⟩=some u∧VRel fid M H φ y u:=by
 intro i' x j y hx hy
 obtain ⟨c,t,fr,hc,_,_,hcell⟩:=h.cells
 rw[VA] at hx
 split at hx
 ·rw[VB] at hx
  obtain ⟨u,h1,h2⟩:=hcell _ _ _ _ hx hy
  refine ⟨u,?_,h2⟩
  rw[cell_of_heap hc,←h1,Vi]
  simp [KT]
 ·cases hx

theorem q99 (hH:HRel fid M H φ B w) {n:Nat} {x:AV} {X:Value} {els:List AV} (hx:VRel fid M H φ x X) (he:H.elems n x=some els) :
  ∃ a len cap,X = .slice a len cap∧len=els.length∧(∀ y,y∈els→y.cells.length=n∧y.cells.all AV.one=true)∧(H.flatOf x=true→∀ y,y∈els→y.isPure=true) ∧
   (els=[]∨∃ b o,a=some ⟨b,o,none⟩∧∀ (q:Nat) (y:AV),(flat els)[q]?=some y→∃ u,w.cell? ⟨b,o+q,none⟩=some u∧VRel fid M H φ y u):=by
 unfold Heap.elems at he
 split at he
 ·rename_i m
  cases he
  cases hx with
  | snil _ a=>exact ⟨a,0,0,rfl,rfl,fun y hy=>(by cases hy),fun _ y hy=>(by cases hy),.inl rfl⟩
 ·rename_i m l
  split at he
  ·rename_i hc
   cases he
   cases hx with
   | tsl _ _ a len cap b o vf hl hcap ha hn hm hv=>
    rcases hc with hc | hc
    ·subst hc
     refine ⟨a,len,cap,rfl,hl.symm,fun y hy=>?_,fun _ y hy=>?_,?_⟩
     ·obtain ⟨i,hi,e⟩:=Vk.1 hy
      exact (hn i y (by rw[Ki hi,e])).2
     ·obtain ⟨i,hi,e⟩:=Vk.1 hy
      exact (hn i y (by rw[Ki hi,e])).1
     ·by_cases h0:els=[]
      ·exact .inl h0
      ·have hpos:0<len:=by rw[←hl]; exact List.length_pos_iff.2 h0
       refine .inr ⟨b,o,ha hpos,q8x (n:=m) (fun y hy=>?_) fun i y j z hy hz=>?_⟩
       ·obtain ⟨i,hi,e⟩:=Vk.1 hy
        exact (hn i y (by rw[Ki hi,e])).2.1
       ·have hj:j<m:=by have:=q0f hz; rw[(hn i y hy).2.1] at this; exact this
        exact ⟨vf i j,hH.mem _ _ _ (hm i j (by rw[←hl]; exact q0f hy) hj),hv i y j z hy hz⟩
    ·subst hc
     exact ⟨a,len,cap,rfl,hl.symm,fun y hy=>(by cases hy),fun _ y hy=>(by cases hy),.inl rfl⟩
  ·cases he
 ·rename_i m r i len
  obtain ⟨n',els',ro,fl,fam,hr,he2⟩:=q3A he
  clear he
  split at he2
  ·rename_i hc
   obtain ⟨rfl,rfl,hle⟩:=hc
   simp only[Kq] at he2
   subst he2
   have R:=hH.row _ _ _ _ _ _ hr
   cases hx with
   | sref _ _ _ _ cap a hcap ha hp hs=>
    refine ⟨a,len,cap,rfl,by simp; omega,fun y hy=>R.wide y (KW (KB hy)),fun hf y hy=>?_,?_⟩
    ·simp only[Heap.flatOf,hr] at hf
     exact R.flat hf y (KW (KB hy))
    ·by_cases h0:len=0
     ·subst h0; exact .inl (by simp)
     ·obtain ⟨_,hs2⟩:=hs _ _ _ _ hr
      obtain ⟨hae,_⟩:=hs2 (by omega)
      exact .inr ⟨_,_,hae,q8x (fun y hy=>(R.wide y (KW (KB hy))).1) (R.part i len)⟩
  ·cases he2
 ·cases he

theorem qlg (hH:HRel fid M H φ B w) {n:Nat} {tx e':TypeId} (hk:P.underlying tx=some (.slice e')) {x:AV} {X:Value} {els:List AV} (hx:VRel fid M H φ x X) (he:H.elems n x=some els) :
  ∃ us,Src P n tx X els.length us w∧VRels fid M H φ (flat els) us∧(∀ y,y∈els→y.cells.length=n∧y.cells.all AV.one=true)∧(H.flatOf x=true→∀ y,y∈els→y.isPure=true):=by
 obtain ⟨a,len,cap,rfl,hl,hw,hp,hc⟩:=q99 hH hx he
 rcases hc with h0 | ⟨b,o,rfl,hcell⟩
 ·subst h0
  have hl':len=0:=hl
  subst hl'
  refine ⟨[],?_,VRels.nil,hw,hp⟩
  cases a with
  | none=>exact Src.ofNil w hk cap
  | some a=>exact Src.ofSlice w hk a 0 cap [] (by simp) (by simp) (by simp)
 ·obtain ⟨us,h1,h2,h3⟩:=q4a hcell
  have hones:=qax hw
  subst hl
  exact ⟨us,Src.ofSlice w hk _ _ cap us (by rw[h1,q0P (fun y hy=>(hw y hy).1)]) h2 (q9q h3 hones),h3,hw,hp⟩

theorem q3q (t tx ty e:TypeId) (i:TypeInfo) (ht:P.underlying t=some (.slice e)) (hi:P.info? e=some i) (base:Option Addr) (sLen sCap:Nat) (x:Value) (hs:Src P i.size tx x 0 [] w) (hroom:sLen≤sCap) :
  (Builtin.append_ #[t,tx] ty #[.slice base sLen sCap,x]).run P w = .ok (.slice base sLen sCap) w:=by
 rcases hs.kind with ⟨e',hk⟩ | hk<;>cases base<;>simp [Builtin.append_,run_underlying ht,run_underlying hk,Go.sizeOf,typeInfo,hi,hs.len,hroom,hs.cells,storeCells]

structure Grown (H H1:Heap) (r n i len:Nat) (els:List AV) (ro:Bool) (fam:Nat) (els2:List AV) (fam2 from_ x:Nat) (news:List AV):Prop where
 st:H.strike x fam from_=some H1
 ends:i+len≤els.length
 new:els2=(els.drop i).take len++news
 how:(i=0∧len=els.length∧x=r∧from_=len+1∧fam2=fam)∨(x=H.length∧from_=0)

theorem HRel.grow {H1:Heap} {r n i len:Nat} {els:List AV} {ro fl:Bool} {fam fam2 from_ x:Nat} {els2 news:List AV} {fl2:Bool} {L:Loc} (hH:HRel fid M H φ B w) (hr:H[r]?=some (.row n els ro fl fam)) (g:Grown H H1 r n i len els ro fam els2 fam2 from_ x news)
  (hrows : ∀ r' n' els' ro' fl' fam',H1[r']?=some (.row n' els' ro' fl' fam')→RowAt fid M H φ B w' (φ r') r' n' els' fl' fam') (hmaps : ∀ r es,H[r]?=some (.map es)→MapAt fid M H φ B w' (φ r) es)
  (hmem : ∀ b o v,M b o=some v→w'.cell? ⟨b,o,none⟩=some v) (hnew:RowAt fid M H φ B w' L H.length n els2 fl2 fam2)
  (hblk:(∀ r' n' els' ro' fl' fam',H[r']?=some (.row n' els' ro' fl' fam')→(φ r').blk≠L.blk)∧(∀ o,M L.blk o=none)∨L.blk=(φ r).blk∧L.off=(φ r).off+i * n)
  (hwb : ∀ k,k<w.heap.size→(∀ r n els ro fl fam,H[r]?=some (.row n els ro fl fam)→(φ r).blk≠k)→w'.heap[k]?=w.heap[k]?) (hLb:L.blk=(φ r).blk∨w.heap.size≤L.blk) :
  HRel fid M (H1++[.row n els2 false fl2 fam2]) (q0Q φ H.length L) B w'∧HLe H.length H (H1++[.row n els2 false fl2 fam2]) φ (q0Q φ H.length L):=by
 obtain ⟨hl1,hspec⟩:=q2X g.st
 have hid:(H1++[Blk.row n els2 false fl2 fam2])[H.length]?=some (.row n els2 false fl2 fam2):=by rw[←hl1]; simp
 have hne : ∀ r' b,r'≠H.length→(H1++[Blk.row n els2 false fl2 fam2])[r']?=some b→H1[r']?=some b:=fun r' b hr' hb=>by
  have hlt:=q0f hb
  simp only[Kb,List.length_singleton,hl1] at hlt
  rwa [KG (by rw[hl1]; omega)] at hb
 have hlt : ∀ r' b,H[r']?=some b→(H1++[Blk.row n els2 false fl2 fam2])[r']?=H1[r']?:=fun r' b hb=>KG (by rw[hl1]; exact q0f hb)
 have loc : ∀ r',r'≠H.length→q0Q φ H.length L r'=φ r':=fun r' h=>by simp [q0Q,h]
 have hle:HLe H.length H (H1++[.row n els2 false fl2 fam2]) φ (q0Q φ H.length L):=by
  refine ⟨by simp [hl1],fun r' b hr' hb=>?_⟩
  rw[hlt r' b hb,loc r' (by omega)]
  rcases hspec r' b hb with ⟨h1,_⟩ | ⟨h1,_,_,_,_,rfl⟩
  ·exact ⟨b,h1,b.le_refl,fun h=>⟨h,rfl⟩⟩
  ·exact ⟨.gone,h1,.inl rfl,fun _=>⟨by simp,rfl⟩⟩
 refine ⟨?_,hle⟩
 refine hH.step (id:=H.length) (L:=L) hle (fun r' b hne' hb=>?_) hid (by simp [q0Q]) (fun r' n0 els0 fl0 fam0 hr'=>?_) (fun r' n0 els0 ro0 fl0 fam0 hne' hb _=>?_) hmaps hmem hnew (fun r' n0 els0 ro0 fl0 fam0 hne' hb h1 hbk=>?_) (fun o u hm=>?_) hwb (hLb.imp_left fun e=>⟨r,_,_,_,_,_,hr,e.symm⟩)
 ·rcases q2Q g.st (hne r' b hne' hb) with h | ⟨h,_⟩
  ·exact .inl h
  ·exact .inr (.inr ⟨h,loc r' hne'⟩)
 ·refine ⟨by have:=q0f hr'; omega,?_⟩
  rw[hlt r' _ hr']
  rcases hspec r' _ hr' with ⟨h1,_⟩ | ⟨_,_,_,_,_,h1⟩
  ·rw[h1,hr']
  ·cases h1
 ·exact hrows r' _ _ _ _ _ (hne r' _ hne' hb)
 ·rcases hblk with ⟨h2,_⟩ | ⟨h2,h3⟩
  ·exact (h2 r' _ _ _ _ _ h1 hbk).elim
  ·rw[h2] at hbk
   have hfam:fam0=fam∧n0=n∧(φ r').off=(φ r).off:=by
    by_cases he:r'=r
    ·subst he; rw[hr] at h1; cases h1; exact ⟨rfl,rfl,rfl⟩
    ·exact hH.sepRR r' r _ _ _ _ _ _ _ _ _ _ he h1 hr hbk
   rcases g.how with ⟨hi,_,_,_,hf⟩ | ⟨hx,hf⟩
   ·subst hi
    refine ⟨hfam.1.trans hf.symm,hfam.2.1,?_⟩
    rw[h3,hfam.2.2]; simp
   ·rcases q2Q g.st (hne r' _ hne' hb) with h | ⟨_,h⟩
    ·cases h
    ·rcases h n0 els0 ro0 fl0 (by rw[hfam.1]) with h | h
     ·rw[hx] at h; exact (hne' h).elim
     ·omega
 ·rcases hblk with ⟨_,h2⟩ | ⟨h2,h3⟩
  ·rw[h2 o] at hm; cases hm
  ·rw[h2] at hm
   obtain ⟨r2,els3,fl3,h4,h5,h6⟩:=hH.ownR _ _ _ _ _ _ hr o u hm
   rcases g.how with ⟨hi,_,_,_,hf⟩ | ⟨hx,hf⟩
   ·subst hi
    exact ⟨r2,els3,fl3,by rw[hf]; exact h4,by rw[h2]; exact h5,by rw[h3]; simpa using h6⟩
   ·rcases hspec r2 _ h4 with ⟨_,h7⟩ | ⟨_,_,_,_,_,h7⟩
    ·rcases h7 _ _ _ _ rfl with h | h
     ·rw[hx] at h; have:=q0f h4; omega
     ·omega
    ·cases h7

theorem q7m {t tx ty e e':TypeId} {X S:Value} {r i len:Nat} {x:AV} {news els:List AV} {ro fl fl2:Bool} {fam fam2 from_ y:Nat} {els2:List AV} {H1:Heap} (hH:HRel fid M H φ B w) (hB:B≤w.heap.size) (ht:P.underlying t=some (.slice e))
  (hn:q0n P e≠0) {z:AV} (hz:q2z P e=some z) (hS:VRel fid M H φ (.sref (q0n P e) r i len) S) (us:List Value) (hsrc:Src P (q0n P e) tx X news.length us w) (hus:VRels fid M H φ (flat news) us)
  (hwn : ∀ y,y∈news→y.cells.length=q0n P e∧y.cells.all AV.one=true) (hr:H[r]?=some (.row (q0n P e) els ro fl fam)) (hbytes:(len+news.length) * q3d P e≤2^40) (hlim:len+news.length≤lim)
  (g:Grown H H1 r (q0n P e) i len els ro fam els2 fam2 from_ y news) (hfl:fl2=true→∀ y,y∈els2→y.isPure=true) :
  EffOk P fid M H φ B w (Builtin.append_ #[t,tx] ty #[S,X]) (.sref (q0n P e) H.length 0 (len+news.length)) (H1++[.row (q0n P e) els2 false fl2 fam2]):=by
 obtain ⟨inf,zv,hi,hzv,hzr,hzl,hz1,hzp⟩:=q6Z (fid:=fid) (M:=M) (H:=H) (φ:=φ) hz
 obtain ⟨inf',hi',hsz⟩:=q3Y hn
 rw[hi] at hi'
 cases hi'
 have hnpos:0<q0n P e:=V6 hn
 have hby:inf.bytes=q3d P e:=by simp [q3d,hi]
 have R:=hH.row _ _ _ _ _ _ hr
 have hflus:us.length=news.length * q0n P e:=hsrc.newsLen
 obtain ⟨c,tt,fr,hc,hcs,hfz,hcell⟩:=R.cells
 have hends:=g.ends
 have hne2:els2=(els.drop i).take len++news:=g.new
 have hw2 : ∀ y,y∈els2→y.cells.length=q0n P e∧y.cells.all AV.one=true:=fun y hy=>by
  rw[hne2,Kv] at hy
  rcases hy with hy | hy
  ·exact R.wide y (KW (KB hy))
  ·exact hwn y hy
 have hl2:els2.length=len+news.length:=by rw[hne2]; simp; omega
 have hlold:(flat ((els.drop i).take len)).length=len * q0n P e:=by
  rw[q0P (n:=q0n P e) (fun y hy=>(R.wide y (KW (KB hy))).1)]
  congr 1
  simp; omega
 have hflat2:flat els2=flat ((els.drop i).take len)++flat news:=by rw[hne2,q0O]
 have hmul:(i+len) * q0n P e≤els.length * q0n P e:=Vh _ hends
 have hmul2:(i+len) * q0n P e=i * q0n P e+len * q0n P e:=Vi ..
 have hfits:=R.fits
 have hpart:=q8x (fun y hy=>(R.wide y (KW (KB hy))).1) (R.part i len)
 have hpres : ∀ L:Loc,Present (H1++[.row (q0n P e) els2 false fl2 fam2]) H.length:=fun L=>⟨.row (q0n P e) els2 false fl2 fam2,by rw[←(q2X g.st).1]; simp,by simp⟩
 have hatnew : ∀ els' ro' fl' fam',(H1++[Blk.row (q0n P e) els2 false fl2 fam2])[H.length]?=some (.row (q0n P e) els' ro' fl' fam')→els'=els2:=fun els' ro' fl' fam' h=>by
  rw[←(q2X g.st).1] at h
  simp at h
  exact h.1.symm
 cases hS with
 | sref _ _ _ _ cap a hcap ha hp hs=>
  obtain ⟨_,hs2⟩:=hs _ _ _ _ hr
  by_cases hroom:len+news.length≤cap
  ·-- there is room
   have hfitL:(φ r).off+(i+len) * q0n P e+us.length≤(φ r).size:=by
    rw[hflus]
    by_cases hc0:cap=0
    ·have:news.length=0:=by omega
     rw[this]; omega
    ·obtain ⟨_,h2⟩:=hs2 (by omega)
     have:=Vh (q0n P e) (show i+(len+news.length)≤i+cap by omega)
     rw[Vi,Vi] at this
     omega
   have hrun:(Builtin.append_ #[t,tx] ty #[.slice a len cap,X]).run P w = .ok (.slice a (len+news.length) cap) (w.setCells (φ r).blk ((φ r).off+(i+len) * q0n P e) us):=by
    cases hnews:news with
    | nil=>
     subst hnews
     have hu0:us=[]:=KE (by rw[hflus]; simp)
     subst hu0
     exact q3q t tx ty e inf ht hi a len cap X (by rw[hsz]; exact hsrc) hcap
    | cons y0 ys=>
     have hpos:0<cap:=by rw[hnews] at hroom; simp at hroom; omega
     obtain ⟨hae,_⟩:=hs2 hpos
     subst hae
     rw[←hnews]
     have:=run_append_room_src (P:=P) w t tx ty e inf ht hi (φ r).blk ((φ r).off+i * q0n P e) len cap X news.length us (by rw[hsz]; exact hsrc) hroom
      (fun j hj=>by rw[cell_of_heap hc,KU (by rw[hsz]; omega)]; rfl) (fun j hj=>q28 hc (hfz _ (by rw[hsz]; omega)))
     rw[this,hsz,hmul2,KT]
   have hroF:ro=false∨els.length * q0n P e≤(i+len) * q0n P e:=by
    rcases g.how with ⟨hi0,hl0,_,_,_⟩ | ⟨hx,hf⟩
    ·exact .inr (by rw[hi0,hl0]; simp)
    ·rcases (q2X g.st).2 r _ hr with ⟨_,h⟩ | ⟨_,_,_,_,_,h⟩
     ·rcases h _ _ _ _ rfl with h | h
      ·rw[hx] at h; have:=q0f hr; omega
      ·omega
     ·cases h; exact .inl rfl
   have W:=hH.write (x:=y) (p:=(i+len) * q0n P e) (vs:=us) hr g.st (by
     rcases g.how with ⟨_,_,hx,_,_⟩ | ⟨hx,_⟩
     ·exact .inl hx
     ·exact .inr (by omega)) hroF (by
     rcases g.how with ⟨_,_,_,hf,_⟩ | ⟨_,hf⟩
     ·rw[hf]; simp; exact Vh _ (by omega)
     ·rw[hf]; simp) hfitL
   obtain ⟨c',hc',hcs',hout,hin⟩:=W.blk c tt fr hc
   have hgrow:=hH.grow (w':=w.setCells (φ r).blk ((φ r).off+(i+len) * q0n P e) us) (L:=⟨(φ r).blk,(φ r).off+i * q0n P e,(φ r).size⟩) (fl2:=fl2) hr g (fun r' n' els' ro' fl' fam' hr'=>by
     refine W.rows r' _ _ _ _ _ ?_ hr'
     rcases g.how with ⟨hi0,hl0,_,_,_⟩ | ⟨hx,hf⟩
     ·exact .inr (by rw[hi0,hl0]; simp)
     ·refine .inl fun he=>?_
      subst he
      rcases q2Q g.st hr' with h | ⟨h1,h2⟩
      ·cases h
      ·rw[hr] at h1
       cases h1
       rcases h2 _ _ _ _ rfl with h | h
       ·rw[hx] at h; have:=q0f hr; omega
       ·omega) W.maps W.mem (RowAt.ofFlat (t:=tt) R.base hnpos (by
      simp only[hl2,Vi]
      omega) hc' (by simp only; omega) (fun o ho=>hfz o ho) (fun q u0 hq=>by
      rw[hflat2,Vo,hlold] at hq
      split at hq
      ·rename_i hlt
       obtain ⟨u,h1,h2⟩:=hpart q u0 hq
       refine ⟨u,?_,h2⟩
       rw[cell_of_heap hc] at h1
       simp only
       rw[hout _ (.inl (by omega))]
       exact h1
      ·rename_i hge
       obtain ⟨u,h1,h2⟩:=q1i hus hq
       refine ⟨u,?_,h2⟩
       have:=hin (q-len * q0n P e) (q0f h1)
       rw[h1] at this
       rw[←this]
       congr 1
       simp only
       omega) hw2 hfl) (.inr ⟨rfl,rfl⟩) (fun k _ hk=>W.others k fun e=>hk r _ _ _ _ _ hr e.symm) (.inl rfl)
   refine ⟨_,_,_,hrun,hgrow.1,hgrow.2,.sref _ _ _ _ cap a hroom (fun h=>?_) (hpres ⟨(φ r).blk,(φ r).off+i * q0n P e,(φ r).size⟩) fun els' ro' fl' fam' he=>?_,W.below⟩
   ·obtain ⟨hae,_⟩:=hs2 (by omega)
    rw[hae]; rfl
   ·rw[hatnew _ _ _ _ he]
    refine ⟨by rw[hl2]; omega,fun hpos=>?_⟩
    obtain ⟨hae,h2⟩:=hs2 hpos
    rw[hae]
    simp only[q0Q,if_true,Nat.zero_mul,Vs,KS,true_and]
    rw[Vi] at h2
    omega
  ·-- a new block
   have hge:=grownCap_ge w (len+news.length) cap e
   have hl31:len+news.length≤2147483648:=hlim
   obtain ⟨olds,ho1,ho2,ho3⟩:=q4a hpart
   have hold:(Builtin.firstCells inf.size len (.slice a len cap)).run P w.drew = .ok olds.toArray w.drew:=by
    by_cases hc0:cap=0
    ·have hl0:len=0:=by omega
     have:olds=[]:=KE (by rw[ho1,hlold,hl0]; simp)
     subst this
     subst hl0
     cases a with
     | none=>exact run_firstCells_none w.drew _ _ _ _
     | some a=>exact run_firstCells_some w.drew _ _ _ _ _ [] (by simp) (by simp)
    ·obtain ⟨hae,_⟩:=hs2 (by omega)
     subst hae
     exact run_firstCells_some w.drew _ _ _ _ _ olds (by rw[ho1,hlold,hsz]) (by simpa using ho2)
   have hrun:=run_append_grow_src (P:=P) w t tx ty e inf zv ht hi hzv a len cap olds hold X news.length us (by rw[hsz]; exact hsrc) (by omega) (by omega) (growslice_fits (by omega) (by rw[hby]; exact Vc hbytes (by decide)))
   generalize grownCap w (len+news.length) cap e=gc at hge hrun
   have hsize:((olds++us).toArray++Builtin.zeroCells zv.cells (gc-(len+news.length))).size=gc * q0n P e:=by
    have hzs:zv.cells.size=q0n P e:=by have:=hzr.1; simp at this; omega
    simp only[Array.size_append,List.size_toArray,Kb,ho1,hlold,hflus,size_zeroCells,hzs]
    rw[←Vi,←Vi]
    congr 1
    omega
   have hheap : ∀ b,b<w.heap.size→(w.drew.alloc (.cells ((olds++us).toArray++Builtin.zeroCells zv.cells (gc-(len+news.length))) e)).heap[b]?=w.heap[b]?:=fun b hb=>q12 (w:=w.drew) _ b hb
   have hW:=hH.world hheap
   have hgrow:=hH.grow (w':=w.drew.alloc (.cells ((olds++us).toArray++Builtin.zeroCells zv.cells (gc-(len+news.length))) e)) (L:=⟨w.heap.size,0,gc * q0n P e⟩) (fl2:=fl2) hr g (fun r' n' els' ro' fl' fam' hr'=>by
     rcases q2Q g.st hr' with h | ⟨h,_⟩
     ·cases h
     ·exact hW.row _ _ _ _ _ _ h) (fun r' es h=>hW.map r' es h) hW.mem (RowAt.ofFlat (t:=e) hB hnpos (by
      simp only[hl2,KS]
      exact Vh _ hge) (q1x (w:=w.drew) _) hsize (fun o ho h=>by simp at h) (fun q u0 hq=>by
      rw[hflat2] at hq
      obtain ⟨u,h1,h2⟩:=q1i (ho3.append hus) hq
      refine ⟨u,?_,h2⟩
      simp only[KS]
      rw[Array.getElem?_append_left (by have:=q0f h1; simpa using this)]
      simpa using h1) hw2 hfl) (.inl ⟨fun r' n' els' ro' fl' fam' hr' he=>by
       obtain ⟨c0,_,_,h0,_⟩:=(hH.row _ _ _ _ _ _ hr').cells
       have:=q2s h0
       simp only at he
       omega,fun o=>by
       cases hm:M w.heap.size o with
       | none=>rfl
       | some u=>have:=q6u hH hm; omega⟩) (fun k hk _=>hheap k hk) (.inr (Kr _))
   refine ⟨_,_,_,hrun,hgrow.1,hgrow.2,.sref _ _ _ _ gc _ hge (fun _=>rfl) (hpres ⟨0,0,0⟩) fun els' ro' fl' fam' he=>?_,?_⟩
   ·rw[hatnew _ _ _ _ he]
    refine ⟨by rw[hl2]; omega,fun hpos=>?_⟩
    simp [q0Q]
   ·exact (RowKit.Below.refl B w).drew.alloc hB _
end
end Ago
namespace Ago
open Go

section
variable {P:Program} {fid:FuncId→Option Nat} {pf:Nat→Bool} {M:Mem} {H H':Heap} {φ φ':Nat→Loc} {B:Nat} {w w':World} {as:List AV} {v:AV}

theorem qc4 (hH:HRel fid M H φ B w) (hB:B≤w.heap.size) {t tx ty e:TypeId} {S X:Value} {s:AV} {news:List AV} {nfl:Bool} {H':Heap} (ht:P.underlying t=some (.slice e))
  (hn:q0n P e≠0) {z:AV} (hz:q2z P e=some z) (hS:VRel fid M H φ s S) (us:List Value) (hsrc:Src P (q0n P e) tx X news.length us w) (hus:VRels fid M H φ (flat news) us)
  (hwn : ∀ y,y∈news→y.cells.length=q0n P e∧y.cells.all AV.one=true) (hp:nfl=true→∀ y,y∈news→y.isPure=true) (hv:H.append (q0n P e) (q3d P e) s news nfl=some (v,H')) :
  EffOk P fid M H φ B w (Builtin.append_ #[t,tx] ty #[S,X]) v H':=by
 obtain ⟨inf,zv,hi,hzv,hzr,hzl,hz1,hzp⟩:=q6Z (fid:=fid) (M:=M) (H:=H) (φ:=φ) hz
 obtain ⟨inf',hi',hsz⟩:=q3Y hn
 rw[hi] at hi'
 cases hi'
 have hnpos:0<q0n P e:=V6 hn
 have hby:inf.bytes=q3d P e:=by simp [q3d,hi]
 have hflus:us.length=news.length * q0n P e:=hsrc.newsLen
 unfold Heap.append at hv
 split at hv
 ·rename_i m
  split at hv
  ·rename_i hc
   obtain ⟨hb,hl⟩:=hc
   cases hS with
   | snil _ a=>
    cases news with
    | nil=>
     simp only[q3t,Kq,Vm] at hv
     obtain ⟨rfl,rfl⟩:=hv
     have hu0:us=[]:=KE (by rw[hflus]; simp)
     subst hu0
     exact ⟨_,w,φ,q3q t tx ty e inf ht hi a 0 0 X (by rw[hsz]; exact hsrc) (Kr _),hH,HLe.refl _ _ _,.snil _ _,RowKit.Below.refl _ _⟩
    | cons x0 xs=>
     simp only[q3t,Kq,Vm] at hv
     obtain ⟨rfl,rfl⟩:=hv
     have hl31:(x0::xs).length≤2147483648:=hl
     have hge:=grownCap_ge w (0+(x0::xs).length) 0 e
     have hold:(Builtin.firstCells inf.size 0 (.slice a 0 0)).run P w.drew = .ok ([]:List Value).toArray w.drew:=by
      cases a with
      | none=>exact run_firstCells_none w.drew _ _ _ _
      | some a=>exact run_firstCells_some w.drew _ _ _ _ _ [] (by simp) (by simp)
     have hrun:=run_append_grow_src (P:=P) w t tx ty e inf zv ht hi hzv a 0 0 [] hold X (x0::xs).length us (by rw[hsz]; exact hsrc) (by simp) (by omega) (growslice_fits (by simp) (by rw[hby,KS]; exact Vc hb (by decide)))
     generalize grownCap w (0+(x0::xs).length) 0 e=gc at hge hrun
     have hsize:((([]:List Value)++us).toArray++Builtin.zeroCells zv.cells (gc-(0+(x0::xs).length))).size=gc * q0n P e:=by
      have hzs:zv.cells.size=q0n P e:=by have:=hzr.1; simp at this; omega
      simp only[Array.size_append,List.size_toArray,Kh,hflus,size_zeroCells,hzs]
      rw[←Vi]
      congr 1
      omega
     have pl:=Placed.push H (.row (q0n P e) (x0::xs) false nfl H.length)
     refine ⟨_,_,q0Q φ H.length ⟨w.heap.size,0,gc * q0n P e⟩,hrun,?_,pl.le (.inr trivial),?_,(RowKit.Below.refl B w).drew.alloc hB _⟩
     ·rw[←hsize]
      refine hH.placeRow (fun b hb=>q12 (w:=w.drew) _ b hb) hB (q1x (w:=w.drew) _) (fun o ho h=>by simp at h) pl hnpos ?_ (fun q y hy=>?_) hwn hp
      ·rw[hsize]
       exact Vh _ (by omega)
      ·obtain ⟨u,h1,h2⟩:=q1i hus hy
       refine ⟨u,?_,h2⟩
       rw[Array.getElem?_append_left (by have:=q0f h1; simpa using this)]
       simpa using h1
     ·have:=q8u (fid:=fid) (M:=M) (φ:=φ) (L:=⟨w.heap.size,0,gc * q0n P e⟩) (len:=0+(x0::xs).length) (cap:=gc) pl hge (by simp) rfl (Kr _)
      simpa using this
  ·cases hv
 ·rename_i m r i len
  obtain ⟨n',els,ro,fl,fam,hr,hv2⟩:=q3A hv
  clear hv
  split at hv2
  ·rename_i hc
   obtain ⟨rfl,rfl,hle,hb,hl⟩:=hc
   have R:=hH.row _ _ _ _ _ _ hr
   split at hv2
   ·rename_i hends
    obtain ⟨rfl,hlen⟩:=hends
    simp only[Kg] at hv2
    obtain ⟨H1,hs,he⟩:=hv2
    simp only[Vm] at he
    obtain ⟨rfl,rfl⟩:=he
    refine q7m (e':=e) (x:=.dead) (y:=r) (from_:=len+1) hH hB ht hn hz hS us hsrc hus hwn hr hb hl ⟨hs,hle,?_,.inl ⟨rfl,hlen,rfl,rfl,rfl⟩⟩ fun hf y hy=>?_
    ·rw[List.drop_zero,hlen,Ky]
    ·simp only[Kk] at hf
     rw[Kv] at hy
     rcases hy with hy | hy
     ·exact R.flat hf.1 y hy
     ·exact hp hf.2 y hy
   ·simp only[Kg] at hv2
    obtain ⟨H1,hs,he⟩:=hv2
    simp only[Vm] at he
    obtain ⟨rfl,rfl⟩:=he
    refine q7m (e':=e) (x:=.dead) (y:=H.length) (from_:=0) hH hB ht hn hz hS us hsrc hus hwn hr hb hl ⟨hs,hle,rfl,.inr ⟨rfl,rfl⟩⟩ fun hf y hy=>?_
    simp only[Kk] at hf
    rw[Kv] at hy
    rcases hy with hy | hy
    ·exact R.flat hf.1 y (KW (KB hy))
    ·exact hp hf.2 y hy
  ·cases hv2
 ·cases hv

theorem qma (hH:HRel fid M H φ B w) (hB:B≤w.heap.size) {t tx ty e e':TypeId} {S X:Value} {H':Heap} (ht:P.underlying t=some (.slice e)) (htx:P.underlying tx=some (.slice e')) (hn:q0n P e≠0) {z:AV} (hz:q2z P e=some z)
  (h:VRels fid M H φ as [S,X]) (hv:q2D (q0n P e) (q3d P e) H as=some (v,H')):EffOk P fid M H φ B w (Builtin.append_ #[t,tx] ty #[S,X]) v H':=by
 unfold q2D at hv
 split at hv
 ·rename_i s x
  cases he:H.elems (q0n P e) x with
  | none=>simp [he] at hv
  | some news=>
   simp only[he,VK] at hv
   obtain ⟨us,h1,h2,h3,h4⟩:=qlg hH htx h.tail.head he
   exact qc4 hH hB ht hn hz h.head us h1 h2 h3 h4 hv
 ·cases hv

theorem q8S {dT sT ty e:TypeId} {i:TypeInfo} (hu:P.underlying dT=some (.slice e)) (hi:P.info? e=some i) (base:Option Addr) (dLen dCap n:Nat) (a:Option Addr) (cap:Nat) (us:List Value)
  (hk:(Builtin.firstCells i.size (Nat.min n dLen) (.slice a n cap)).run P w = .ok us.toArray w) (hst : ∀ b,base=some b→(storeCells b us).run P w = .ok () w') (hno:base=none→w'=w) :
  (Builtin.copy_ #[dT,sT] ty #[.slice base dLen dCap,.slice a n cap]).run P w = .ok (goInt (Nat.min n dLen)) w':=by
 cases base with
 | none=>
  rw[hno rfl]
  simp [Builtin.copy_,run_underlying hu,Builtin.lenOf,Go.sizeOf,typeInfo,hi,hk]
 | some b=>
  simp [Builtin.copy_,run_underlying hu,Builtin.lenOf,Go.sizeOf,typeInfo,hi,hk,hst b rfl]

theorem qtm (hH:HRel fid M H φ B w) {t tx ty e:TypeId} {S X:Value} {H':Heap} (ht:P.underlying t=some (.slice e)) (hn:q0n P e≠0)
  (h:VRels fid M H φ as [S,X]) (hv:qnZ (q0n P e) H as=some (v,H')):EffOk P fid M H φ B w (Builtin.copy_ #[t,tx] ty #[S,X]) v H':=by
 obtain ⟨inf,hi,hsz⟩:=q3Y hn
 unfold qnZ at hv
 split at hv
 ·rename_i m r i ln x
  cases he:H.elems (q0n P e) x with
  | none=>simp [he] at hv
  | some xs=>
   simp only[he,VK] at hv
   obtain ⟨n',els,ro,fl,fam,hr,hv2⟩:=q3A hv
   clear hv
   split at hv2
   ·rename_i hc
    obtain ⟨rfl,rfl,rfl,hle⟩:=hc
    simp only[Kg] at hv2
    obtain ⟨H1,hs,heq⟩:=hv2
    simp only[Vm] at heq
    obtain ⟨rfl,rfl⟩:=heq
    have R:=hH.row _ _ _ _ _ _ hr
    have hX:=h.tail.head
    obtain ⟨a,len,cap,rfl,hlen,hw,hp,hcell⟩:=q99 hH hX he
    have hS:=h.head
    generalize hkk:min xs.length ln=k
    have hk1:k≤xs.length:=by omega
    have hk2:k≤ln:=by omega
    have htake:xs.take ln=xs.take k:=by
     rw[←hkk]
     by_cases hx:xs.length≤ln
     ·rw[Kz hx,VT hx,Ky]
     ·rw[Nat.min_eq_right (by omega)]
    have hwt : ∀ y,y∈xs.take k→y.cells.length=q0n P e∧y.cells.all AV.one=true:=fun y hy=>hw y (KB hy)
    have hflk:(flat (xs.take k)).length=k * q0n P e:=by rw[q0P (fun y hy=>(hwt y hy).1),KI,VT hk1]
    have hsrcc : ∃ us:List Value,(Builtin.firstCells inf.size k (.slice a len cap)).run P w = .ok us.toArray w∧VRels fid M H φ (flat (xs.take k)) us:=by
     rcases hcell with h0 | ⟨b,o,rfl,hcell⟩
     ·subst h0
      have hk0:k=0:=by simpa using hk1
      subst hk0
      refine ⟨[],?_,by simpa [Ago.flat] using VRels.nil⟩
      cases a with
      | none=>exact run_firstCells_none w _ _ _ _
      | some a=>exact run_firstCells_some w _ _ _ _ _ [] (by simp) (by simp)
     ·have hsplit:flat xs=flat (xs.take k)++flat (xs.drop k):=by rw[←q0O,Vl]
      obtain ⟨us,h1,h2,h3⟩:=q4a (cs:=flat (xs.take k)) (fun q y hq=>hcell q y (by rw[hsplit,KG (q0f hq)]; exact hq))
      exact ⟨us,run_firstCells_some w _ _ _ _ _ us (by rw[h1,hflk,hsz]) h2,h3⟩
    obtain ⟨us,hfirst,hus⟩:=hsrcc
    have husl:us.length=k * q0n P e:=by rw[←hus.1]; exact hflk
    have hmul:(i+k) * q0n P e≤els.length * q0n P e:=Vh _ (by omega)
    rw[Vi] at hmul
    have hi0:(flat (els.take i)).length=i * q0n P e:=by
     rw[q0P (n:=q0n P e) (fun y hy=>(R.wide y (KB hy)).1),KI,VT (by omega)]
    have hik:(flat (els.take (i+k))).length=i * q0n P e+k * q0n P e:=by
     rw[q0P (n:=q0n P e) (fun y hy=>(R.wide y (KB hy)).1),KI,VT (by omega),Vi]
    obtain ⟨hrel,hle2,hbel⟩:=hH.rewrite (p:=i * q0n P e) (us:=us) (vs:=flat (xs.take k)) (els':=els.take i++xs.take ln++els.drop (i+k)) (fl':=fl && H.flatOf x) hr hs (by rw[hflk]; exact hmul) hus
     (by rw[htake]; simp; omega) (by
      have e1:(flat els).take (i * q0n P e)=flat (els.take i):=by
       conv=>lhs; rw[←Vl i els,q0O]
       rw[List.take_append_of_le_length (by omega),Kz (by omega)]
      have e2:(flat els).drop (i * q0n P e+k * q0n P e)=flat (els.drop (i+k)):=by
       conv=>lhs; rw[←Vl (i+k) els,q0O]
       rw[VU (by omega),KX (by omega),Kh]
      rw[htake,q0O,q0O,hflk,e1,e2]) (fun y hy=>by
      rw[htake] at hy
      simp only[Kv] at hy
      rcases hy with (hy | hy) | hy
      ·exact R.wide y (KB hy)
      ·exact hwt y hy
      ·exact R.wide y (KW hy)) (fun hf y hy=>by
      simp only[Kk] at hf
      rw[htake] at hy
      simp only[Kv] at hy
      rcases hy with (hy | hy) | hy
      ·exact R.flat hf.1 y (KB hy)
      ·exact hp hf.2 y (KB hy)
      ·exact R.flat hf.1 y (KW hy))
    cases hS with
    | sref _ _ _ _ dcap da hcap hda hpres hsl=>
     obtain ⟨_,hs2⟩:=hsl _ _ _ _ hr
     have hmin:Nat.min len ln=k:=by rw[hlen]; exact hkk
     obtain ⟨c,tt,fr,hc,hcs,hfz,_⟩:=R.cells
     have hfits:=R.fits
     have hrun:=q8S (P:=P) (dT:=t) (sT:=tx) (ty:=ty) (w:=w) (w':=w.setCells (φ r).blk ((φ r).off+i * q0n P e) us) ht hi da ln dcap len a cap us (by rw[hmin]; exact hfirst) (fun b hb=>by
       by_cases hk0:k=0
       ·have hu0:us=[]:=KE (by rw[husl,hk0]; simp)
        subst hu0
        rfl
       ·obtain ⟨hae,_⟩:=hs2 (by omega)
        rw[hb] at hae
        cases hae
        have:=run_storeCells_cells (P:=P) (φ r).blk ((φ r).off+i * q0n P e) us 0 w (fun j hj=>by rw[cell_of_heap hc,KU (by omega)]; rfl) (fun j hj=>q28 hc (hfz _ (by omega))) (fun u hu=>q9q hus (qax hwt) u hu)
        rw[this,Vs]) (fun hb=>by
       have hk0:k=0:=by
        by_cases hk0:k=0
        ·exact hk0
        ·obtain ⟨hae,_⟩:=hs2 (by omega)
         rw[hb] at hae
         cases hae
       have hu0:us=[]:=KE (by rw[husl,hk0]; simp)
       subst hu0
       rfl)
     rw[hmin] at hrun
     exact ⟨_,_,φ,hrun,hrel,hle2,.int .i64 k,hbel⟩
   ·cases hv2
 ·rename_i m x
  simp only[Kg] at hv
  obtain ⟨xs,he,heq⟩:=hv
  simp only[Vm] at heq
  obtain ⟨rfl,rfl⟩:=heq
  obtain ⟨a,len,cap,rfl,hlen,hw,hp,hcell⟩:=q99 hH h.tail.head he
  have hS:=h.head
  cases hS with
  | snil _ da=>
   have hrun:=q8S (P:=P) (dT:=t) (sT:=tx) (ty:=ty) (w:=w) (w':=w) ht hi da 0 0 len a cap [] (by
     simp only[Nat.min_def]
     cases a with
     | none=>exact run_firstCells_none w _ _ _ _
     | some a=>
      have:(if len≤0 then len else 0)=0:=by split<;>omega
      rw[this]
      exact run_firstCells_some w _ _ _ _ _ [] (by simp) (by simp)) (fun b _=>rfl) (fun _=>rfl)
   have hm:Nat.min len 0=0:=Nat.min_eq_right (Kn _)
   rw[hm] at hrun
   exact ⟨_,w,φ,hrun,hH,HLe.refl _ _ _,.int .i64 0,RowKit.Below.refl _ _⟩
 ·cases hv

theorem q6w {t e ty:TypeId} (ht:P.underlying t=some (.slice e)) (a:Option Addr) (c:Nat) (w:World):(Builtin.clear_ #[t] ty #[.slice a 0 c]).run P w = .ok (.tuple #[]) w:=by
 cases a<;>simp [Builtin.clear_,run_underlying ht]

theorem qbc (cs:Array Value) : ∀ (n:Nat),(Builtin.zeroCells cs n).toList=(List.replicate n cs.toList).flatten:=by
 intro n
 unfold Builtin.zeroCells
 rw[Array.toList_map,Array.toList_range]
 induction n with
 | zero=>simp
 | succ n ih=>
  rw[List.replicate_succ',List.flatten_append,←ih,Nat.succ_mul,List.range_add,Va]
  congr 1
  rw[Vn]
  apply Vw
  intro k
  rw[KH]
  by_cases hk:k<cs.size
  ·rw[VF hk]
   simp only[KM,Function.comp,List.flatten_cons,List.flatten_nil,Kj]
   rw[Nat.mul_comm,Nat.mul_add_mod,Nat.mod_eq_of_lt hk,getElem!_pos cs k hk]
   simp [hk]
  ·rw[KQ (by simp; omega),KQ (by simp; omega)]
   rfl
theorem qfC (w:World) (t e ty:TypeId) (z:Value) (ht:P.underlying t=some (.slice e)) (hv : ∀ w,(zeroValue e).run P w = .ok z w) (h1 : ∀ u,u∈z.cells.toList→u.oneCell'=true) (b o n c:Nat) (hn:0<n)
  (hc : ∀ j,j<n * z.cells.size→(w.cell? ⟨b,o+j,none⟩).isSome=true) (hf : ∀ j,j<n * z.cells.size→w.frozen? ⟨b,o+j,none⟩=false) :
  (Builtin.clear_ #[t] ty #[.slice (some ⟨b,o,none⟩) n c]).run P w = .ok (.tuple #[]) (w.setCells b o (List.replicate n z.cells.toList).flatten):=by
 have hl:(List.replicate n z.cells.toList).flatten.length=n * z.cells.size:=by simp
 have hst:=run_storeCells_cells (P:=P) b o (List.replicate n z.cells.toList).flatten 0 w (by simpa [hl] using hc) (by simpa [hl] using hf) (by
  intro v hv'
  obtain ⟨l,h2,h3⟩:=List.mem_flatten.1 hv'
  rw[List.eq_of_mem_replicate h2] at h3
  exact h1 v h3)
 simp only[Vs] at hst
 obtain ⟨m,rfl⟩ : ∃ m,n=m+1:=⟨n-1,by omega⟩
 simp [Builtin.clear_,run_underlying ht,hv,qbc,hst]
theorem qo7 (hH:HRel fid M H φ B w) {t ty e:TypeId} {S zv:Value} {z:AV} {H':Heap} (ht:P.underlying t=some (.slice e)) (hz : ∀ w,(zeroValue e).run P w = .ok zv w) (hzv:VRels fid M H φ z.cells zv.cells.toList) (hone:z.cells.all AV.one=true)
  (h:VRels fid M H φ as [S]) (hv:qcC z H as=some (v,H')):EffOk P fid M H φ B w (Builtin.clear_ #[t] ty #[S]) v H':=by
 unfold qcC at hv
 split at hv
 ·cases hv
  have hS:VRel fid M H φ (.snil _) S:=h.head
  cases hS with
  | snil _ a=>exact ⟨_,w,φ,q6w ht a 0 w,hH,HLe.refl _ _ _,q6a,RowKit.Below.refl _ _⟩
 ·rename_i m r i len
  obtain ⟨n',els,ro,fl,fam,hr,hv2⟩:=q3A hv
  clear hv
  split at hv2
  ·rename_i hc
   obtain ⟨hn,rfl,rfl,hle⟩:=hc
   simp only[Kg] at hv2
   obtain ⟨H1,hs,heq⟩:=hv2
   simp only[qkZ,Vm] at heq
   obtain ⟨rfl,rfl⟩:=heq
   have R:=hH.row _ _ _ _ _ _ hr
   have hzl:z.cells.length=zv.cells.size:=by have:=hzv.1; rw[VV] at this; exact this
   have hflr : ∀ k,flat (List.replicate k z)=(List.replicate k z.cells).flatten:=by
    intro k
    induction k with
    | zero=>rfl
    | succ k ih=>rw[VE,Ago.flat,ih,VE,List.flatten_cons]
   have hrep : ∀ k,VRels fid M H φ (List.replicate k z.cells).flatten (List.replicate k zv.cells.toList).flatten:=by
    intro k
    induction k with
    | zero=>exact VRels.nil
    | succ k ih=>
     rw[VE,VE,List.flatten_cons,List.flatten_cons]
     exact hzv.append ih
   have hfl : ∀ k,(List.replicate k z.cells).flatten.length=k * z.cells.length:=fun k=>by simp
   have hS:VRel fid M H φ (.sref m r i len) S:=h.head
   have hil:i * m+len * m=(i+len) * m:=by rw[Vi]
   have hile:(i+len) * m≤els.length * m:=Vh m hle
   have hlen1 : ∀ (ys:List AV),(∀ y,y∈ys→y∈els)→(flat ys).length=ys.length * m:=fun ys hys=>q0P fun y hy=>(R.wide y (hys y hy)).1
   obtain ⟨hrel,hle2,hbel⟩:=hH.rewrite (p:=i * m) (us:=(List.replicate len zv.cells.toList).flatten) (vs:=(List.replicate len z.cells).flatten) (els':=els.take i++List.replicate len z++els.drop (i+len)) (fl':=fl && z.isPure) hr hs (by rw[hfl,←hn]; omega) (hrep len) (by simp; omega) (by
     have e1:(flat els).take (i * m)=flat (els.take i):=by
      conv=>lhs; rw[←Vl i els,q0O]
      have:(flat (els.take i)).length=i * m:=by rw[hlen1 _ fun y hy=>KB hy,KI,VT (by omega)]
      rw[List.take_append_of_le_length (by omega),Kz (by omega)]
     have e2:(flat els).drop (i * m+(List.replicate len z.cells).flatten.length)=flat (els.drop (i+len)):=by
      rw[hfl,←hn,hil]
      conv=>lhs; rw[←Vl (i+len) els,q0O]
      have:(flat (els.take (i+len))).length=(i+len) * m:=by rw[hlen1 _ fun y hy=>KB hy,KI,VT hle]
      rw[VU (by omega),KX (by omega),Kh]
     rw[q0O,q0O,hflr,e1,e2]) (fun y hy=>by
     simp only[Kv] at hy
     rcases hy with (hy | hy) | hy
     ·exact R.wide y (KB hy)
     ·rw[List.eq_of_mem_replicate hy]
      exact ⟨hn.symm,hone⟩
     ·exact R.wide y (KW hy)) (fun hf y hy=>by
     simp only[Kk] at hf
     simp only[Kv] at hy
     rcases hy with (hy | hy) | hy
     ·exact R.flat hf.1 y (KB hy)
     ·rw[List.eq_of_mem_replicate hy]
      exact hf.2
     ·exact R.flat hf.1 y (KW hy))
   cases hS with
   | sref _ _ _ _ cap a hcap ha0 hpres hsl=>
    obtain ⟨_,hs2⟩:=hsl _ _ _ _ hr
    obtain ⟨c,tt,fr,hcb,hcs,hfz,_⟩:=R.cells
    have hfits:=R.fits
    by_cases hl0:len=0
    ·subst hl0
     refine ⟨_,w,φ,q6w ht a cap w,?_,hle2,q6a,RowKit.Below.refl _ _⟩
     simpa [World.setCells] using hrel
    ·obtain ⟨rfl,_⟩:=hs2 (by omega)
     have hj : ∀ j,j<len * zv.cells.size→(φ r).off+i * m+j<(φ r).off+els.length * m:=fun j hj=>by
      rw[←hzl,←hn] at hj
      omega
     have hrun:=qfC (P:=P) w t e ty zv ht hz (q9q hzv hone) (φ r).blk ((φ r).off+i * m) len cap (by omega)
      (fun j h2=>by have:=hj j h2; rw[cell_of_heap hcb,KU (by omega)]; rfl) (fun j h2=>by have:=hj j h2; exact q28 hcb (hfz _ (by omega)))
     exact ⟨_,_,φ,hrun,hrel,hle2,q6a,hbel⟩
  ·cases hv2
 ·cases hv
end
end Ago
namespace Ago
open Go
variable {uT:Unit} [TabC uT]

structure Rel (fid:FuncId→Option Nat) (M:Mem) (φ:Nat→Loc) (B:Nat) (s:St) (a:Act) (w:World):Prop where
 tm:VRels fid M s.heap φ s.tmps a.tmps.toList
 hp:HRel fid M s.heap φ B w
 sz:B≤w.heap.size
 df:a.defers=[]
 tb:TabC.ok B w

def qb4 (P : Program) (fid : FuncId → Option Nat) : Prop := ∀ g f,fid g = some f → ∃ fn,P.funcs[g]? = some fn ∧ fn.body.isSome = true ∧ (fn.name == "runtime.NumGoroutine") = false

section
variable {P:Program} {fid:FuncId→Option Nat} {pf:Nat→Bool} {M:Mem} {H H':Heap} {φ φ':Nat→Loc} {B:Nat} {w w':World} {as:List AV} {v:AV}

theorem qib {fs:List Go.Field} (h:fs.all (fun f=>(P.info? f.type).isSome)=true):fs.mapM (fun f=>(P.info? f.type).map fun i=>(f.offset,i.size))=some (fs.map fun f=>(f.offset,q0n P f.type)):=by
 induction fs with
 | nil=>rfl
 | cons f fs ih=>
  simp only[Vy,Kk] at h
  obtain ⟨i,hi⟩:=K3.1 h.1
  simp [List.mapM_cons,hi,ih h.2,q0n]

theorem q13 {α β:Type} {f:α→Option β} : ∀ {l:List α} {r:List β},q1L f l=some r→r.length=l.length
 | [],r,h=>by cases h; rfl
 | x::l,r,h=>by
  simp only[q1L] at h
  split at h
  ·cases h
  ·split at h
   ·cases h
   ·rename_i h2
    cases h
    simp [q13 h2]

theorem q4G {α β:Type} {f:α→Option β} : ∀ {l:List α} {r:List β} {i:Nat} {x:α} {y:β},q1L f l=some r→l[i]?=some x→r[i]?=some y→f x=some y
 | [],r,i,x,y,h,hx,hy=>by simp at hx
 | z::l,r,i,x,y,h,hx,hy=>by
  simp only[q1L] at h
  split at h
  ·cases h
  ·rename_i y' h1
   split at h
   ·cases h
   ·rename_i ys h2
    cases h
    cases i with
    | zero=>
     simp only[KZ,Kq] at hx hy
     subst hx; subst hy
     exact h1
    | succ i=>exact q4G h2 (by simpa using hx) (by simpa using hy)

theorem qdb (w:World) {t:TypeId} {fs:Array Go.Field} {parts:Array (Nat × Value)} {z:List AV} {pl:List (Nat × Nat)} (hz:zeroCells P t=some z) (ht:P.underlying t=some (.struct fs)) (hall:fs.toList.all (fun f=>(P.info? f.type).isSome)=true)
  (hpl:pl.length=parts.size∧∀ (i:Nat) (p:Nat × Value) (q:Nat × Nat),parts.toList[i]?=some p→pl[i]?=some q→(fs[p.1]?).map (fun (f:Go.Field)=>(f.offset,q0n P f.type))=some q) (h:VRels fid M H φ as (parts.toList.map (·.2))) (hv:q9W z pl as=some v) :
  ∃ r,(Instr.build t parts).run P w = .ok r w∧VRel fid M H φ v r:=by
 obtain ⟨zv,hrun,hzr,hz1,hzl,hzp⟩:=q3M (fid:=fid) (M:=M) (H:=H) (φ:=φ) hz
 unfold q9W at hv
 split at hv
 ·rename_i hc
  simp only[Kg] at hv
  obtain ⟨cs,hov,rfl⟩:=hv
  obtain ⟨i,hi⟩:=info_of_underlying ht
  have hiz:i.zero=some zv:=by
   have:=hrun default
   simp only[zeroValue,typeInfo,Sem.run_bind,run_program,Result.andThen_ok,hi] at this
   cases hz0:i.zero with
   | none=>simp [hz0] at this
   | some z0=>simp [hz0] at this; rw[this]
  have hplace : ∀ k,((fs.toList.map fun (f:Go.Field)=>(f.offset,q0n P f.type)).toArray[k]?:Option (Nat × Nat))=(fs[k]?).map fun (f:Go.Field)=>(f.offset,q0n P f.type):=fun k=>by
   rw[List.getElem?_toArray,KH,VW]
  obtain ⟨out,hout,hrel⟩:=q9o (fid:=fid) (M:=M) (H:=H) (φ:=φ) (fun k=>((fs.toList.map fun (f:Go.Field)=>(f.offset,q0n P f.type)).toArray[k]?:Option (Nat × Nat))) parts.toList pl as z zv.cells cs hzr h hc.2 (by rw[hc.1])
   (fun i p q h1 h2=>by
    rw[hplace]
    exact hpl.2 i p q h1 h2) hov
  refine ⟨.agg out,run_build w t parts out ?_,?_⟩
  ·simp only[Program.built,hi,ht,hiz,qib hall]
   exact hout
  ·have:=VRel.ofAggs hrel
   simpa using this
 ·cases hv

theorem qex (w:World) {t e:TypeId} {n:Nat} {parts:Array (Nat × Value)} {z:List AV} (hz:zeroCells P t=some z) (ht:P.underlying t=some (.array n e)) (he:(P.info? e).isSome=true)
  (h:VRels fid M H φ as (parts.toList.map (·.2))) (hv:q9W z (parts.toList.map fun p=>(p.1 * q0n P e,q0n P e)) as=some v) :
  ∃ r,(Instr.build t parts).run P w = .ok r w∧VRel fid M H φ v r:=by
 obtain ⟨zv,hrun,hzr,hz1,hzl,hzp⟩:=q3M (fid:=fid) (M:=M) (H:=H) (φ:=φ) hz
 unfold q9W at hv
 split at hv
 ·rename_i hc
  simp only[Kg] at hv
  obtain ⟨cs,hov,rfl⟩:=hv
  obtain ⟨i,hi⟩:=info_of_underlying ht
  obtain ⟨ie,hie⟩:=K3.1 he
  have hse:ie.size=q0n P e:=by simp [q0n,hie]
  have hiz:i.zero=some zv:=by
   have:=hrun default
   simp only[zeroValue,typeInfo,Sem.run_bind,run_program,Result.andThen_ok,hi] at this
   cases hz0:i.zero with
   | none=>simp [hz0] at this
   | some z0=>simp [hz0] at this; rw[this]
  obtain ⟨out,hout,hrel⟩:=q9o (fid:=fid) (M:=M) (H:=H) (φ:=φ) (fun k=>some (k * ie.size,ie.size)) parts.toList (parts.toList.map fun p=>(p.1 * q0n P e,q0n P e)) as z zv.cells cs hzr h hc.2 (by rw[hc.1])
   (fun i p q h1 h2=>by
    simp only[KH,h1,KM,Kq] at h2
    rw[←h2,hse]) hov
  refine ⟨.agg out,run_build w t parts out ?_,?_⟩
  ·simp only[Program.built,hi,ht,hiz,hie]
   exact hout
  ·have:=VRel.ofAggs hrel
   simpa using this
 ·cases hv


theorem qmb {l:List AV} {b:List UInt8} (h:q1L q6y l=some b) : ∃ ns:List Int,l=ns.map (AV.int .u8)∧b=ns.map (fun n=>UInt8.ofNat n.toNat):=by
 induction l generalizing b with
 | nil=>cases h; exact ⟨[],rfl,rfl⟩
 | cons x l ih=>
  simp only[q1L] at h
  split at h
  ·cases h
  ·rename_i y hy
   split at h
   ·cases h
   ·rename_i ys hys
    cases h
    obtain ⟨ns,rfl,rfl⟩:=ih hys
    unfold q6y at hy
    split at hy
    ·rename_i n
     cases hy
     exact ⟨n::ns,rfl,rfl⟩
    ·cases hy

theorem qiO (ns:List Int):flat (ns.map (AV.int .u8))=ns.map (AV.int .u8):=by
 induction ns with
 | nil=>rfl
 | cons n ns ih=>simp only[Kd,Ago.flat,ih]; rfl

theorem qiB {ns:List Int} {us:List Value} (h:VRels fid M H φ (ns.map (AV.int .u8)) us):us=ns.map (Value.int .u8):=by
 induction ns generalizing us with
 | nil=>
  have:=h.1
  exact KE (by simpa using this.symm)
 | cons n ns ih=>
  cases us with
  | nil=>have:=h.1; simp at this
  | cons u us=>
   have h1:VRel fid M H φ (.int .u8 n) u:=h.head
   cases h1
   rw[Kd,ih (VRels.tail h)]

theorem qkz (ns:List Int) : ∀ (s:ByteArray),(ns.foldl (fun r n=>r.push (UInt8.ofNat n.toNat)) s).data.toList=s.data.toList++ns.map (fun n=>UInt8.ofNat n.toNat):=by
 induction ns with
 | nil=>intro s; simp
 | cons n ns ih=>
  intro s
  simp only[Vz,ih,Kd]
  simp [ByteArray.push]

theorem qie (hH:HRel fid M H φ B w) {s d e:TypeId} {X:Value} (hs:P.underlying s=some (.slice e)) (he:P.underlying e=some (.int .u8)) (hd:P.underlying d=some .string) (h:VRels fid M H φ as [X]) (hv:q5F H as=some v) :
  ∃ r,(convert s d X).run P w = .ok r w∧VRel fid M H φ v r:=by
 unfold q5F at hv
 split at hv
 ·rename_i x
  unfold qqe at hv
  split at hv
  ·rename_i l hl
   simp only[Kg] at hv
   obtain ⟨b,hb,rfl⟩:=hv
   obtain ⟨ns,rfl,rfl⟩:=qmb hb
   obtain ⟨a,len,cap,rfl,hlen,hw,hp,hc⟩:=q99 hH h.head hl
   rw[run_convert_bytes_string w s d e a len cap hs he hd]
   rcases hc with h0 | ⟨b,o,rfl,hcell⟩
   ·have hn0:ns=[]:=by cases ns<;>simp at h0 ⊢
    subst hn0
    have hl0:len=0:=hlen
    subst hl0
    cases a with
    | none=>exact ⟨.string .empty,by simp [Conv.bytesToString],.str _ _ rfl⟩
    | some a=>
     refine ⟨_,run_bytesToString w a 0 cap [] (by simpa using run_loadCells_list (P:=P) w a [] (by simp)),.str _ _ (by simp)⟩
   ·rw[qiO] at hcell
    obtain ⟨us,h1,h2,h3⟩:=q4a hcell
    have hus:=qiB h3
    subst hus
    have hll:len=(ns.map (Value.int .u8)).length:=by rw[hlen]; simp
    refine ⟨_,run_bytesToString w ⟨b,o,none⟩ len cap ns (by rw[hll]; exact run_loadCells_list (P:=P) w _ _ h2),.str _ _ ?_⟩
    rw[qkz]
    rfl
  ·cases hv
 ·cases hv

theorem qg7 (hH:HRel fid M H φ B w) (hB:B≤w.heap.size) {t tx ty e:TypeId} {S X:Value} {H':Heap} (ht:P.underlying t=some (.slice e)) (htx:P.underlying tx=some .string) (hn:q0n P e=1) (hb1:q3d P e=1) {z:AV} (hz:q2z P e=some z)
  (h:VRels fid M H φ as [S,X]) (hv:q6j H as=some (v,H')):EffOk P fid M H φ B w (Builtin.append_ #[t,tx] ty #[S,X]) v H':=by
 unfold q6j at hv
 split at hv
 ·rename_i s b
  have h2:=h.tail.head
  cases h2 with
  | str sb _ hsb=>
   have hfl : ∀ l:List UInt8,flat (l.map fun c=>AV.int .u8 c.toNat)=l.map fun c=>AV.int .u8 c.toNat:=fun l=>by
    induction l with
    | nil=>rfl
    | cons c l ih=>simp only[Kd,Ago.flat,ih]; rfl
   have hrel : ∀ l:List UInt8,VRels fid M H φ (l.map fun c=>AV.int .u8 c.toNat) (l.map fun c=>Value.int .u8 c.toNat):=fun l=>by
    induction l with
    | nil=>exact VRels.nil
    | cons c l ih=>exact VRels.cons (.int _ _) ih
   have hln:(b.map fun c=>AV.int .u8 (c.toNat:Int)).length=sb.size:=by
    rw[Ka,←hsb,VV]; rfl
   refine qc4 hH hB ht (by omega) hz h.head (byteCells sb) ?_ ?_ (fun y hy=>?_) (fun _ y hy=>?_) (by rw[hn,hb1]; exact hv)
   ·rw[hln,hn]
    exact Src.ofString w htx sb
   ·rw[hfl]
    unfold byteCells
    rw[hsb]
    exact hrel b
   ·obtain ⟨c,_,rfl⟩:=KV.1 hy
    exact ⟨hn.symm,rfl⟩
   ·obtain ⟨c,_,rfl⟩:=KV.1 hy
    rfl
 ·cases hv

theorem qww (w:World) {x:AV} {X:Value} {ρ:Operand→Value} {o:Oper} {y:Operand} (ho:o.op = .nilCheck y) (hy:ρ y=X) (h:VRels fid M H φ as [X]) (hv:quQ as=some v):(execOp ρ o).run P w = .ok (.value X) w∧VRel fid M H φ v X:=by
 unfold quQ at hv
 split at hv
 ·cases hv
  have h1:=h.head
  cases h1 with
  | ptr _ _ _ _ ad hp hh=>
   refine ⟨?_,.ptr _ _ _ _ ad hp hh⟩
   simp only[execOp,ho,hy]
   rfl
 ·cases hv
  have h1:=h.head
  refine ⟨?_,h1⟩
  cases h1
  simp only[execOp,ho,hy]
  rfl
 ·cases hv
  have h1:=h.head
  refine ⟨?_,h1⟩
  cases h1
  simp only[execOp,ho,hy]
  rfl
 ·cases hv
end
end Ago
namespace Ago
open Go

section
variable {P:Program} {fid:FuncId→Option Nat} {pf:Nat→Bool} {M:Mem} {H H':Heap} {φ:Nat→Loc} {B:Nat} {w w':World} {as:List AV} {v:AV}


theorem HRel.placeMap {id:Nat} {clock:Nat} (h:HRel fid M H φ B w) (hw : ∀ b,b<w.heap.size→w'.heap[b]?=w.heap[b]?) (hB:B≤w.heap.size)
  (hnew:w'.heap[w.heap.size]?=some (.map #[] clock)) (p:Placed H id (.map []) H'):HRel fid M H' (q0Q φ id ⟨w.heap.size,0,0⟩) B w':=by
 have hle:HLe H.length H H' φ (q0Q φ id ⟨w.heap.size,0,0⟩):=p.le (.inr trivial)
 have old : ∀ r b,H'[r]?=some b→r≠id→H[r]?=some b:=fun r b hr hne=>by rw[←p.other r hne]; exact hr
 have new : ∀ b,H'[id]?=some b→b = .map []:=fun b hb=>by rw[p.at_] at hb; exact (K7 hb).symm
 have loc : ∀ r,r≠id→q0Q φ id ⟨w.heap.size,0,0⟩ r=φ r:=fun r hr=>by simp [q0Q,hr]
 have loc0:q0Q φ id ⟨w.heap.size,0,0⟩ id=⟨w.heap.size,0,0⟩:=by simp [q0Q]
 have blt : ∀ r n els ro fl fam,H[r]?=some (.row n els ro fl fam)→(φ r).blk<w.heap.size:=fun r n els ro fl fam hr=>by
  obtain ⟨c,t,fr,hc,_⟩:=(h.row _ _ _ _ _ _ hr).cells
  exact q2s hc
 have mlt : ∀ r es,H[r]?=some (.map es)→(φ r).blk<w.heap.size:=fun r es hr=>by
  obtain ⟨c,cl,hc,_⟩:=(h.map _ _ hr).ents
  exact q2s hc
 refine ⟨fun b o u hm=>?_,fun r n' els' ro' fl' fam' hr=>?_,fun r es hr=>?_,fun r r' n1 e1 o1 f1 a1 n2 e2 o2 f2 a2 hne h1 h2 hb=>?_,fun r r' es es' hne h1 h2=>?_,fun r n' els' ro' fl' fam' hr o u hm=>?_,fun r es hr o=>?_,h.bl.keep _root_.id (fun r s q hr=>?_) (fun _ _ _ _ _ _ _ _ e=>e) (fun r n' els' ro' fl' fam' hr=>?_) (fun _ _ v hm=>.inl ⟨v,hm⟩) fun r s q k hr hk=>hw k ((h.bl.at_ _ _ _ hr).feet hk).2.1⟩
 ·have hlt:=q6u h hm
  rw[World.cell?_of_block (w:=w) (hw b hlt)]
  exact h.mem b o u hm
 ·have hid:r≠id:=fun e=>by subst e; cases new _ hr
  have hr0:=old _ _ hr hid
  rw[loc r hid]
  exact (h.row _ _ _ _ _ _ hr0).mono (fun _ _ _ h=>h) hle (hw _ (blt _ _ _ _ _ _ hr0))
 ·by_cases hid:r=id
  ·subst hid
   cases new _ hr
   rw[loc0]
   exact ⟨hB,#[],clock,hnew,rfl,fun i k u hx=>by simp at hx⟩
  ·have hr0:=old _ _ hr hid
   rw[loc r hid]
   exact (h.map _ _ hr0).mono (fun _ _ _ h=>h) hle (hw _ (mlt _ _ hr0))
 ·have hid:r≠id:=fun e=>by subst e; cases new _ h1
  have hid':r'≠id:=fun e=>by subst e; cases new _ h2
  rw[loc r hid,loc r' hid'] at hb ⊢
  exact h.sepRR r r' _ _ _ _ _ _ _ _ _ _ hne (old _ _ h1 hid) (old _ _ h2 hid') hb
 ·by_cases hid:r=id
  ·subst hid
   have h2':=old _ _ h2 (fun e=>hne e.symm)
   rw[loc0,loc r' (fun e=>hne e.symm)]
   have:=mlt _ _ h2'
   simp only[ne_eq]
   omega
  ·by_cases hid':r'=id
   ·subst hid'
    have h1':=old _ _ h1 hid
    rw[loc0,loc r hid]
    have:=mlt _ _ h1'
    simp only[ne_eq]
    omega
   ·rw[loc r hid,loc r' hid']
    exact h.sepMM r r' _ _ hne (old _ _ h1 hid) (old _ _ h2 hid')
 ·have hid:r≠id:=fun e=>by subst e; cases new _ hr
  rw[loc r hid] at hm ⊢
  obtain ⟨r2,els2,fl2,h1,h2,h3⟩:=h.ownR _ _ _ _ _ _ (old _ _ hr hid) o u hm
  have hne:r2≠id:=fun e=>by
   subst e
   have:=p.free _ h1
   cases this
  exact ⟨r2,els2,fl2,by rw[p.other r2 hne]; exact h1,by rw[loc r2 hne]; exact h2,h3⟩
 ·by_cases hid:r=id
  ·subst hid
   rw[loc0]
   cases hm:M w.heap.size o with
   | none=>rfl
   | some u=>
    have:=q6u h hm
    omega
  ·rw[loc r hid]
   exact h.ownM _ _ (old _ _ hr hid) o
 ·have hid:r≠id:=fun e=>by subst e; cases new _ hr
  exact ⟨old _ _ hr hid,loc r hid⟩
 ·have hid:r≠id:=fun e=>by subst e; cases new _ hr
  rw[loc r hid]
  exact .inl ⟨r,_,_,_,_,_,old _ _ hr hid,rfl⟩

theorem qq4 {t:TypeId} {o:Option Value} {id:Nat} {b:Blk} (hH:HRel fid M H φ B w) (hB:B≤w.heap.size) (ht : ∃ k e,P.underlying t=some (.map k e)) (h:VRels fid M H φ as o.toList) (hv:qbL id as=some (v,b)) :
  MadeOk P fid M H φ B w (Instr.makeMap t o) v b id:=by
 obtain ⟨kt,e,ht⟩:=ht
 have hvb:v = .mref id∧b = .map []:=by
  unfold qbL at hv
  split at hv
  ·cases hv; exact ⟨rfl,rfl⟩
  ·cases hv; exact ⟨rfl,rfl⟩
  ·cases hv
 obtain ⟨rfl,rfl⟩:=hvb
 have hrun:(Instr.makeMap t o).run P w = .ok (.map (some w.heap.size)) (w.alloc (.map #[] 0)):=by
  cases o with
  | none=>rfl
  | some hint=>
   unfold qbL at hv
   split at hv
   ·have:=h.1; simp at this
   ·rename_i k n
    cases h.head
    simp only[Instr.makeMap,Sem.run_bind,run_underlying ht,Result.andThen_ok,asInt,Sem.run_pure]
    rfl
   ·cases hv
 intro H' p
 refine ⟨_,_,q0Q φ id ⟨w.heap.size,0,0⟩,hrun,hH.placeMap (fun b hb=>q12 _ b hb) hB (q1x _) p,p.le (.inr trivial),?_,q3F hB _⟩
 exact .mref id _ (q3S p (by intro h; cases h)) (fun es hes=>by simp [q0Q])


theorem qhC {x:AV} (h:x.one=true):x.cells=[x]:=by cases x<;>first | rfl | cases h

def CK.fits:CK→TypeDesc→Bool
 | .int,.int _=>true
 | .bool,.bool=>true
 | .str,.string=>true
 | _,_=>false

theorem q5c {kt:TypeId} {c:CK} (h:qbM P kt=some c) : ∃ d,P.underlying kt=some d∧c.fits d=true:=by
 unfold qbM at h
 split at h
 ·rename_i i hd; cases h; exact ⟨_,hd,rfl⟩
 ·rename_i hd; cases h; exact ⟨_,hd,rfl⟩
 ·rename_i hd; cases h; exact ⟨_,hd,rfl⟩
 ·cases h

theorem qjU (a b:ByteArray):(a == b)=(a.toList == b.toList):=by
 have h:(a == b)=(a.data == b.data):=rfl
 rw[h,ByteArray.toList_eq,ByteArray.toList_eq,Vd]
 simp
theorem q3I {P:Program} {w:World} {r:Nat} {es:Array MapEntry} {clock:Nat} (hb:w.heap[r]?=some (.map es clock)):(getObj r).run P w = .ok (.map es clock) w:=by
 simp [getObj,Sem.run,hb]

theorem qbt {c:CK} {d:TypeDesc} {X Y:Value} {b:Bool} (hc:c.fits d=true) (h:q3E c X Y=some b):Instr.sameNow d X Y=some b:=by
 unfold q3E at h
 split at h
 ·cases d<;>first | (cases hc; done) | exact h
 ·cases d<;>first | (cases hc; done) | exact h
 ·cases d<;>first | (cases hc; done) | (simp only[Instr.sameNow,qjU]; exact h)
 ·cases h

def q7W (fid:FuncId→Option Nat) (M:Mem) (H:Heap) (φ:Nat→Loc):Option (Nat × AV)→Option (Nat × Value)→Prop
 | none,none=>True
 | some (i,x),some (j,u)=>i=j∧VRel fid M H φ x u
 | _,_=>False

theorem q6H {c:CK} {d:TypeDesc} (hc:c.fits d=true) {k:AV} {K:Value} (hk:VRel fid M H φ k K) : ∀ (es:List (AV × AV)) (ces:List MapEntry) (i:Nat) (r:Option (Nat × AV)),es.length=ces.length →
  (∀ (j:Nat) (x y:AV),es[j]?=some (x,y)→∃ e,ces[j]?=some e∧VRel fid M H φ x e.key∧VRel fid M H φ y e.val)→findKey (.one c) k es i=some r→∃ r',Instr.findNow d K ces i=some r'∧q7W fid M H φ r r'
 | [],ces,i,r,hl,_,h=>by
  cases ces with
  | nil=>cases h; exact ⟨none,rfl,trivial⟩
  | cons _ _=>simp at hl
 | (x,y)::es,ces,i,r,hl,he,h=>by
  cases ces with
  | nil=>simp at hl
  | cons e ces=>
   obtain ⟨e',h1,h2,h3⟩:=he 0 x y rfl
   simp only[KZ,Kq] at h1
   subst h1
   simp only[findKey,q44] at h
   split at h
   ·cases h
   ·rename_i hb
    cases h
    have:=qbt hc (q6h hk h2 hb)
    exact ⟨some (i,e.val),by simp [Instr.findNow,this],rfl,h3⟩
   ·rename_i hb
    have:=qbt hc (q6h hk h2 hb)
    obtain ⟨r',k1,k2⟩:=q6H hc hk es ces (i+1) r (by simpa using hl) (fun j x y hj=>by have:=he (j+1) x y (by simpa using hj); simpa using this) h
    exact ⟨r',by simp [Instr.findNow,this,k1],k2⟩

theorem q4K {c:CK} {d:TypeDesc} (hc:c.fits d=true) {kt:TypeId} (hd:P.underlying kt=some d) (e:Bool) (n:Nat) (K:Value):(Instr.checkKey e (n+1) kt K).run P w = .ok () w:=by
 unfold Instr.checkKey
 simp only[Sem.run_bind,run_underlying hd,Result.andThen_ok]
 cases c<;>cases d<;>first | (cases hc; done) | rfl

theorem q6K {d:TypeDesc} {kt:TypeId} (hd:P.underlying kt=some d) {K:Value} {ces:List MapEntry} {r:Option (Nat × Value)} (h:Instr.findNow d K ces 0=some r):(Instr.findKey kt K ces).run P w = .ok r w:=by
 unfold Instr.findKey
 simp only[Sem.run_bind,run_underlying hd,Result.andThen_ok,h]
 rfl

theorem qhn {e:TypeId} {z:AV} (hz:q2z P e=some z) (ho:qa5 P e=true) : ∃ zv,(∀ w:World,(zeroValue e).run P w = .ok zv w)∧VRel fid M H φ z zv:=by
 obtain ⟨iz,zv,hzi,hzz,hzr,hzl,hz1,hzp⟩:=q6Z (fid:=fid) (M:=M) (H:=H) (φ:=φ) hz
 refine ⟨zv,fun w=>by simp only[zeroValue,Sem.run_bind,typeInfo,run_program,Result.andThen_ok,hzi,Sem.run_pure,hzz],?_⟩
 have hb:(P.info? e).bind (·.zero)=some zv:=by rw[hzi]; exact hzz
 unfold qa5 at ho
 rw[hb] at ho
 unfold q2z at hz
 rw[VM] at hz
 obtain ⟨cs,h1,h2⟩:=hz
 cases hg:q0v P e with
 | true=>
  rw[hg] at h2 ho
  cases h2
  cases zv with
  | agg vs=>exact .agg cs vs (by simpa [AV.cells,Value.cells] using hzr.1) (fun i x v hx hv=>hzr.2 i x v hx (by simpa [Value.cells] using hv))
  | _=>cases ho
 | false=>
  rw[hg] at h2 ho
  have single:zv.cells = #[zv]→VRel fid M H φ z zv:=fun hc=>by
   rw[hc] at hzr
   unfold q8F at h2
   split at h2
   ·rename_i hx; cases hx
   ·split at h2
    ·cases h2
     rename_i x _ _
     have hx:z.one=true∧True:=by
      obtain ⟨_,_,_,h3,h4,h5⟩:=q3M (fid:=fid) (M:=M) (H:=H) (φ:=φ) h1
      exact ⟨by simpa using h3,trivial⟩
     rw[qhC hx.1] at hzr
     exact hzr.head
    ·cases h2
  cases zv with
  | agg vs=>cases ho
  | tuple vs=>cases ho
  | _=>exact single rfl

theorem qmV {t kt e:TypeId} {d:TypeDesc} {c:CK} {zero:AV} {ok:Bool} {X K:Value} (hH:HRel fid M H φ B w) (ht:P.underlying t=some (.map kt e)) (hd:P.underlying kt=some d) (hc:c.fits d=true) (hz:q2z P e=some zero) (hzo:qa5 P e=true)
  (h:VRels fid M H φ as [X,K]) (hv:q5n (.one c) zero ok H as=some v) : ∃ r,(Instr.lookup t X K ok).run P w = .ok r w∧VRel fid M H φ v r:=by
 obtain ⟨zv,hzero',hzrel⟩:=qhn (fid:=fid) (M:=M) (H:=H) (φ:=φ) hz hzo
 have hzero:=hzero' w
 have fin : ∀ (es:List (AV × AV)) (ces:Array MapEntry),ces.size=es.length→(∀ (i:Nat) (k u:AV),es[i]?=some (k,u)→∃ e,ces[i]?=some e∧VRel fid M H φ k e.key∧VRel fid M H φ u e.val)→∀ (k:AV),VRel fid M H φ k K →
   qhL zero ok (findKey (.one c) k es 0)=some v→∃ r r',Instr.findNow d K ces.toList 0=some r'∧VRel fid M H φ v r∧r=(if ok then .tuple #[(r'.map (·.2)).getD zv,.bool r'.isSome] else (r'.map (·.2)).getD zv):=by
  intro es ces hsz hes k hk hf
  cases hfk:findKey (.one c) k es 0 with
  | none=>rw[hfk] at hf; cases hf
  | some r=>
   rw[hfk] at hf
   obtain ⟨r',h1,h2⟩:=q6H hc hk es ces.toList 0 r (by simp [hsz]) (fun j x y hj=>by obtain ⟨e,k1,k2⟩:=hes j x y hj; exact ⟨e,by simpa using k1,k2⟩) hfk
   cases r with
   | none=>
    cases r' with
    | some _=>exact h2.elim
    | none=>
     refine ⟨_,none,h1,?_,rfl⟩
     cases ok with
     | true=>
      cases hf
      exact VRel.ofTups (VRels.cons hzrel (VRels.cons (.bool false) VRels.nil))
     | false=>cases hf; exact hzrel
   | some ix=>
    obtain ⟨i,x⟩:=ix
    cases r' with
    | none=>exact h2.elim
    | some ju=>
     obtain ⟨j,u⟩:=ju
     obtain ⟨rfl,h2⟩:=h2
     refine ⟨_,some (i,u),h1,?_,rfl⟩
     cases ok with
     | true=>
      cases hf
      exact VRel.ofTups (VRels.cons h2 (VRels.cons (.bool true) VRels.nil))
     | false=>cases hf; exact h2
 have run : ∀ (ces:Array MapEntry) (r':Option (Nat × Value)) (r:Value),Instr.findNow d K ces.toList 0=some r'→r=(if ok then .tuple #[(r'.map (·.2)).getD zv,.bool r'.isSome] else (r'.map (·.2)).getD zv) →
   (do
     Instr.checkKey ces.isEmpty 10000 kt K
     let (v,ok') ← match ← Instr.findKey kt K ces.toList with
      | some (_,v)=>pure (v,true)
      | none=>pure (← zeroValue e,false)
     pure (if ok then .tuple #[v,.bool ok'] else v):Sem Value).run P w = .ok r w:=by
  intro ces r' r h1 hr
  simp only[Sem.run_bind,q4K hc hd,Result.andThen_ok,q6K hd h1]
  cases r' with
  | none=>simp only[Sem.run_bind,hzero,Result.andThen_ok,Sem.run_pure]; rw[hr]; rfl
  | some ju=>simp only[Sem.run_pure,Result.andThen_ok]; rw[hr]; rfl
 unfold q5n at hv
 split at hv
 ·rename_i r k
  obtain ⟨es,hes,hf⟩:=q4X hv
  obtain ⟨hbase,ces,clock,hc1,hc2,hc3⟩:=hH.map r es hes
  cases h.head with
  | mref _ b hp hb=>
   have hbb:=hb es hes
   subst hbb
   obtain ⟨r0,r',k1,k2,k3⟩:=fin es ces hc2 hc3 k h.tail.head hf
   refine ⟨r0,?_,k2⟩
   have:=run ces r' r0 k1 k3
   simp only[Instr.lookup,Sem.run_bind,run_underlying ht,Result.andThen_ok,q3I hc1,Sem.run_pure] at this ⊢
   exact this
 ·rename_i k
  cases h.head
  obtain ⟨r0,r',k1,k2,k3⟩:=fin [] #[] rfl (fun i k u hx=>by simp at hx) k h.tail.head hv
  refine ⟨r0,?_,k2⟩
  have:=run #[] r' r0 k1 k3
  simp only[Instr.lookup,Sem.run_bind,run_underlying ht,Result.andThen_ok,Sem.run_pure] at this ⊢
  exact this
 ·cases hv


theorem HRel.setMap {r:Nat} {es es':List (AV × AV)} {ces':Array MapEntry} {clock':Nat} (hH:HRel fid M H φ B w) (hr:H[r]?=some (.map es)) (hsz:ces'.size=es'.length)
  (hes : ∀ (i:Nat) (k u:AV),es'[i]?=some (k,u)→∃ e,ces'[i]?=some e∧VRel fid M H φ k e.key∧VRel fid M H φ u e.val) {w':World} (hw':w'={ w with heap:=w.heap.setIfInBounds (φ r).blk (.map ces' clock') }) :
  HRel fid M (H.set r (.map es')) φ B w'∧HLe H.length H (H.set r (.map es')) φ φ∧RowKit.Below B w w':=by
 obtain ⟨hbase,ces,clock,hc1,hc2,hc3⟩:=hH.map r es hr
 have hrl:=q0f hr
 have hle:HLe H.length H (H.set r (.map es')) φ φ:=by
  refine ⟨by simp,fun q b hq hb=>?_⟩
  by_cases hqr:q=r
  ·subst hqr
   rw[hr] at hb
   cases hb
   exact ⟨.map es',by simp [hrl],.inr ⟨es',rfl⟩,fun _=>⟨(by intro h; cases h),rfl⟩⟩
  ·exact ⟨b,by rw[K0 (Ne.symm hqr)]; exact hb,b.le_refl,fun h=>⟨h,rfl⟩⟩
 have hheap : ∀ b,b≠(φ r).blk→w'.heap[b]?=w.heap[b]?:=fun b hb=>by
  rw[hw']
  simp only[Array.getElem?_setIfInBounds,if_neg (Ne.symm hb)]
 have hhere:w'.heap[(φ r).blk]?=some (.map ces' clock'):=by
  rw[hw']
  simp [q2s hc1]
 have old : ∀ q b,(H.set r (.map es'))[q]?=some b→q≠r→H[q]?=some b:=fun q b hq hne=>by rw[K0 (Ne.symm hne)] at hq; exact hq
 have new : ∀ b,(H.set r (.map es'))[r]?=some b→b = .map es':=fun b hb=>by rw[Ve hrl] at hb; exact (K7 hb).symm
 have rowne : ∀ q n els ro fl fam,H[q]?=some (.row n els ro fl fam)→(φ q).blk≠(φ r).blk:=fun q n els ro fl fam hq e=>by
  obtain ⟨c,t,fr,hcq,_⟩:=(hH.row _ _ _ _ _ _ hq).cells
  rw[e,hc1] at hcq
  cases hcq
 refine ⟨⟨fun b o u hm=>?_,fun q n els ro fl fam hq=>?_,fun q es2 hq=>?_,fun q q' n1 e1 o1 f1 a1 n2 e2 o2 f2 a2 hne h1 h2 hb=>?_,fun q q' e1 e2 hne h1 h2=>?_,fun q n els ro fl fam hq o u hm=>?_,fun q es2 hq o=>?_,hH.bl.keep id (fun q s x hq=>⟨old _ _ hq (fun e=>by subst e; cases new _ hq),rfl⟩) (fun _ _ _ _ _ _ _ _ e=>e) (fun q n' els' ro' fl' fam' hq=>.inl ⟨q,_,_,_,_,_,old _ _ hq (fun e=>by subst e; cases new _ hq),rfl⟩) (fun _ _ v hm=>.inl ⟨v,hm⟩) fun q s x k hq hk=>hheap k (fun e=>by obtain ⟨_,_,c,t,fr,hc⟩:=(hH.bl.at_ _ _ _ hq).feet hk; rw[e,hc1] at hc; cases hc)⟩,hle,⟨by rw[hw'],by rw[hw'],by rw[hw'],by rw[hw']; simp,fun k hk=>hheap k (by omega)⟩⟩
 ·have hb:b≠(φ r).blk:=fun e=>by
   have:=hH.ownM r es hr o
   rw[e] at hm
   rw[hm] at this
   cases this
  rw[World.cell?_of_block (w:=w) (hheap b hb)]
  exact hH.mem b o u hm
 ·have hne:q≠r:=fun e=>by subst e; cases new _ hq
  have hq0:=old _ _ hq hne
  exact (hH.row _ _ _ _ _ _ hq0).mono (fun _ _ _ h=>h) hle (hheap _ (rowne _ _ _ _ _ _ hq0))
 ·by_cases hqr:q=r
  ·subst hqr
   cases new _ hq
   refine ⟨hbase,ces',clock',hhere,hsz,fun i k u hx=>?_⟩
   obtain ⟨e,k1,k2,k3⟩:=hes i k u hx
   exact ⟨e,k1,k2.mono (fun _ _ _ h=>h) hle,k3.mono (fun _ _ _ h=>h) hle⟩
  ·have hq0:=old _ _ hq hqr
   exact (hH.map _ _ hq0).mono (fun _ _ _ h=>h) hle (hheap _ (hH.sepMM q r _ _ hqr hq0 hr))
 ·have hq:q≠r:=fun e=>by subst e; cases new _ h1
  have hq':q'≠r:=fun e=>by subst e; cases new _ h2
  exact hH.sepRR q q' _ _ _ _ _ _ _ _ _ _ hne (old _ _ h1 hq) (old _ _ h2 hq') hb
 ·by_cases hq:q=r
  ·subst hq
   exact hH.sepMM q q' _ _ hne hr (old _ _ h2 (fun e=>hne e.symm))
  ·by_cases hq':q'=r
   ·subst hq'
    exact hH.sepMM q q' _ _ hne (old _ _ h1 hq) hr
   ·exact hH.sepMM q q' _ _ hne (old _ _ h1 hq) (old _ _ h2 hq')
 ·have hne:q≠r:=fun e=>by subst e; cases new _ hq
  obtain ⟨r2,els2,fl2,h1,h2,h3⟩:=hH.ownR _ _ _ _ _ _ (old _ _ hq hne) o u hm
  have hne2:r2≠r:=fun e=>by subst e; rw[hr] at h1; cases h1
  exact ⟨r2,els2,fl2,by rw[K0 (Ne.symm hne2)]; exact h1,h2,h3⟩
 ·by_cases hqr:q=r
  ·subst hqr
   exact hH.ownM q es hr o
  ·exact hH.ownM _ _ (old _ _ hq hqr) o

theorem qa6 {c:CK} {X Y:Value} (h:q3E c X Y=some true) (n:Nat):Instr.sameBits n Y X=true:=by
 unfold q3E at h
 split at h
 ·rename_i k a k' b
  split at h
  ·rename_i hk
   subst hk
   simp only[Kq,beq_iff_eq] at h
   subst h
   cases n<;>simp [Instr.sameBits]
  ·cases h
 ·rename_i a b
  simp only[Kq,beq_iff_eq] at h
  subst h
  cases n<;>simp [Instr.sameBits]
 ·rename_i a b
  simp only[Kq] at h
  rw[←qjU] at h
  have h2:(b == a)=true:=by
   rw[qjU] at h ⊢
   have:=eq_of_beq h
   rw[this]
   simp
  cases n<;>simp [Instr.sameBits,h2]
 ·cases h

theorem qc5 {c:CK} {k:AV} : ∀ (es:List (AV × AV)) (i:Nat) (j:Nat) (x:AV),findKey (.one c) k es i=some (some (j,x))→∃ y,i≤j∧es[j-i]?=some (y,x)∧q31 c k y=some true
 | [],i,j,x,h=>by cases h
 | (y,z)::es,i,j,x,h=>by
  simp only[findKey,q44] at h
  split at h
  ·cases h
  ·rename_i hb
   simp only[Kq,Vm] at h
   obtain ⟨rfl,rfl⟩:=h
   exact ⟨y,Kr _,by simp,hb⟩
  ·obtain ⟨y',h1,h2,h3⟩:=qc5 es (i+1) j x h
   refine ⟨y',by omega,?_,h3⟩
   rw[show j-i=(j-(i+1))+1 by omega]
   simpa using h2

theorem qgC {t kt e:TypeId} {d:TypeDesc} {c:CK} {X K U:Value} {H':Heap} (hH:HRel fid M H φ B w) (ht:P.underlying t=some (.map kt e)) (hd:P.underlying kt=some d) (hc:c.fits d=true)
  (h:VRels fid M H φ as [X,K,U]) (hv:q73 (.one c) H as=some (v,H')) :
  v = .tup []∧∃ w',(Instr.mapUpdate t X K U).run P w = .ok () w'∧HRel fid M H' φ B w'∧HLe H.length H H' φ φ∧RowKit.Below B w w':=by
 unfold q73 at hv
 split at hv
 ·rename_i r k u
  obtain ⟨es,hes,hput⟩:=q4X hv
  obtain ⟨hbase,ces,clock,hc1,hc2,hc3⟩:=hH.map r es hes
  have hk:=h.tail.head
  have hu:=h.tail.tail.head
  cases h.head with
  | mref _ b hp hb=>
   have hbb:=hb es hes
   subst hbb
   unfold qhk at hput
   cases hfk:findKey (.one c) k es 0 with
   | none=>rw[hfk] at hput; cases hput
   | some fr=>
    rw[hfk] at hput
    obtain ⟨r',k1,k2⟩:=q6H hc hk es ces.toList 0 fr (by simp [hc2]) (fun j x y hj=>by obtain ⟨e,m1,m2⟩:=hc3 j x y hj; exact ⟨e,by simpa using m1,m2⟩) hfk
    cases fr with
    | none=>
     cases r' with
     | some _=>exact k2.elim
     | none=>
      cases hput
      refine ⟨rfl,_,?_,hH.setMap (ces':=ces.push { key:=K,val:=U,born:=clock }) (clock':=clock+1) hes (by simp [hc2]) (fun i x y hi=>?_) rfl⟩
      ·simp only[Instr.mapUpdate,Sem.run_bind,run_underlying ht,Result.andThen_ok,q3I hc1,q4K hc hd,q6K hd k1]
       simp [setObj,Sem.run,hc1]
      ·rw[Vo] at hi
       split at hi
       ·obtain ⟨e,m1,m2⟩:=hc3 i x y hi
        have hlt:i<ces.size:=(VD.1 m1).1
        exact ⟨e,by rw[Array.getElem?_push,if_neg (by omega)]; exact m1,m2⟩
       ·rename_i hge
        have h0:i-es.length=0:=by
         have:=q0f hi
         simp at this
         omega
        rw[h0] at hi
        simp only[KZ,Kq,Vm] at hi
        obtain ⟨rfl,rfl⟩:=hi
        refine ⟨{ key:=K,val:=U,born:=clock },?_,hk,hu⟩
        rw[Array.getElem?_push,if_pos (by omega)]
    | some jx=>
     obtain ⟨j,x⟩:=jx
     cases r' with
     | none=>exact k2.elim
     | some ju=>
      obtain ⟨j',u'⟩:=ju
      obtain ⟨rfl,k2⟩:=k2
      cases hput
      obtain ⟨y,_,q2,q3⟩:=qc5 es 0 j x hfk
      simp only[Nat.sub_zero] at q2
      obtain ⟨ej,m1,m2,m3⟩:=hc3 j y x q2
      have hbits:=qa6 (q6h hk m2 q3) 10000
      have hjlt:j<ces.size:=(VD.1 m1).1
      refine ⟨rfl,_,?_,hH.setMap (ces':=ces.modify j fun e=>{ e with key:=K,val:=U }) (clock':=clock) hes (by simp [hc2]) (fun i x' y' hi=>?_) rfl⟩
      ·simp only[Instr.mapUpdate,Sem.run_bind,run_underlying ht,Result.andThen_ok,q3I hc1,q4K hc hd,q6K hd k1,m1,KM,K8,Instr.keyThatStays,hbits,if_true,Sem.run_pure]
       simp [setObj,Sem.run,hc1]
      ·by_cases hij:j=i
       ·subst hij
        have hjl:j<es.length:=by omega
        rw[Ve hjl] at hi
        simp only[Kq,Vm] at hi
        obtain ⟨rfl,rfl⟩:=hi
        refine ⟨{ ej with key:=K,val:=U },?_,hk,hu⟩
        rw[VX,if_pos rfl,m1]
        rfl
       ·rw[K0 hij] at hi
        obtain ⟨e,n1,n2⟩:=hc3 i x' y' hi
        refine ⟨e,?_,n2⟩
        rw[VX,if_neg hij]
        exact n1
 ·cases hv


theorem qmE {t kt e ty:TypeId} {X:Value} (hH:HRel fid M H φ B w) (ht:P.underlying t=some (.map kt e)) (h:VRels fid M H φ as [X]) (hv:qan H as=some v) :
  ∃ r,(Builtin.len_ #[t] ty #[X]).run P w = .ok r w∧VRel fid M H φ v r:=by
 unfold qan at hv
 split at hv
 ·rename_i r
  obtain ⟨es,hes,hf⟩:=q4X hv
  cases hf
  obtain ⟨hbase,ces,clock,hc1,hc2,hc3⟩:=hH.map r es hes
  cases h.head with
  | mref _ b hp hb=>
   have hbb:=hb es hes
   subst hbb
   refine ⟨goInt ces.size,?_,?_⟩
   ·simp [Builtin.len_,run_underlying ht,q3I hc1]
   ·rw[hc2]
    exact .int .i64 _
 ·cases h.head
  cases hv
  refine ⟨goInt 0,?_,.int .i64 0⟩
  simp [Builtin.len_,run_underlying ht]
 ·cases hv
end
end Ago
namespace Ago
open Go

section
variable {P:Program} {fid:FuncId→Option Nat} {pf:Nat→Bool} {M:Mem} {H H':Heap} {φ:Nat→Loc} {B:Nat} {w w':World} {as:List AV} {v:AV}

theorem qaj {kk:KK} {k:AV} : ∀ (es:List (AV × AV)) (i:Nat) (j:Nat) (x:AV),findKey kk k es i=some (some (j,x))→∃ y,i≤j∧es[j-i]?=some (y,x)∧q44 kk k y=some true
 | [],i,j,x,h=>by cases h
 | (y,z)::es,i,j,x,h=>by
  simp only[findKey] at h
  split at h
  ·cases h
  ·rename_i hb
   simp only[Kq,Vm] at h
   obtain ⟨rfl,rfl⟩:=h
   exact ⟨y,Kr _,by simp,hb⟩
  ·obtain ⟨y',h1,h2,h3⟩:=qaj es (i+1) j x h
   refine ⟨y',by omega,?_,h3⟩
   rw[show j-i=(j-(i+1))+1 by omega]
   simpa using h2

theorem qkO {t kt e:TypeId} {kk:KK} {zero:AV} {ok:Bool} {X K:Value} (hH:HRel fid M H φ B w) (ht:P.underlying t=some (.map kt e)) (hF : ∀ (es:List (AV × AV)) (ces:List MapEntry) (k:AV) (r:Option (Nat × AV)),VRel fid M H φ k K→es.length=ces.length→(∀ (j:Nat) (x y:AV),es[j]?=some (x,y)→∃ e,ces[j]?=some e∧VRel fid M H φ x e.key∧VRel fid M H φ y e.val)→findKey kk k es 0=some r→∃ r',(Instr.findKey kt K ces).run P w = .ok r' w∧q7W fid M H φ r r') (hK : ∀ em,(Instr.checkKey em 10000 kt K).run P w = .ok () w) (hz:q2z P e=some zero) (hzo:qa5 P e=true)
  (h:VRels fid M H φ as [X,K]) (hv:q5n kk zero ok H as=some v) : ∃ r,(Instr.lookup t X K ok).run P w = .ok r w∧VRel fid M H φ v r:=by
 obtain ⟨zv,hzero',hzrel⟩:=qhn (fid:=fid) (M:=M) (H:=H) (φ:=φ) hz hzo
 have hzero:=hzero' w
 have fin : ∀ (es:List (AV × AV)) (ces:Array MapEntry),ces.size=es.length→(∀ (i:Nat) (k u:AV),es[i]?=some (k,u)→∃ e,ces[i]?=some e∧VRel fid M H φ k e.key∧VRel fid M H φ u e.val)→∀ (k:AV),VRel fid M H φ k K →
   qhL zero ok (findKey kk k es 0)=some v→∃ r r',(Instr.findKey kt K ces.toList).run P w = .ok r' w∧VRel fid M H φ v r∧r=(if ok then .tuple #[(r'.map (·.2)).getD zv,.bool r'.isSome] else (r'.map (·.2)).getD zv):=by
  intro es ces hsz hes k hk hf
  cases hfk:findKey kk k es 0 with
  | none=>rw[hfk] at hf; cases hf
  | some r=>
   rw[hfk] at hf
   obtain ⟨r',h1,h2⟩:=hF es ces.toList k r hk (by simp [hsz]) (fun j x y hj=>by obtain ⟨e,k1,k2⟩:=hes j x y hj; exact ⟨e,by simpa using k1,k2⟩) hfk
   cases r with
   | none=>
    cases r' with
    | some _=>exact h2.elim
    | none=>
     refine ⟨_,none,h1,?_,rfl⟩
     cases ok with
     | true=>
      cases hf
      exact VRel.ofTups (VRels.cons hzrel (VRels.cons (.bool false) VRels.nil))
     | false=>cases hf; exact hzrel
   | some ix=>
    obtain ⟨i,x⟩:=ix
    cases r' with
    | none=>exact h2.elim
    | some ju=>
     obtain ⟨j,u⟩:=ju
     obtain ⟨rfl,h2⟩:=h2
     refine ⟨_,some (i,u),h1,?_,rfl⟩
     cases ok with
     | true=>
      cases hf
      exact VRel.ofTups (VRels.cons h2 (VRels.cons (.bool true) VRels.nil))
     | false=>cases hf; exact h2
 have run : ∀ (ces:Array MapEntry) (r':Option (Nat × Value)) (r:Value),(Instr.findKey kt K ces.toList).run P w = .ok r' w→r=(if ok then .tuple #[(r'.map (·.2)).getD zv,.bool r'.isSome] else (r'.map (·.2)).getD zv) →
   (do
     Instr.checkKey ces.isEmpty 10000 kt K
     let (v,ok') ← match ← Instr.findKey kt K ces.toList with
      | some (_,v)=>pure (v,true)
      | none=>pure (← zeroValue e,false)
     pure (if ok then .tuple #[v,.bool ok'] else v):Sem Value).run P w = .ok r w:=by
  intro ces r' r h1 hr
  simp only[Sem.run_bind,hK,Result.andThen_ok,h1]
  cases r' with
  | none=>simp only[Sem.run_bind,hzero,Result.andThen_ok,Sem.run_pure]; rw[hr]; rfl
  | some ju=>simp only[Sem.run_pure,Result.andThen_ok]; rw[hr]; rfl
 unfold q5n at hv
 split at hv
 ·rename_i r k
  obtain ⟨es,hes,hf⟩:=q4X hv
  obtain ⟨hbase,ces,clock,hc1,hc2,hc3⟩:=hH.map r es hes
  cases h.head with
  | mref _ b hp hb=>
   have hbb:=hb es hes
   subst hbb
   obtain ⟨r0,r',k1,k2,k3⟩:=fin es ces hc2 hc3 k h.tail.head hf
   refine ⟨r0,?_,k2⟩
   have:=run ces r' r0 k1 k3
   simp only[Instr.lookup,Sem.run_bind,run_underlying ht,Result.andThen_ok,q3I hc1,Sem.run_pure] at this ⊢
   exact this
 ·rename_i k
  cases h.head
  obtain ⟨r0,r',k1,k2,k3⟩:=fin [] #[] rfl (fun i k u hx=>by simp at hx) k h.tail.head hv
  refine ⟨r0,?_,k2⟩
  have:=run #[] r' r0 k1 k3
  simp only[Instr.lookup,Sem.run_bind,run_underlying ht,Result.andThen_ok,Sem.run_pure] at this ⊢
  exact this
 ·cases hv

theorem qkt {t kt e:TypeId} {kk:KK} {X K U:Value} {H':Heap} (hH:HRel fid M H φ B w) (ht:P.underlying t=some (.map kt e)) (hF : ∀ (es:List (AV × AV)) (ces:List MapEntry) (k:AV) (r:Option (Nat × AV)),VRel fid M H φ k K→es.length=ces.length→(∀ (j:Nat) (x y:AV),es[j]?=some (x,y)→∃ e,ces[j]?=some e∧VRel fid M H φ x e.key∧VRel fid M H φ y e.val)→findKey kk k es 0=some r→∃ r',(Instr.findKey kt K ces).run P w = .ok r' w∧q7W fid M H φ r r') (hK : ∀ em,(Instr.checkKey em 10000 kt K).run P w = .ok () w)
  (hB : ∀ (k y:AV) (Y:Value),VRel fid M H φ k K→VRel fid M H φ y Y→q44 kk k y=some true→Instr.sameBits 10000 Y K=true)
  (h:VRels fid M H φ as [X,K,U]) (hv:q73 kk H as=some (v,H')) :
  v = .tup []∧∃ w',(Instr.mapUpdate t X K U).run P w = .ok () w'∧HRel fid M H' φ B w'∧HLe H.length H H' φ φ∧RowKit.Below B w w':=by
 unfold q73 at hv
 split at hv
 ·rename_i r k u
  obtain ⟨es,hes,hput⟩:=q4X hv
  obtain ⟨hbase,ces,clock,hc1,hc2,hc3⟩:=hH.map r es hes
  have hk:=h.tail.head
  have hu:=h.tail.tail.head
  cases h.head with
  | mref _ b hp hb=>
   have hbb:=hb es hes
   subst hbb
   unfold qhk at hput
   cases hfk:findKey kk k es 0 with
   | none=>rw[hfk] at hput; cases hput
   | some fr=>
    rw[hfk] at hput
    obtain ⟨r',k1,k2⟩:=hF es ces.toList k fr hk (by simp [hc2]) (fun j x y hj=>by obtain ⟨e,m1,m2⟩:=hc3 j x y hj; exact ⟨e,by simpa using m1,m2⟩) hfk
    cases fr with
    | none=>
     cases r' with
     | some _=>exact k2.elim
     | none=>
      cases hput
      refine ⟨rfl,_,?_,hH.setMap (ces':=ces.push { key:=K,val:=U,born:=clock }) (clock':=clock+1) hes (by simp [hc2]) (fun i x y hi=>?_) rfl⟩
      ·simp only[Instr.mapUpdate,Sem.run_bind,run_underlying ht,Result.andThen_ok,q3I hc1,hK,k1]
       simp [setObj,Sem.run,hc1]
      ·rw[Vo] at hi
       split at hi
       ·obtain ⟨e,m1,m2⟩:=hc3 i x y hi
        have hlt:i<ces.size:=(VD.1 m1).1
        exact ⟨e,by rw[Array.getElem?_push,if_neg (by omega)]; exact m1,m2⟩
       ·rename_i hge
        have h0:i-es.length=0:=by
         have:=q0f hi
         simp at this
         omega
        rw[h0] at hi
        simp only[KZ,Kq,Vm] at hi
        obtain ⟨rfl,rfl⟩:=hi
        refine ⟨{ key:=K,val:=U,born:=clock },?_,hk,hu⟩
        rw[Array.getElem?_push,if_pos (by omega)]
    | some jx=>
     obtain ⟨j,x⟩:=jx
     cases r' with
     | none=>exact k2.elim
     | some ju=>
      obtain ⟨j',u'⟩:=ju
      obtain ⟨rfl,k2⟩:=k2
      cases hput
      obtain ⟨y,_,q2,q3⟩:=qaj es 0 j x hfk
      simp only[Nat.sub_zero] at q2
      obtain ⟨ej,m1,m2,m3⟩:=hc3 j y x q2
      have hbits:=hB k y ej.key hk m2 q3
      have hjlt:j<ces.size:=(VD.1 m1).1
      refine ⟨rfl,_,?_,hH.setMap (ces':=ces.modify j fun e=>{ e with key:=K,val:=U }) (clock':=clock) hes (by simp [hc2]) (fun i x' y' hi=>?_) rfl⟩
      ·simp only[Instr.mapUpdate,Sem.run_bind,run_underlying ht,Result.andThen_ok,q3I hc1,hK,k1,m1,KM,K8,Instr.keyThatStays,hbits,if_true,Sem.run_pure]
       simp [setObj,Sem.run,hc1]
      ·by_cases hij:j=i
       ·subst hij
        have hjl:j<es.length:=by omega
        rw[Ve hjl] at hi
        simp only[Kq,Vm] at hi
        obtain ⟨rfl,rfl⟩:=hi
        refine ⟨{ ej with key:=K,val:=U },?_,hk,hu⟩
        rw[VX,if_pos rfl,m1]
        rfl
       ·rw[K0 hij] at hi
        obtain ⟨e,n1,n2⟩:=hc3 i x' y' hi
        refine ⟨e,?_,n2⟩
        rw[VX,if_neg hij]
        exact n1
 ·cases hv



theorem q9L {kt:TypeId} {sh:List CK} (h:qaV P kt=some sh) : ∃ n e d c,P.underlying kt=some (.array n e)∧P.underlying e=some d∧c.fits d=true∧q0n P e=1∧sh=List.replicate n c:=by
 unfold qaV at h
 split at h
 ·rename_i n e hu
  split at h
  ·rename_i c hc
   split at h
   ·rename_i hs
    cases h
    obtain ⟨d,h1,h2⟩:=q5c hc
    exact ⟨n,e,d,c,hu,h1,h2,hs,rfl⟩
   ·cases h
  ·cases h
 ·cases h

theorem qjl {kt e:TypeId} {n:Nat} {d:TypeDesc} {c:CK} (hu:P.underlying kt=some (.array n e)) (he:P.underlying e=some d) (hc:c.fits d=true) (hs:q0n P e=1):q1Y P 6 kt=some (List.replicate n c):=by
 have h5:q1Y P 5 e=some [c]:=by
  unfold q1Y
  rw[he]
  cases c<;>cases d<;>first | (cases hc; done) | rfl
 unfold q1Y
 rw[hu]
 simp only[h5,List.length_singleton,hs,if_true]
 rw[List.flatten_replicate_singleton]

theorem q8U {kt e:TypeId} {n:Nat} {d:TypeDesc} {c:CK} (hu:P.underlying kt=some (.array n e)) (he:P.underlying e=some d) (hc:c.fits d=true) (hs:q0n P e=1) (em:Bool) (m:Nat) (vs:Array Value) (hv:vs.size=n) (w:World) :
  (Instr.checkKey em (m+2) kt (.agg vs)).run P w = .ok () w:=by
 obtain ⟨i,hi⟩:=info_of_underlying he
 have hg:q0v P e=false:=by
  cases c<;>cases d<;>first | (cases hc; done) | simp [q0v,he]
 have hus:(P.underlying e).isSome=true:=by rw[he]; rfl
 have hi1:i.size=1:=by simpa [q0n,hi] using hs
 rw[show m+2=(m+1)+1 from rfl,Instr.checkKey]
 simp only[Sem.run_bind,run_underlying hu,Result.andThen_ok]
 simp only[Std.Legacy.Range.forIn_eq_forIn_range',Std.Legacy.Range.size,Nat.sub_zero,Nat.add_one_sub_one,Nat.div_one]
 have each : ∀ j,j∈List.range' 0 n→j<vs.size:=fun j hj=>by
  have:=List.mem_range'_1.1 hj
  omega
 generalize List.range' 0 n=is at each
 induction is with
 | nil=>simp
 | cons j is ih=>
  have hj:=each j (by simp)
  obtain ⟨X,pX,_⟩:=q4r (P:=P) hus w vs (j * i.size) (fun _=>hs) (by rw[hs,hi1]; omega)
  simp only[List.forIn_cons,Sem.run_bind,Go.sizeOf,typeInfo,run_program,hi,Sem.run_pure,Result.andThen_ok,pX,q4K hc he]
  exact ih fun y hy=>each y (by simp [hy])

theorem qgF {sh:List CK} {cs:List AV} (h:q5e sh (.agg cs)=true):q3p sh cs cs=some true:=by
 unfold q5e at h
 simp only at h
 split at h
 ·rename_i b hb
  rw[hb,h]
 ·cases h

theorem q6t {kt:TypeId} {sh:List CK} (hsh:q1Y P 6 kt=some sh) (hag:q0v P kt=true) {ks:List AV} {vs:Array Value} (hk:VRels fid M H φ ks vs.toList) : ∀ (es:List (AV × AV)) (ces:List MapEntry) (i:Nat) (r:Option (Nat × AV)),es.length=ces.length →
  (∀ (j:Nat) (x y:AV),es[j]?=some (x,y)→∃ e,ces[j]?=some e∧VRel fid M H φ x e.key∧VRel fid M H φ y e.val)→findKey (.many sh) (.agg ks) es i=some r→∃ r',(Instr.findAsking kt (.agg vs) ces i).run P w = .ok r' w∧q7W fid M H φ r r'
 | [],ces,i,r,hl,_,h=>by
  cases ces with
  | nil=>cases h; exact ⟨none,rfl,trivial⟩
  | cons _ _=>simp at hl
 | (x,y)::es,ces,i,r,hl,he,h=>by
  cases ces with
  | nil=>simp at hl
  | cons e ces=>
   obtain ⟨e',h1,h2,h3⟩:=he 0 x y rfl
   simp only[KZ,Kq] at h1
   subst h1
   have run : ∀ b,q44 (.many sh) (.agg ks) x=some b→(Op.equal kt (.agg vs) e.key).run P w = .ok b w:=by
    intro b hb
    cases x with
    | agg ys=>
     simp only[q44] at hb
     obtain ⟨us,hu,hus⟩:=h2.aggs
     rw[hu]
     have hq:=q3D hk hus hb
     have:=qds (P:=P) 9994 6 kt sh w (.agg vs) (.agg us) vs.toList us.toList b hsh ⟨fun _=>by simp,fun h=>by (rw[hag] at h; cases h)⟩ ⟨fun _=>by simp,fun h=>by (rw[hag] at h; cases h)⟩ hq
     exact this
    | _=>simp [q44] at hb
   simp only[findKey] at h
   split at h
   ·cases h
   ·rename_i hb
    cases h
    refine ⟨some (i,e.val),?_,rfl,h3⟩
    simp only[Instr.findAsking,Sem.run_bind,run _ hb,Result.andThen_ok,if_true,Sem.run_pure]
   ·rename_i hb
    obtain ⟨r',k1,k2⟩:=q6t hsh hag hk es ces (i+1) r (by simpa using hl) (fun j x y hj=>by have:=he (j+1) x y (by simpa using hj); simpa using this) h
    refine ⟨r',?_,k2⟩
    simp only[Instr.findAsking,Sem.run_bind,run _ hb,Result.andThen_ok,Km,if_false]
    exact k1

theorem q9A {kt e:TypeId} {n:Nat} {d:TypeDesc} {c:CK} (hu:P.underlying kt=some (.array n e)) (he:P.underlying e=some d) (hc:c.fits d=true) (hs:q0n P e=1) {K:Value} {k:AV} (hk:VRel fid M H φ k K) (hf:q5e (List.replicate n c) k=true) (es:List (AV × AV)) (ces:List MapEntry) (k':AV) (r:Option (Nat × AV))
  (hk':VRel fid M H φ k' K) (hl:es.length=ces.length) (hes : ∀ (j:Nat) (x y:AV),es[j]?=some (x,y)→∃ e,ces[j]?=some e∧VRel fid M H φ x e.key∧VRel fid M H φ y e.val) (h:findKey (.many (List.replicate n c)) k' es 0=some r) :
  ∃ r',(Instr.findKey kt K ces).run P w = .ok r' w∧q7W fid M H φ r r':=by
 cases k with
 | agg ks=>
  obtain ⟨vs,rfl,hvs⟩:=hk.aggs
  have hag:q0v P kt=true:=by simp [q0v,hu]
  cases ces with
  | nil=>
   have:es=[]:=KE hl
   subst this
   cases h
   refine ⟨none,?_,trivial⟩
   unfold Instr.findKey
   simp only[Sem.run_bind,run_underlying hu,Result.andThen_ok,Instr.findNow]
   rfl
  | cons ce ces=>
   cases k' with
   | agg ks'=>
    obtain ⟨vs',e1,hvs'⟩:=hk'.aggs
    cases e1
    obtain ⟨r',k1,k2⟩:=q6t (w:=w) (qjl hu he hc hs) hag hvs' es (ce::ces) 0 r hl hes h
    refine ⟨r',?_,k2⟩
    unfold Instr.findKey
    simp only[Sem.run_bind,run_underlying hu,Result.andThen_ok,Instr.findNow,Instr.sameNow]
    exact k1
   | _=>
    cases es with
    | nil=>simp at hl
    | cons x es=>simp [findKey,q44] at h
 | _=>simp [q5e] at hf

theorem q6s : ∀ {cs:List CK} {X Y:List Value},q0E cs X Y=some true→X.length=Y.length∧((Y.zip X).all fun p=>Instr.sameBits 9999 p.1 p.2)=true
 | [],[],[],_=>⟨rfl,rfl⟩
 | c::cs,x::X,y::Y,h=>by
  unfold q0E at h
  cases h1:q3E c x y with
  | none=>simp [h1] at h
  | some a=>
   cases h2:q0E cs X Y with
   | none=>simp [h1,h2] at h
   | some b=>
    simp only[h1,h2,Kq,Kk] at h
    obtain ⟨rfl,rfl⟩:=h
    obtain ⟨h3,h4⟩:=q6s h2
    refine ⟨by simp [h3],?_⟩
    rw[List.zip_cons_cons,Vy,h4,qa6 h1]
    rfl
 | [],x::xs,_,h=>by simp [q0E] at h
 | [],[],y::ys,h=>by simp [q0E] at h
 | c::cs,[],_,h=>by simp [q0E] at h
 | c::cs,x::xs,[],h=>by simp [q0E] at h

theorem qdJ {sh:List CK} {K Y:Value} {k y:AV} (hk:VRel fid M H φ k K) (hy:VRel fid M H φ y Y) (h:q44 (.many sh) k y=some true):Instr.sameBits 10000 Y K=true:=by
 cases k with
 | agg ks=>
  cases y with
  | agg ys=>
   obtain ⟨vs,rfl,hvs⟩:=hk.aggs
   obtain ⟨us,rfl,hus⟩:=hy.aggs
   simp only[q44] at h
   obtain ⟨h1,h2⟩:=q6s (q3D hvs hus h)
   rw[show (10000:Nat)=9999+1 from rfl]
   unfold Instr.sameBits
   rw[Kk]
   refine ⟨by simpa using h1.symm,?_⟩
   exact h2
  | _=>simp [q44] at h
 | _=>simp [q44] at h

theorem qkp {t kt e:TypeId} {sh:List CK} {zero:AV} {ok:Bool} {X K:Value} (hH:HRel fid M H φ B w) (ht:P.underlying t=some (.map kt e)) (hk:qaV P kt=some sh) (hz:q2z P e=some zero) (hzo:qa5 P e=true)
  (h:VRels fid M H φ as [X,K]) (hv:q7d sh zero ok H as=some v) : ∃ r,(Instr.lookup t X K ok).run P w = .ok r w∧VRel fid M H φ v r:=by
 obtain ⟨n,e0,d,c,hu,he,hc,hs,rfl⟩:=q9L hk
 unfold q7d at hv
 split at hv
 ·rename_i m k
  split at hv
  ·rename_i hf
   have hkr:=h.tail.head
   refine qkO hH ht (fun es ces k' r h1 h2 h3 h4=>q9A hu he hc hs hkr hf es ces k' r h1 h2 h3 h4) (fun em=>?_) hz hzo h hv
   cases k with
   | agg ks=>
    obtain ⟨vs,rfl,hvs⟩:=hkr.aggs
    have hl:=(q1T (q3D hvs hvs (qgF hf))).1
    exact q8U hu he hc hs em 9998 vs (by simpa using hl) w
   | _=>simp [q5e] at hf
  ·cases hv
 ·cases hv

theorem qdD {t kt e:TypeId} {sh:List CK} {X K U:Value} {H':Heap} (hH:HRel fid M H φ B w) (ht:P.underlying t=some (.map kt e)) (hk:qaV P kt=some sh) (h:VRels fid M H φ as [X,K,U]) (hv:q9f sh H as=some (v,H')) :
  v = .tup []∧∃ w',(Instr.mapUpdate t X K U).run P w = .ok () w'∧HRel fid M H' φ B w'∧HLe H.length H H' φ φ∧RowKit.Below B w w':=by
 obtain ⟨n,e0,d,c,hu,he,hc,hs,rfl⟩:=q9L hk
 unfold q9f at hv
 split at hv
 ·rename_i m k u
  split at hv
  ·rename_i hf
   have hkr:=h.tail.head
   refine qkt hH ht (fun es ces k' r h1 h2 h3 h4=>q9A hu he hc hs hkr hf es ces k' r h1 h2 h3 h4) (fun em=>?_) (fun k' y Y h1 h2 h3=>qdJ h1 h2 h3) h hv
   cases k with
   | agg ks=>
    obtain ⟨vs,rfl,hvs⟩:=hkr.aggs
    have hl:=(q1T (q3D hvs hvs (qgF hf))).1
    exact q8U hu he hc hs em 9998 vs (by simpa using hl) w
   | _=>simp [q5e] at hf
  ·cases hv
 ·cases hv
end
end Ago
namespace Ago
open Go
variable {uT:Unit} [TabC uT]

def qrb (n:Next) (r:Value):Prop:=n = .value r∨(n = .skip∧r=Go.undef)

section
variable {P:Program} {fid:FuncId→Option Nat} {pf:Nat→Bool} {M:Mem} {H H':Heap} {φ φ':Nat→Loc} {B:Nat} {w w':World} {as:List AV} {v:AV}

def qtr (P:Program) (fid:FuncId→Option Nat) (M:Mem) (H:Heap) (φ:Nat→Loc) (B:Nat) (w:World) (m:Sem Next) (v:AV) (b:Blk) (id:Nat):Prop:=
 ∀ H',Placed H id b H'→∃ n r w' φ',m.run P w = .ok n w'∧qrb n r∧HRel fid M H' φ' B w'∧HLe H.length H H' φ φ'∧VRel fid M H' φ' v r∧RowKit.Below B w w'

def qwN (P:Program) (fid:FuncId→Option Nat) (M:Mem) (H:Heap) (φ:Nat→Loc) (B:Nat) (w:World) (m:Sem Next) (v:AV) (H':Heap):Prop:=
 ∃ n r w' φ',m.run P w = .ok n w'∧qrb n r∧HRel fid M H' φ' B w'∧HLe H.length H H' φ φ'∧VRel fid M H' φ' v r∧RowKit.Below B w w'

theorem MadeOk.toN {s:Sem Value} {m:Sem Next} {b:Blk} {id:Nat} (h:MadeOk P fid M H φ B w s v b id) (hm:m.run P w=(s.run P w).andThen fun r w'=>.ok (.value r) w'):qtr P fid M H φ B w m v b id:=by
 intro H' p
 obtain ⟨r,w',φ',h1,h2⟩:=h H' p
 exact ⟨.value r,r,w',φ',by rw[hm,h1]; rfl,.inl rfl,h2⟩

theorem EffOk.toN {s:Sem Value} {m:Sem Next} (h:EffOk P fid M H φ B w s v H') (hm:m.run P w=(s.run P w).andThen fun r w'=>.ok (.value r) w'):qwN P fid M H φ B w m v H':=by
 obtain ⟨r,w',φ',h1,h2⟩:=h
 exact ⟨.value r,r,w',φ',by rw[hm,h1]; rfl,.inl rfl,h2⟩

def qm7 (P:Program) (fid:FuncId→Option Nat) (M:Mem) (H:Heap) (φ:Nat→Loc) (B:Nat) (w:World) (m:Sem Next) (vals:List AV):AOp→Prop
 | .pure p=>∀ v,p.exec vals=some v→∃ r,m.run P w = .ok (.value r) w∧VRel fid M H φ v r
 | .read p=>∀ v,p.exec vals H=some v→∃ r,m.run P w = .ok (.value r) w∧VRel fid M H φ v r
 | .new p=>∀ id v b,p.exec vals id=some (v,b)→qtr P fid M H φ B w m v b id
 | .newAt _ _=>True
 | .bad=>True
 | .eff p=>∀ v H',p.exec vals H=some (v,H')→qwN P fid M H φ B w m v H'
 | .call f=>∃ g us,m.run P w = .ok (.enter g us) w∧fid g=some f∧VRels fid M H φ vals us.toList
 | .pcall f=>∃ g us,m.run P w = .ok (.enter g us) w∧fid g=some f∧VRels fid M H φ vals us.toList
 | .callv=>∀ f cap args,vals = .fn f cap::args→∃ g us,m.run P w = .ok (.enter g us) w∧fid g=some f∧VRels fid M H φ (args++cap) us.toList

theorem q2S {s:Sem Value} {r:Value} {m:Sem Next} (hm:m=(do pure (.value (← s)):Sem Next)) (h:s.run P w = .ok r w):m.run P w = .ok (.value r) w:=by
 rw[hm]
 simp only[Sem.run_bind,h,Result.andThen_ok,Sem.run_pure]

theorem q5V {s:Sem Value} {m:Sem Next} (hm:m=(do pure (.value (← s)):Sem Next)):m.run P w=(s.run P w).andThen fun r w'=>.ok (.value r) w':=by
 rw[hm]
 simp only[Sem.run_bind,Sem.run_pure]

theorem qe9 {t:TypeId} {z:AV} (h:q2z P t=some z):z.cells.all AV.one=true∧z.cells.length=q0n P t∧z.isPure=true∧zeroCells P t=some z.cells:=by
 obtain ⟨i,zv,_,_,_,h1,h2,h3⟩:=q6Z (fid:=fun _=>none) (M:=fun _ _=>none) (H:=[]) (φ:=fun _=>⟨0,0,0⟩) h
 refine ⟨h2,h1,h3,?_⟩
 unfold q2z at h
 cases hc:zeroCells P t with
 | none=>simp [hc] at h
 | some cs=>
  simp only[hc,VK] at h
  obtain ⟨zv,_,_,h4,_,h5⟩:=q3M (fid:=fun _=>none) (M:=fun _ _=>none) (H:=[]) (φ:=fun _=>⟨0,0,0⟩) hc
  rw[(qbl h h4 h5).1]

theorem qe7 {t:TypeId} {neg:Bool} {p:POp} (h:quN P t neg=some p) (w:World) {x y:Operand} {X Y:Value} (hv:VRels fid M H φ as [X,Y]) {v:AV} (he:p.exec as=some v) :
  ∃ r,(do eqGuard (if neg then .neq else .eql) t x y X Y; binOp (if neg then .neq else .eql) t X Y:Sem Value).run P w = .ok r w∧VRel fid M H φ v r:=by
 unfold quN at h
 split at h
 ·rename_i hT
  cases h
  exact qvD w hT hv he
 ·cases h
  have:=qqw (P:=P) w (op:=if neg then .neq else .eql) (T:=t) (x:=x) (y:=y) hv (v:=v) (by cases neg<;>exact he)
  exact this
 ·cases h
  have:=qqw (P:=P) w (op:=if neg then .neq else .eql) (T:=t) (x:=x) (y:=y) hv (v:=v) (by cases neg<;>exact he)
  exact this
 ·rename_i fs hT
  split at h
  ·cases h
  ·rename_i hg
   simp only[Kg] at h
   obtain ⟨sh,hsh,rfl⟩:=h
   exact qtK w hsh (by simp [q0v,hT]) (by simpa using hg) hv he
 ·rename_i n e hT
  split at h
  ·cases h
  ·rename_i hg
   simp only[Kg] at h
   obtain ⟨sh,hsh,rfl⟩:=h
   exact qtK w hsh (by simp [q0v,hT]) (by simpa using hg) hv he
 ·rename_i e hT
  cases h
  exact qnw w (.inl ⟨rfl,e,hT⟩) hv he
 ·rename_i k e hT
  cases h
  exact qnw w (.inr (.inl ⟨rfl,k,e,hT⟩)) hv he
 ·rename_i a b c hT
  cases h
  exact qnw w (.inr (.inr (.inl ⟨rfl,a,b,c,hT⟩))) hv he
 ·rename_i ms hT
  cases h
  exact qnw w (.inr (.inr (.inr ⟨rfl,ms,hT⟩))) hv he
 ·cases h

theorem qdR {g:FuncId} {f:Nat} (hF:qb4 P fid) (hg:fid g=some f) (us:Array Value):(callFunc g us).run P w = .ok (.enter g us) w:=by
 obtain ⟨fn,h1,h2,h3⟩:=hF g f hg
 have h4:fn.body.isNone=false:=by cases hb:fn.body<;>simp [hb] at h2 ⊢
 simp only[callFunc,Sem.run_bind,run_program,Result.andThen_ok,h1,h3,h4,Km,if_false,Sem.run_pure]

theorem quj (a:Act) (x:Operand):(#[x]:Array Operand).map a.eval = #[a.eval x]:=by simp
theorem qwg (a:Act) (x y:Operand):(#[x,y]:Array Operand).map a.eval = #[a.eval x,a.eval y]:=by simp

theorem qfE {s:St} {a:Act} {b:Builtin} {argTypes:Array TypeId} {cargs:Array Operand} {type:TypeId} {op:AOp} {args:List Opd} (R:Rel fid M φ B s a w) (hsz:argTypes.size=cargs.size) (h:q5g P fid b (argTypes.toList.zip cargs.toList)=some (op,args)) :
  qm7 P fid M s.heap φ B w (builtin b argTypes type (cargs.map fun | .const _=>true | _=>false) (cargs.map a.eval)) (args.map s.eval) op:=by
 have ev:=fun (l:List (TypeId × Operand)) (ds:List Opd) (hd:q7o P fid l=some ds)=>q7K (P:=P) R.tm hd
 have hzl:(argTypes.toList.zip cargs.toList).length=argTypes.size:=by simp; omega
 have h1 : ∀ t x,argTypes.toList.zip cargs.toList=[(t,x)]→argTypes = #[t]∧cargs = #[x]:=by
  intro t x he
  have e1:=congrArg (List.map Prod.fst) he
  have e2:=congrArg (List.map Prod.snd) he
  rw[List.map_fst_zip (by simp; omega)] at e1
  rw[List.map_snd_zip (by simp; omega)] at e2
  exact ⟨Array.toList_inj.1 (by simpa using e1),Array.toList_inj.1 (by simpa using e2)⟩
 have h2 : ∀ t x u y,argTypes.toList.zip cargs.toList=[(t,x),(u,y)]→argTypes = #[t,u]∧cargs = #[x,y]:=by
  intro t x u y he
  have e1:=congrArg (List.map Prod.fst) he
  have e2:=congrArg (List.map Prod.snd) he
  rw[List.map_fst_zip (by simp; omega)] at e1
  rw[List.map_snd_zip (by simp; omega)] at e2
  exact ⟨Array.toList_inj.1 (by simpa using e1),Array.toList_inj.1 (by simpa using e2)⟩
 unfold q5g at h
 split at h
 ·-- len
  rename_i t x he
  obtain ⟨rfl,rfl⟩:=h1 t x he
  split at h
  ·rename_i hu
   obtain ⟨rfl,hd⟩:=q09 h
   intro v hv
   obtain ⟨r,hr,hrel⟩:=quu (P:=P) w (ty:=type) hu (ev _ _ hd) hv
   exact ⟨r,q2S (s:=Builtin.len_ #[t] type #[a.eval x]) (by rw[quj a x]; rfl) hr,hrel⟩
  ·rename_i e hu
   obtain ⟨rfl,hd⟩:=q09 h
   intro v hv
   obtain ⟨r,hr,hrel⟩:=qtF (P:=P) w (ty:=type) hu (ev _ _ hd) hv
   exact ⟨r,q2S (s:=Builtin.len_ #[t] type #[a.eval x]) (by rw[quj a x]; rfl) hr,hrel⟩
  ·rename_i kt e hu
   obtain ⟨rfl,hd⟩:=q09 h
   intro v hv
   obtain ⟨r,hr,hrel⟩:=qmE (P:=P) (ty:=type) R.hp hu (ev _ _ hd) hv
   exact ⟨r,q2S (s:=Builtin.len_ #[t] type #[a.eval x]) (by rw[quj a x]; rfl) hr,hrel⟩
  ·rename_i n e hu
   obtain ⟨rfl,hd⟩:=q09 h
   intro v hv
   have hr:=quf (P:=P) w (ty:=type) (X:=a.eval x) hu
   cases hv
   exact ⟨_,q2S (s:=Builtin.len_ #[t] type #[a.eval x]) (by rw[quj a x]; rfl) hr,.int .i64 n⟩
  ·cases h
 ·-- append
  rename_i t x u y he
  obtain ⟨rfl,rfl⟩:=h2 t x u y he
  split at h
  ·rename_i e e' ht hu
   split at h
   ·cases h
   ·rename_i hc
    simp only[not_or,Option.isNone_iff_eq_none] at hc
    obtain ⟨hn,hz⟩:=hc
    obtain ⟨z,hz⟩:=Option.ne_none_iff_exists'.1 hz
    obtain ⟨rfl,hd⟩:=q09 h
    intro v H' hv
    exact (qma (ty:=type) R.hp R.sz ht hu hn hz (ev _ _ hd) hv).toN (q5V (s:=Builtin.append_ #[t,u] type #[a.eval x,a.eval y]) (by rw[qwg a x y]; rfl))
  ·rename_i e ht hu
   split at h
   ·rename_i hk
    split at h
    ·rename_i hc
     obtain ⟨h3,h4,h5⟩:=hc
     obtain ⟨z,hz⟩:=K3.1 h5
     obtain ⟨rfl,hd⟩:=q09 h
     intro v H' hv
     exact (qg7 (ty:=type) R.hp R.sz ht hu h3 h4 hz (ev _ _ hd) hv).toN (q5V (s:=Builtin.append_ #[t,u] type #[a.eval x,a.eval y]) (by rw[qwg a x y]; rfl))
    ·cases h
   ·cases h
  ·cases h
 ·-- copy
  rename_i t x u y he
  obtain ⟨rfl,rfl⟩:=h2 t x u y he
  split at h
  ·rename_i e e' ht hu
   split at h
   ·cases h
   ·rename_i hn
    obtain ⟨rfl,hd⟩:=q09 h
    intro v H' hv
    exact (qtm (ty:=type) R.hp ht hn (ev _ _ hd) hv).toN (q5V (s:=Builtin.copy_ #[t,u] type #[a.eval x,a.eval y]) (by rw[qwg a x y]; rfl))
  ·cases h
 ·split at h<;>cases h
 ·-- clear
  rename_i t x he
  obtain ⟨rfl,rfl⟩:=h1 t x he
  split at h
  ·rename_i e ht
   split at h
   ·rename_i z hz
    split at h
    ·cases h
    ·obtain ⟨rfl,hd⟩:=q09 h
     intro v H' hv
     obtain ⟨i,zv,k1,k2,k3,_,k4,_⟩:=q6Z (fid:=fid) (M:=M) (H:=s.heap) (φ:=φ) hz
     exact (qo7 (ty:=type) R.hp ht (fun w=>by simp [zeroValue,typeInfo,k1,k2]) k3 k4 (ev _ _ hd) hv).toN (q5V (s:=Builtin.clear_ #[t] type #[a.eval x]) (by rw[quj a x]; rfl))
   ·cases h
  ·cases h
 ·-- max
  obtain ⟨rfl,hd⟩:=q09 h
  intro v hv
  have hrel:=ev _ _ hd
  have hsnd:(argTypes.toList.zip cargs.toList).map (fun p=>a.eval p.2)=(cargs.map a.eval).toList:=by
   rw[show (fun (p:TypeId × Operand)=>a.eval p.2)=a.eval ∘ Prod.snd from rfl,←Vn,List.map_snd_zip (by simp; omega)]
   simp
  rw[hsnd] at hrel
  simp only[POp.exec] at hv
  unfold xMM at hv
  split at hv
  ·rename_i x rest hargs
   rw[hargs] at hrel
   cases hl:(cargs.map a.eval).toList with
   | nil=>rw[hl] at hrel; have:=hrel.1; simp at this
   | cons X Xs=>
    rw[hl] at hrel
    obtain ⟨r,hr,hrr⟩:=qvP (P:=P) w (m:=true) hrel.head hrel.tail hv
    refine ⟨r,q2S (s:=Builtin.max_ argTypes type (cargs.map a.eval)) rfl ?_,hrr⟩
    simp only[Builtin.max_,hl]
    exact hr
  ·cases hv
 ·-- min
  obtain ⟨rfl,hd⟩:=q09 h
  intro v hv
  have hrel:=ev _ _ hd
  have hsnd:(argTypes.toList.zip cargs.toList).map (fun p=>a.eval p.2)=(cargs.map a.eval).toList:=by
   rw[show (fun (p:TypeId × Operand)=>a.eval p.2)=a.eval ∘ Prod.snd from rfl,←Vn,List.map_snd_zip (by simp; omega)]
   simp
  rw[hsnd] at hrel
  simp only[POp.exec] at hv
  unfold xMM at hv
  split at hv
  ·rename_i x rest hargs
   rw[hargs] at hrel
   cases hl:(cargs.map a.eval).toList with
   | nil=>rw[hl] at hrel; have:=hrel.1; simp at this
   | cons X Xs=>
    rw[hl] at hrel
    obtain ⟨r,hr,hrr⟩:=qvP (P:=P) w (m:=false) hrel.head hrel.tail hv
    refine ⟨r,q2S (s:=Builtin.min_ argTypes type (cargs.map a.eval)) rfl ?_,hrr⟩
    simp only[Builtin.min_,hl]
    exact hr
  ·cases hv
 ·cases h
end
end Ago
namespace Ago
open Go
variable {uT:Unit} [TabC uT]

section
variable {P:Program} {fid:FuncId→Option Nat} {pf:Nat→Bool} {M:Mem} {H H':Heap} {φ φ':Nat→Loc} {B:Nat} {w w':World} {as:List AV} {v:AV}

theorem qbm {m:Sem Next} {r:Value} {vals:List AV} {p:POp} (hm:m=pure (.value r)) (h : ∀ v,p.exec vals=some v→VRel fid M H φ v r):qm7 P fid M H φ B w m vals (.pure p):=fun v hv=>⟨r,by rw[hm]; rfl,h v hv⟩

theorem qhm {s:St} {a:Act} (ht:VRels fid M s.heap φ s.tmps a.tmps.toList) {t:TypeId} {x:Operand} {l:List Operand} {args:List Opd} (hd:q7o P fid ((t,x)::l.map fun y=>(t,y))=some args):VRels fid M s.heap φ (args.map s.eval) (a.eval x::l.map a.eval):=by
 have:=q7K ht hd
 simpa [Vn,VY] using this

theorem qlk (o:Option Operand) (f:Operand→Value):(o.map f).toList=o.toList.map f:=by cases o<;>rfl

theorem qag (parts:Array (Nat × Operand)) (f:Operand→Value):(parts.map fun (i,x)=>(i,f x)).toList.map (·.2)=parts.toList.map fun p=>f p.2:=by
 simp [Vn,VY]

theorem qk2 (parts:Array (Nat × Operand)) (f:Operand→Value):(parts.map fun (i,x)=>(i,f x)).toList.map (·.1)=parts.toList.map (·.1):=by
 simp [Vn,VY]

theorem q7T {s:St} {a:Act} {o:Oper} {op:AOp} {args:List Opd} (hF:qb4 P fid) (R:Rel fid M φ B s a w) (h:q59 P fid pf o=some (op,args)):qm7 P fid M s.heap φ B w (execOp a.eval o) (args.map s.eval) op:=by
 have ev:=fun (l:List (TypeId × Operand)) (ds:List Opd) (hd:q7o P fid l=some ds)=>q7K (P:=P) R.tm hd
 unfold q59 at h
 split at h
 ·-- move
  rename_i x ho
  obtain ⟨rfl,hd⟩:=q09 h
  exact qbm (r:=a.eval x) (by simp only[execOp,ho]) fun v hv=>qoB (ev _ _ hd) hv
 ·-- assign
  rename_i x ho
  obtain ⟨rfl,hd⟩:=q09 h
  exact qbm (r:=a.eval x) (by simp only[execOp,ho]) fun v hv=>qoB (ev _ _ hd) hv
 ·-- pick
  rename_i c x y ho
  obtain ⟨rfl,hd⟩:=q09 h
  intro v hv
  obtain ⟨b,hb,hrel⟩:=qtP (ev _ _ hd) hv
  refine ⟨if b then a.eval x else a.eval y,?_,hrel⟩
  simp only[execOp,ho,hb,Sem.run_bind,asBool,Sem.run_pure,Result.andThen_ok]
 ·-- alloc
  rename_i t ho
  split at h
  ·rename_i q hq
   obtain ⟨rfl,hd⟩:=q09 h
   cases hd
   intro id v b hv
   refine MadeOk.toN (qut (as:=[]) (t:=t) R.hp R.sz hq hv) (q5V ?_)
   simp only[execOp,ho]
  split at h
  ·rename_i cs hcs
   split at h
   ·cases h
   ·rename_i hn
    have hnpos:0<qlR P t:=V6 hn
    obtain ⟨_,_,_,hc1,hcl,hcp⟩:=q3M (fid:=fid) (M:=M) (H:=s.heap) (φ:=φ) hcs
    split at h
    ·rename_i n e hu
     split at h
     ·rename_i hc
      obtain ⟨rfl,hd⟩:=q09 h
      cases hd
      intro id v b hv
      obtain ⟨h1,h2⟩:=q6f hnpos n cs hc.1 hc1
      refine MadeOk.toN (qsA (as:=[]) (o:=o) (ρ:=a.eval) ho R.hp R.sz hnpos hcs h1 h2 (q6c n cs hcp) hv) (q5V ?_)
      simp only[execOp,ho]
     ·cases h
    ·rename_i hnot
     split at h
     ·rename_i z hz
      obtain ⟨rfl,hd⟩:=q09 h
      cases hd
      intro id v b hv
      obtain ⟨h1,h2,h3,h4⟩:=qe9 hz
      rw[hcs] at h4
      have hwn:qlR P t=q0n P t:=by
       unfold qlR
       split
       ·rename_i hu
        exact (hnot _ _ hu).elim
       ·rfl
      refine MadeOk.toN (qsA (as:=[]) (o:=o) (ρ:=a.eval) ho R.hp R.sz hnpos hcs (els:=[z]) (by simp only[Ago.flat,Kj]; exact (K7 h4).symm) (fun y hy=>?_) (fun y hy=>?_) hv) (q5V ?_)
      ·simp only[Kx] at hy; subst hy; exact ⟨by rw[hwn]; exact h2,h1⟩
      ·simp only[Kx] at hy; subst hy; exact h3
      ·simp only[execOp,ho]
     ·cases h
  ·cases h
 ·-- box
  rename_i t x ho
  split at h
  ·cases h
  ·rename_i hc
   obtain ⟨rfl,hd⟩:=q09 h
   intro id v b hv
   simp only[not_or] at hc
   refine MadeOk.toN (qvU (t:=t) (X:=a.eval x) R.hp R.sz (V6 hc.1) (ev _ _ hd) hv) (q5V ?_)
   simp only[execOp,ho]
 ·-- build
  rename_i t parts ho
  split at h
  ·rename_i z fs hz hu
   split at h
   ·rename_i pl hpl
    split at h
    ·cases h
    ·rename_i hall
     obtain ⟨rfl,hd⟩:=q09 h
     intro v hv
     have hrel:=ev _ _ hd
     have hplen:=q13 hpl
     obtain ⟨r,hr,hrr⟩:=qdb (P:=P) w (parts:=parts.map fun (i,x)=>(i,a.eval x)) hz hu (by cases hb:fs.toList.all (fun f=>(P.info? f.type).isSome)<;>simp [hb] at hall ⊢) ⟨by simpa using hplen,fun i p q h1 h2=>by
      simp only[Array.toList_map,KH,Kg] at h1
      obtain ⟨p0,h3,rfl⟩:=h1
      exact q4G (f:=fun (p:Nat × Operand)=>(fs[p.1]?).map fun f=>(f.offset,q0n P f.type)) hpl h3 h2⟩ (by
       rw[qag]
       simpa [Vn,VY] using hrel) hv
     exact ⟨r,q2S (by simp only[execOp,ho]) hr,hrr⟩
   ·cases h
  ·rename_i z n e hz hu
   split at h
   ·cases h
   ·rename_i he
    obtain ⟨rfl,hd⟩:=q09 h
    intro v hv
    have hrel:=ev _ _ hd
    obtain ⟨r,hr,hrr⟩:=qex (P:=P) w (parts:=parts.map fun (i,x)=>(i,a.eval x)) hz hu (by cases hi:P.info? e<;>simp [hi] at he ⊢) (by
      rw[qag]
      simpa [Vn,VY] using hrel) (by
      have hv':q9W z (parts.toList.map fun p=>(p.1 * q0n P e,q0n P e)) (args.map s.eval)=some v:=hv
      simpa [Vn,VY] using hv')
    exact ⟨r,q2S (by simp only[execOp,ho]) hr,hrr⟩
  ·cases h
 ·-- buildSlice
  rename_i t len parts ho
  split at h
  ·rename_i e hu
   split at h
   ·rename_i z hz
    split at h
    ·cases h
    ·rename_i hc
     simp only[not_or,Nat.not_lt] at hc
     obtain ⟨rfl,hd⟩:=q09 h
     intro id v b hv
     have hrel:=ev _ _ hd
     refine MadeOk.toN (qef (t:=t) (parts:=parts.map fun (i,x)=>(i,a.eval x)) R.hp R.sz hu hc.1 hc.2 hz (by
      rw[qag]
      simpa [Vn,VY] using hrel) (by rw[qk2]; exact hv)) (q5V ?_)
     simp only[execOp,ho]
   ·cases h
  ·cases h
 ·-- load
  rename_i t x ho
  split at h
  ·cases h
  ·rename_i hu
   obtain ⟨rfl,hd⟩:=q09 h
   intro v hv
   obtain ⟨r,hr,hrr⟩:=qoU (P:=P) R.hp (t:=t) (by cases hi:P.underlying t<;>simp [hi] at hu ⊢) (ev _ _ hd) hv
   exact ⟨r,q2S (by simp only[execOp,ho]) hr,hrr⟩
 ·-- store
  rename_i t x y ho
  split at h
  ·cases h
  ·rename_i hu
   obtain ⟨rfl,hd⟩:=q09 h
   intro v H' hv
   obtain ⟨r,w',φ',hrun,h2⟩:=qq7 (P:=P) R.hp (t:=t) (by cases hi:P.underlying t<;>simp [hi] at hu ⊢) (ev _ _ hd) hv
   simp only[Kd,Sem.run_bind] at hrun
   cases hs:(Instr.storeAt t (a.eval x) (a.eval y)).run P w with
   | halt q w2=>rw[hs] at hrun; cases hrun
   | ok u w2=>
    rw[hs] at hrun
    simp only[Result.andThen_ok,Sem.run_pure,Result.ok.injEq] at hrun
    obtain ⟨rfl,rfl⟩:=hrun
    refine ⟨.skip,Go.undef,w2,φ',?_,.inr ⟨rfl,rfl⟩,h2⟩
    simp only[execOp,ho,Sem.run_bind,hs,Result.andThen_ok,Sem.run_pure]
 ·-- nilCheck
  rename_i x ho
  obtain ⟨rfl,hd⟩:=q09 h
  intro v hv
  obtain ⟨h1,h2⟩:=qww (P:=P) w (x:=.dead) (ρ:=a.eval) ho rfl (ev _ _ hd) hv
  exact ⟨_,h1,h2⟩
 ·-- binOp
  rename_i bop t x y tag ho
  split at h
  ·simp only[VM] at h
   obtain ⟨p,hp,h⟩:=h
   obtain ⟨rfl,hd⟩:=q09 h
   intro v hv
   obtain ⟨r,hr,hrr⟩:=qe7 (P:=P) hp w (x:=x) (y:=y) (ev _ _ hd) hv
   exact ⟨r,q2S (s:=(do eqGuard .eql t x y (a.eval x) (a.eval y); binOp .eql t (a.eval x) (a.eval y):Sem Value)) (by simp only[execOp,ho]) hr,hrr⟩
  ·simp only[VM] at h
   obtain ⟨p,hp,h⟩:=h
   obtain ⟨rfl,hd⟩:=q09 h
   intro v hv
   obtain ⟨r,hr,hrr⟩:=qe7 (P:=P) hp w (x:=x) (y:=y) (ev _ _ hd) hv
   exact ⟨r,q2S (s:=(do eqGuard .neq t x y (a.eval x) (a.eval y); binOp .neq t (a.eval x) (a.eval y):Sem Value)) (by simp only[execOp,ho]) hr,hrr⟩
  ·obtain ⟨rfl,hd⟩:=q09 h
   intro v hv
   obtain ⟨r,hr,hrr⟩:=qqw (P:=P) w (op:=bop) (T:=t) (x:=x) (y:=y) (ev _ _ hd) hv
   exact ⟨r,q2S (by simp only[execOp,ho]) hr,hrr⟩
 ·-- unOp
  rename_i uop t x ho
  obtain ⟨rfl,hd⟩:=q09 h
  intro v hv
  obtain ⟨r,hr,hrr⟩:=qxc (P:=P) w (op:=uop) (ev _ _ hd) hv
  exact ⟨r,q2S (by simp only[execOp,ho]) hr,hrr⟩
 ·-- convert
  rename_i sT d x ho
  split at h
  ·rename_i k1 k2 hs hd0
   obtain ⟨rfl,hd⟩:=q09 h
   intro v hv
   obtain ⟨r,hr,hrr⟩:=qu8 (P:=P) w hs hd0 (ev _ _ hd) hv
   exact ⟨r,q2S (by simp only[execOp,ho]) hr,hrr⟩
  ·rename_i hs hd0
   obtain ⟨rfl,hd⟩:=q09 h
   intro v hv
   obtain ⟨r,hr,hrr⟩:=qjO (P:=P) w hs hd0 (ev _ _ hd) hv
   exact ⟨r,q2S (by simp only[execOp,ho]) hr,hrr⟩
  ·rename_i k hs hd0
   obtain ⟨rfl,hd⟩:=q09 h
   intro v hv
   obtain ⟨r,hr,hrr⟩:=qs6 (P:=P) w hs hd0 (ev _ _ hd) hv
   exact ⟨r,q2S (by simp only[execOp,ho]) hr,hrr⟩
  ·split at h<;>cases h
  ·rename_i e hs hd0
   split at h
   ·rename_i he
    split at h
    ·obtain ⟨rfl,hd⟩:=q09 h
     intro v hv
     obtain ⟨r,hr,hrr⟩:=qie (P:=P) R.hp hs he hd0 (ev _ _ hd) hv
     exact ⟨r,q2S (by simp only[execOp,ho]) hr,hrr⟩
    ·cases h
   ·cases h
  ·cases h
 ·-- makeInterface
  rename_i t x ho
  have fin : ∀ (d:TypeDesc),P.underlying t=some d→(∀ ms,d ≠ .interface ms)→q0j P fid (.pure (.mkifc t)) [(t,x)]=some (op,args)→qm7 P fid M s.heap φ B w (execOp a.eval o) (args.map s.eval) op:=by
   intro d hd0 hne h
   obtain ⟨rfl,hd⟩:=q09 h
   intro v hv
   have hrel:=ev _ _ hd
   have hr:(Instr.makeInterface t (a.eval x)).run P w = .ok (.iface t (a.eval x)) w:=by
    simp only[Instr.makeInterface,Sem.run_bind,run_underlying hd0,Result.andThen_ok]
    cases d<;>first | rfl | (exact (hne _ rfl).elim)
   refine ⟨_,q2S (by simp only[execOp,ho]) hr,?_⟩
   simp only[POp.exec] at hv
   unfold qwI at hv
   split at hv
   ·rename_i x0 hx0
    cases hv
    rw[hx0] at hrel
    exact .ifc t _ _ hrel.head
   ·cases hv
  split at h
  ·cases h
  ·cases h
  ·rename_i h1 h2
   cases hu:P.underlying t with
   | none=>exact (h2 hu).elim
   | some d=>exact fin d hu (fun ms he=>h1 ms (by rw[hu,he])) h
 ·-- makeFunc
  rename_i fn first captured ho
  split at h
  ·rename_i f hfirst
   split at h
   ·rename_i g hg
    obtain ⟨rfl,hd⟩:=q09 h
    intro v hv
    cases hv
    have hrel:=ev _ _ hd
    have hf0:first = #[]:=by simpa using hfirst
    subst hf0
    refine ⟨.func (.func f) #[] (captured.map a.eval),?_,?_⟩
    ·refine q2S (s:=Instr.makeFunc (.func f) ((#[]:Array Operand).map a.eval) (captured.map a.eval)) (by simp only[execOp,ho]) ?_
     simp [Instr.makeFunc]
    ·have hrel':VRels fid M s.heap φ (args.map s.eval) (captured.map a.eval).toList:=by simpa [Vn,VY] using hrel
     exact .fn g f _ _ hg (by have:=hrel'.1; simpa using this) (fun i x u hx hu=>hrel'.2 i x u hx (by simpa using hu))
   ·cases h
  ·cases h
 ·-- makeMap
  rename_i t r ho
  split at h
  ·rename_i kt e hu
   obtain ⟨rfl,hd⟩:=q09 h
   intro id v b hv
   have hrel:=ev _ _ hd
   refine MadeOk.toN (qq4 (t:=t) (o:=r.map a.eval) R.hp R.sz ⟨_,_,hu⟩ (by
    cases r with
    | none=>simpa using hrel
    | some x=>simpa using hrel) hv) (q5V ?_)
   simp only[execOp,ho]
  ·cases h
 ·-- makeSlice
  rename_i t l c ho
  split at h
  ·rename_i e hu
   split at h
   ·rename_i z hz
    split at h
    ·cases h
    ·rename_i hn
     obtain ⟨rfl,hd⟩:=q09 h
     intro id v b hv
     refine MadeOk.toN (qkL (t:=t) (L:=a.eval l) (C:=a.eval c) R.hp R.sz hu hn hz (ev _ _ hd) hv) (q5V ?_)
     simp only[execOp,ho]
   ·cases h
  ·cases h
 ·-- slice
  rename_i t x lo hi mx ho
  split at h
  ·rename_i hu
   split at h
   ·cases h
   ·rename_i hmx
    have hmx0:mx=none:=by cases mx<;>simp at hmx ⊢
    subst hmx0
    obtain ⟨rfl,hd⟩:=q09 h
    intro v hv
    have hrel:=qhm (P:=P) R.tm hd
    obtain ⟨r,hr,hrr⟩:=qmI (P:=P) w (lo:=lo.map a.eval) (hi:=hi.map a.eval) hu (by simpa [qlk] using hrel) (by
     have hv':qaF lo.isSome hi.isSome (args.map s.eval)=some v:=hv
     simpa using hv')
    exact ⟨r,q2S (by simp only[execOp,ho,Option.map_none]) hr,hrr⟩
  ·rename_i e hu
   split at h
   ·cases h
   ·rename_i hn
    obtain ⟨rfl,hd⟩:=q09 h
    intro v hv
    have hrel:=qhm (P:=P) R.tm hd
    obtain ⟨r,hr,hrr⟩:=qnu (P:=P) w (lo:=lo.map a.eval) (hi:=hi.map a.eval) (mx:=mx.map a.eval) hu hn (by simpa [qlk] using hrel) (by
     have hv':qaW (q0n P e) lo.isSome hi.isSome mx.isSome (args.map s.eval)=some v:=hv
     simpa using hv')
    exact ⟨r,q2S (by simp only[execOp,ho]) hr,hrr⟩
  ·cases h
  ·cases h
 ·-- fieldAddr
  rename_i t x f ho
  split at h
  ·rename_i fd hfd
   split at h
   ·cases h
   ·rename_i hz
    obtain ⟨rfl,hd⟩:=q09 h
    intro v hv
    obtain ⟨r,hr,hrr⟩:=qpQ (P:=P) w hfd hz (ev _ _ hd) hv
    exact ⟨r,q2S (by simp only[execOp,ho]) hr,hrr⟩
  ·cases h
 ·-- field
  rename_i t x f ho
  split at h
  ·rename_i fd hfd
   obtain ⟨rfl,hd⟩:=q09 h
   intro v hv
   obtain ⟨r,hr,hrr⟩:=qpV (P:=P) w hfd (ev _ _ hd) hv
   exact ⟨r,q2S (by simp only[execOp,ho]) hr,hrr⟩
  ·cases h
 ·-- indexAddr
  rename_i t x i ho
  split at h
  ·rename_i e hu
   split at h
   ·cases h
   ·rename_i hz
    obtain ⟨rfl,hd⟩:=q09 h
    intro v hv
    obtain ⟨r,hr,hrr⟩:=qna (P:=P) w hu hz (ev _ _ hd) hv
    exact ⟨r,q2S (by simp only[execOp,ho]) hr,hrr⟩
  ·rename_i n e hu
   split at h
   ·cases h
   ·rename_i hz
    obtain ⟨rfl,hd⟩:=q09 h
    intro v hv
    obtain ⟨r,hr,hrr⟩:=qn2 (P:=P) w hu hz (ev _ _ hd) hv
    exact ⟨r,q2S (by simp only[execOp,ho]) hr,hrr⟩
  ·cases h
 ·-- index
  rename_i t x i ho
  split at h
  ·rename_i hu
   obtain ⟨rfl,hd⟩:=q09 h
   intro v hv
   obtain ⟨r,hr,hrr⟩:=qnR (P:=P) w hu (ev _ _ hd) hv
   exact ⟨r,q2S (by simp only[execOp,ho]) hr,hrr⟩
  ·rename_i n e hu
   split at h
   ·rename_i hue
    obtain ⟨rfl,hd⟩:=q09 h
    intro v hv
    obtain ⟨r,hr,hrr⟩:=qmD (P:=P) w hu hue (ev _ _ hd) hv
    exact ⟨r,q2S (by simp only[execOp,ho]) hr,hrr⟩
   ·cases h
  ·cases h
 ·-- lookup
  rename_i t m k okb ho
  split at h
  ·rename_i kt e hu
   split at h
   ·rename_i z c hz hk
    split at h
    ·rename_i hzo
     obtain ⟨rfl,hd⟩:=q09 h
     obtain ⟨d,hd0,hc⟩:=q5c hk
     intro v hv
     obtain ⟨r,hr,hrr⟩:=qmV (P:=P) R.hp hu hd0 hc hz hzo (ev _ _ hd) hv
     exact ⟨r,q2S (by simp only[execOp,ho]) hr,hrr⟩
    ·cases h
   ·rename_i z hz _
    split at h
    ·rename_i sh hk
     split at h
     ·rename_i hzo
      obtain ⟨rfl,hd⟩:=q09 h
      intro v hv
      obtain ⟨r,hr,hrr⟩:=qkp (P:=P) R.hp hu hk hz hzo (ev _ _ hd) hv
      exact ⟨r,q2S (by simp only[execOp,ho]) hr,hrr⟩
     ·cases h
    ·cases h
   ·cases h
  ·cases h
 ·-- mapUpdate
  rename_i t m k x ho
  split at h
  ·rename_i kt e hu
   split at h
   ·rename_i c hk
    obtain ⟨rfl,hd⟩:=q09 h
    obtain ⟨d,hd0,hc⟩:=q5c hk
    intro v H' hv
    obtain ⟨rfl,w',hrun,h2,h3,h4⟩:=qgC (P:=P) R.hp hu hd0 hc (ev _ _ hd) hv
    refine ⟨.skip,Go.undef,w',φ,?_,.inr ⟨rfl,rfl⟩,h2,h3,VRel.ofTups VRels.nil,h4⟩
    simp only[execOp,ho,Sem.run_bind,hrun,Result.andThen_ok,Sem.run_pure]
   ·split at h
    ·rename_i sh hk
     obtain ⟨rfl,hd⟩:=q09 h
     intro v H' hv
     obtain ⟨rfl,w',hrun,h2,h3,h4⟩:=qdD (P:=P) R.hp hu hk (ev _ _ hd) hv
     refine ⟨.skip,Go.undef,w',φ,?_,.inr ⟨rfl,rfl⟩,h2,h3,VRel.ofTups VRels.nil,h4⟩
     simp only[execOp,ho,Sem.run_bind,hrun,Result.andThen_ok,Sem.run_pure]
    ·cases h
  ·cases h
 ·-- insert
  rename_i t m k x ho
  split at h
  ·rename_i kt e hu
   split at h
   ·rename_i c hk
    obtain ⟨rfl,hd⟩:=q09 h
    obtain ⟨d,hd0,hc⟩:=q5c hk
    intro v H' hv
    obtain ⟨rfl,w',hrun,h2,h3,h4⟩:=qgC (P:=P) R.hp hu hd0 hc (ev _ _ hd) hv
    refine ⟨.skip,Go.undef,w',φ,?_,.inr ⟨rfl,rfl⟩,h2,h3,VRel.ofTups VRels.nil,h4⟩
    simp only[execOp,ho,Sem.run_bind,hrun,Result.andThen_ok,Sem.run_pure]
   ·split at h
    ·rename_i sh hk
     obtain ⟨rfl,hd⟩:=q09 h
     intro v H' hv
     obtain ⟨rfl,w',hrun,h2,h3,h4⟩:=qdD (P:=P) R.hp hu hk (ev _ _ hd) hv
     refine ⟨.skip,Go.undef,w',φ,?_,.inr ⟨rfl,rfl⟩,h2,h3,VRel.ofTups VRels.nil,h4⟩
     simp only[execOp,ho,Sem.run_bind,hrun,Result.andThen_ok,Sem.run_pure]
    ·cases h
  ·cases h
 ·-- extract
  rename_i x i ho
  obtain ⟨rfl,hd⟩:=q09 h
  intro v hv
  obtain ⟨r,hr,hrr⟩:=qwr (P:=P) w (ev _ _ hd) hv
  exact ⟨r,q2S (by simp only[execOp,ho]) hr,hrr⟩
 ·-- panic
  obtain ⟨rfl,hd⟩:=q09 h
  intro v H' hv
  cases hv
 ·-- call
  rename_i c ho
  split at h
  ·rename_i f hcallee
   split at h
   ·rename_i g fn hg hfn
    split at h
    ·rename_i hc
     simp only[Kk,beq_iff_eq] at hc
     obtain ⟨hc1,hsz⟩:=hc
     obtain ⟨rfl,hd⟩:=q09 h
     have hrel:=ev _ _ hd
     have hsnd:(fn.params.toList.zip c.args.toList).map (fun p=>a.eval p.2)=(c.args.map a.eval).toList:=by
      rw[show (fun (p:TypeId × Operand)=>a.eval p.2)=a.eval ∘ Prod.snd from rfl,←Vn,List.map_snd_zip (by simp; omega)]
      simp
     rw[hsnd] at hrel
     have hrun:(execOp a.eval o).run P w = .ok (.enter f (c.args.map a.eval)) w:=by
      simp only[execOp,ho,resolve,hcallee,Act.eval,Deferred.ofValue,Sem.run_bind,Sem.run_pure,Result.andThen_ok,invoke]
      have:=qdR (P:=P) (w:=w) hF hg (c.args.map a.eval)
      simpa using this
     cases pf g
     ·exact ⟨f,_,hrun,hg,hrel⟩
     ·exact ⟨f,_,hrun,hg,hrel⟩
    ·cases h
   ·cases h
  ·rename_i x hx hcallee
   obtain ⟨rfl,hd⟩:=q09 h
   intro f cap rest hvals
   have hrel:=ev _ _ hd
   simp only[Kd,Vn,VY] at hrel
   rw[hvals] at hrel
   have hf:=hrel.head
   have hrest:=hrel.tail
   generalize hX:a.eval x=X at hf
   cases hf with
   | fn _ g _ us hg hl hcv=>
    refine ⟨g,c.args.map a.eval++us,?_,hg,?_⟩
    ·simp only[execOp,ho,resolve,hcallee,hX,Deferred.ofValue,Sem.run_bind,Sem.run_pure,Result.andThen_ok,invoke]
     have:=qdR (P:=P) (w:=w) hF hg (c.args.map a.eval++us)
     simpa using this
    ·rw[Array.toList_append]
     refine VRels.append (by simpa using hrest) ⟨by simpa using hl,fun i y u hy hu=>hcv i y u hy (by simpa using hu)⟩
  ·rename_i b hcallee
   split at h
   ·rename_i hsz
    have:=qfE (P:=P) (fid:=fid) (type:=o.type) R hsz h
    have hex:execOp a.eval o=builtin b c.argTypes o.type (c.args.map fun | .const _=>true | _=>false) (c.args.map a.eval):=by
     simp only[execOp,ho,resolve,hcallee]
     rfl
    rw[hex]
    exact this
   ·cases h
  ·cases h
 ·cases h
end
end Ago
namespace Ago
open Go
variable {uT:Unit} [TabC uT]

def Later (k:Nat) (H H':Heap) (φ φ':Nat→Loc):Prop:=∀ r b,r<k→H[r]?=some b→∃ b',H'[r]?=some b'∧b.le b'∧(b ≠ .resv→b' ≠ .resv∧φ' r=φ r)

theorem HLe.later {k:Nat} {H H':Heap} {φ φ':Nat→Loc} (h:HLe k H H' φ φ'):Later k H H' φ φ':=h.2
theorem Later.hle {H H':Heap} {φ φ':Nat→Loc} (h:Later H.length H H' φ φ'):HLe H.length H H' φ φ':=by
 refine ⟨?_,h⟩
 cases hl:H.length with
 | zero=>exact Kn _
 | succ n=>
  have hlt:n<H.length:=by omega
  obtain ⟨b',hb',_⟩:=h n H[n] hlt (Ki hlt)
  exact q0f hb'
theorem Later.refl (k:Nat) (H:Heap) (φ:Nat→Loc):Later k H H φ φ:=(HLe.refl k H φ).2
theorem Later.trans {k:Nat} {H1 H2 H3:Heap} {φ1 φ2 φ3:Nat→Loc} (h:Later k H1 H2 φ1 φ2) (h':Later k H2 H3 φ2 φ3):Later k H1 H3 φ1 φ3:=fun r b hr hb=>by
 obtain ⟨b2,h2,l2,e2⟩:=h r b hr hb
 obtain ⟨b3,h3,l3,e3⟩:=h' r b2 hr h2
 exact ⟨b3,h3,Blk.le_trans l2 l3 (fun hb=>(e2 hb).1),fun hb=>⟨(e3 (e2 hb).1).1,((e3 (e2 hb).1).2).trans (e2 hb).2⟩⟩
theorem Later.mono {k k':Nat} {H H':Heap} {φ φ':Nat→Loc} (h:Later k H H' φ φ') (hk:k'≤k):Later k' H H' φ φ':=fun r b hr hb=>h r b (Nat.lt_of_lt_of_le hr hk) hb

theorem q50 (H:Heap) (base:Nat) : ∀ (k:Nat) (todo seen:List Nat),seen.Nodup→(∀ r,r∈seen→base≤r)→(q1M H base k todo seen).Nodup∧∀ r,r∈q1M H base k todo seen→base≤r
 | 0,_,seen,h1,h2=>⟨h1,h2⟩
 | _+1,[],seen,h1,h2=>⟨h1,h2⟩
 | k+1,r::todo,seen,h1,h2=>by
  simp only[q1M]
  split
  ·exact q50 H base k _ _ h1 h2
  ·rename_i hr
   split
   ·exact q50 H base k _ _ h1 h2
   ·rename_i hc
    split
    ·exact q50 H base k _ _ h1 h2
    ·refine q50 H base k _ _ ?_ ?_
     ·rw[List.nodup_append]
      refine ⟨h1,by simp,fun a ha b hb=>?_⟩
      simp only[Kx] at hb
      subst hb
      intro e
      subst e
      exact hc (Vv.2 ha)
     ·intro x hx
      simp only[Kv,Kx] at hx
      rcases hx with hx | rfl
      ·exact h2 x hx
      ·omega

theorem q8H {fid:FuncId→Option Nat} {M:Mem} {H:Heap} {φ:Nat→Loc} (live:List Nat) : ∀ (i:Nat) (l:List AV) (us:List Value),VRels fid M H φ l us→VRels fid M H φ (q0l live i l) us
 | i,[],us,h=>h
 | i,x::l,[],h=>by have:=h.1; simp at this
 | i,x::l,u::us,h=>by
  simp only[q0l]
  refine VRels.cons ?_ (q8H live (i+1) l us h.tail)
  split
  ·exact h.head
  ·exact .dead _

theorem q7D {ks:List Nat} : ∀ (bs:List Blk) (j i:Nat) {n:Nat} {els:List AV} {fl:Bool} {fam:Nat},bs[i]?=some (.row n els true fl fam)→j+i∉ks→(fam,els.length)∈q1c ks bs j
 | [],j,i,n,els,fl,fam,h,_=>by simp at h
 | b::bs,j,0,n,els,fl,fam,h,hk=>by
  simp only[KZ,Kq] at h
  subst h
  simp only[q1c]
  rw[if_neg (by simpa using hk)]
  exact Ku ..
 | b::bs,j,i+1,n,els,fl,fam,h,hk=>by
  have ih:=q7D bs (j+1) i (by simpa using h) (by rwa [show j+1+i=j+(i+1) by omega])
  unfold q1c
  split
  ·rename_i h1; cases h1
  ·rename_i h1
   cases h1
   split
   ·exact ih
   ·exact Kt _ ih
  ·rename_i h1
   cases h1
   exact ih

theorem qjv (dr:List (Nat × Nat)) (bs:List Blk):q3i dr bs=bs.map (Blk.roBy dr):=by
 unfold q3i
 split
 ·have : ∀ b:Blk,Blk.roBy [] b=b:=fun b=>by cases b<;>simp [Blk.roBy]
  rw[show Blk.roBy []=id from funext this,List.map_id]
 ·rfl

theorem qnq (dr:List (Nat × Nat)) (bs:List Blk):q6U dr bs=bs.all (Blk.fits dr):=by
 unfold q6U
 split
 ·symm
  refine Kp.2 fun b _=>?_
  cases b<;>simp [Blk.fits]
 ·rfl

def qbp (base:Nat) (ks:List Nat) (r' r:Nat):Prop:=(r'<base∧r=r')∨(base≤r'∧ks[r'-base]?=some r)

def qj6 (base:Nat) (ks:List Nat) (φ:Nat→Loc) (r':Nat):Loc:=if r'<base then φ r' else φ ((ks[r'-base]?).getD r')

theorem q1F {base:Nat} {ks:List Nat} {φ:Nat→Loc} {r' r:Nat} (h:qbp base ks r' r):qj6 base ks φ r'=φ r:=by
 rcases h with ⟨h1,rfl⟩ | ⟨h1,h2⟩
 ·simp [qj6,h1]
 ·simp [qj6,h2,Nat.not_lt.2 h1]

theorem qjo {base:Nat} {ks:List Nat} {r r':Nat} (h:q0V base ks r=some r'):qbp base ks r' r:=by
 unfold q0V at h
 split at h
 ·rename_i hr
  cases h
  exact .inl ⟨hr,rfl⟩
 ·simp only[Kg] at h
  obtain ⟨i,hi,rfl⟩:=h
  refine .inr ⟨by omega,?_⟩
  rw[VG]
  rw[List.idxOf?_eq_some_iff] at hi
  obtain ⟨h1,h2,_⟩:=hi
  rw[Ki h1,h2]

theorem qfU {base:Nat} {ks:List Nat} (hn:ks.Nodup) (hb : ∀ r,r∈ks→base≤r) {r1 r2 r:Nat} (h1:qbp base ks r1 r) (h2:qbp base ks r2 r):r1=r2:=by
 rcases h1 with ⟨a1,rfl⟩ | ⟨a1,b1⟩
 ·rcases h2 with ⟨a2,rfl⟩ | ⟨a2,b2⟩
  ·rfl
  ·have:=hb _ (Kc b2); omega
 ·rcases h2 with ⟨a2,rfl⟩ | ⟨a2,b2⟩
  ·have:=hb _ (Kc b1); omega
  ·obtain ⟨c1,d1⟩:=Ks.1 b1
   obtain ⟨c2,d2⟩:=Ks.1 b2
   have hp:=List.pairwise_iff_getElem.1 hn
   rcases Nat.lt_trichotomy (r1-base) (r2-base) with h | h | h
   ·exact (hp _ _ c1 c2 h (by rw[d1,d2])).elim
   ·omega
   ·exact (hp _ _ c2 c1 h (by rw[d1,d2])).elim

theorem qlZ {H:Heap} {base:Nat} {ks:List Nat} (hbl:base≤H.length) {r':Nat} {b:Blk} (h:(H.take base++ks.map fun r=>H.getD r .gone)[r']?=some b) : ∃ r,qbp base ks r' r∧(b ≠ .gone→H[r]?=some b):=by
 have hl:(H.take base).length=base:=by simp [hbl]
 rw[Vo,hl] at h
 split at h
 ·rename_i hr
  rw[VA,if_pos hr] at h
  exact ⟨r',.inl ⟨hr,rfl⟩,fun _=>h⟩
 ·rename_i hr
  rw[KH,Kg] at h
  obtain ⟨r,h1,h2⟩:=h
  refine ⟨r,.inr ⟨by omega,h1⟩,fun hne=>?_⟩
  cases hg:H[r]? with
  | none=>simp [List.getD,hg] at h2; exact (hne h2.symm).elim
  | some b0=>simp [List.getD,hg] at h2; rw[h2]

theorem qfF {H:Heap} {base:Nat} {ks:List Nat} (hbl:base≤H.length) {r' r:Nat} (hs:qbp base ks r' r) {b:Blk} (h:H[r]?=some b):(H.take base++ks.map fun r=>H.getD r .gone)[r']?=some b:=by
 have hl:(H.take base).length=base:=by simp [hbl]
 rw[Vo,hl]
 rcases hs with ⟨h1,rfl⟩ | ⟨h1,h2⟩
 ·rw[if_pos h1,VA,if_pos h1,h]
 ·rw[if_neg (by omega),KH,h2]
  simp [List.getD,h]

section
variable {P:Program} {fid:FuncId→Option Nat} {pf:Nat→Bool} {M:Mem} {H H2:Heap} {φ:Nat→Loc} {B:Nat} {w w':World} {as:List AV} {v:AV}

def Blk.kin:Blk→Blk→Prop
 | .gone,b=>b = .gone
 | .resv,b=>b = .resv
 | .row n els ro fl _,b=>∃ els' ro' fam',b = .row n els' ro' fl fam'∧els'.length=els.length∧(ro=true→ro'=true)
 | .map es,b=>∃ es',b = .map es'∧es'.length=es.length
 | .iter s p,b=>b = .iter s p

theorem qkd (f:Nat→Option Nat) (g:Nat→Nat) (dr:List (Nat × Nat)) (b:Blk):b.kin (Blk.ren f g (Blk.roBy dr b)):=by
 cases b with
 | gone=>rfl
 | resv=>rfl
 | row n els ro fl fam=>
  refine ⟨_,_,_,rfl,?_,fun h=>by rw[h]; rfl⟩
  split<;>simp
 | map es=>exact ⟨_,rfl,by simp⟩
 | iter s p=>rfl

theorem VRel.ren {f:Nat→Option Nat} {ψ:Nat→Loc} (hf : ∀ r r' b,f r=some r'→H[r]?=some b→∃ b',H2[r']?=some b'∧b.kin b'∧ψ r'=φ r) {x:AV} {v:Value} (hx:VRel fid M H φ x v) : ∀ (k:Nat),VRel fid M H2 ψ (AV.renN f k x) v:=by
 have pres : ∀ r r',f r=some r'→Present H r→Present H2 r':=fun r r' h ⟨b,hb,hn⟩=>by
  obtain ⟨b',h1,h2,_⟩:=hf r r' b h hb
  refine ⟨b',h1,fun e=>?_⟩
  subst e
  cases b with
  | gone=>cases h2
  | resv=>exact hn rfl
  | row n els ro fl fam=>obtain ⟨_,_,_,h3,_⟩:=h2; cases h3
  | map es=>obtain ⟨_,h3,_⟩:=h2; cases h3
  | iter s p=>cases h2
 have row : ∀ r r' n els ro fl fam,f r=some r'→Present H r→H2[r']?=some (.row n els ro fl fam)→∃ els0 ro0 fam0,H[r]?=some (.row n els0 ro0 fl fam0)∧els.length=els0.length∧ψ r'=φ r:=fun r r' n els ro fl fam h ⟨b,hb,hn⟩ h2=>by
  obtain ⟨b',h1,h3,h4⟩:=hf r r' b h hb
  rw[h2] at h1
  cases h1
  cases b with
  | gone=>cases h3
  | resv=>exact (hn rfl).elim
  | row n0 els0 ro0 fl0 fam0=>
   obtain ⟨els1,ro1,fam1,h5,h6,_⟩:=h3
   cases h5
   exact ⟨els0,ro0,fam0,hb,h6,h4⟩
  | map es=>obtain ⟨_,h5,_⟩:=h3; cases h5
  | iter s p=>cases h3
 have mp : ∀ r r' es,f r=some r'→Present H r→H2[r']?=some (.map es)→∃ es0,H[r]?=some (.map es0)∧ψ r'=φ r:=fun r r' es h ⟨b,hb,hn⟩ h2=>by
  obtain ⟨b',h1,h3,h4⟩:=hf r r' b h hb
  rw[h2] at h1
  cases h1
  cases b with
  | gone=>cases h3
  | resv=>exact (hn rfl).elim
  | row n0 els0 ro0 fl0 fam0=>obtain ⟨_,_,_,h5,_⟩:=h3; cases h5
  | map es0=>exact ⟨es0,hb,h4⟩
  | iter s p=>cases h3
 induction hx with
 | dead v=>intro k; cases k<;>exact .dead v
 | int k n=>intro j; cases j; exact .dead _; exact .int k n
 | bool b=>intro j; cases j; exact .dead _; exact .bool b
 | str s l h=>intro j; cases j; exact .dead _; exact .str s l h
 | nilp=>intro j; cases j; exact .dead _; exact .nilp
 | nilf=>intro j; cases j; exact .dead _; exact .nilf
 | nili=>intro j; cases j; exact .dead _; exact .nili
 | nilm=>intro j; cases j; exact .dead _; exact .nilm
 | snil n a=>intro j; cases j; exact .dead _; exact .snil n a
 | tsl n l a len cap b o vf hl hc ha hn hm hv ih=>
  intro j
  cases j with
  | zero=>exact .dead _
  | succ j=>exact (VRel.tsl n l a len cap b o vf hl hc ha hn hm hv).pure 1 rfl
 | sref n r i len cap a hc ha hp hs=>
  intro j
  cases j with
  | zero=>exact .dead _
  | succ j=>
   simp only[AV.renN]
   cases hfr:f r with
   | none=>exact .dead _
   | some r'=>
    refine .sref n r' i len cap a hc ha (pres r r' hfr hp) fun els ro fl fam h2=>?_
    obtain ⟨els0,ro0,fam0,h3,h4,h5⟩:=row r r' _ _ _ _ _ hfr hp h2
    rw[h4,h5]
    exact hs _ _ _ _ h3
 | ptr n r i off ad hp hs=>
  intro j
  cases j with
  | zero=>exact .dead _
  | succ j=>
   simp only[AV.renN]
   cases hfr:f r with
   | none=>exact .dead _
   | some r'=>
    refine .ptr n r' i off ad (pres r r' hfr hp) fun els ro fl fam h2=>?_
    obtain ⟨els0,ro0,fam0,h3,h4,h5⟩:=row r r' _ _ _ _ _ hfr hp h2
    rw[h5]
    exact hs _ _ _ _ h3
 | tptr cs off b o vf hm hp hv ih=>
  intro j
  cases j with
  | zero=>exact .dead _
  | succ j=>exact (VRel.tptr cs off b o vf hm hp hv).pure 1 rfl
 | mref r b0 hp hs=>
  intro j
  cases j with
  | zero=>exact .dead _
  | succ j=>
   simp only[AV.renN]
   cases hfr:f r with
   | none=>exact .dead _
   | some r'=>
    refine .mref r' b0 (pres r r' hfr hp) fun es h2=>?_
    obtain ⟨es0,h3,h5⟩:=mp r r' es hfr hp h2
    rw[h5]
    exact hs _ h3
 | iref r b0 hp hs=>
  intro j
  cases j with
  | zero=>exact .dead _
  | succ j=>
   simp only[AV.renN]
   cases hfr:f r with
   | none=>exact .dead _
   | some r'=>
    refine .iref r' b0 (pres r r' hfr hp) fun s p h2=>?_
    obtain ⟨b,hb,hn⟩:=hp
    obtain ⟨b',h1,h3,h4⟩:=hf r r' b hfr hb
    rw[h2] at h1
    cases h1
    rw[h4]
    cases b with
    | gone=>cases h3
    | resv=>exact (hn rfl).elim
    | row n0 els0 ro0 fl0 fam0=>obtain ⟨_,_,_,h5,_⟩:=h3; cases h5
    | map es0=>obtain ⟨_,h5,_⟩:=h3; cases h5
    | iter s0 p0=>exact hs _ _ hb
 | agg cs vs hl hv ih=>
  intro j
  cases j with
  | zero=>exact .dead _
  | succ j=>
   refine .agg _ vs (by simpa using hl) fun i x v hi hv'=>?_
   rw[KH,Kg] at hi
   obtain ⟨x0,hi,rfl⟩:=hi
   exact ih i x0 v hi hv' j
 | tup cs vs hl hv ih=>
  intro j
  cases j with
  | zero=>exact .dead _
  | succ j=>
   refine .tup _ vs (by simpa using hl) fun i x v hi hv'=>?_
   rw[KH,Kg] at hi
   obtain ⟨x0,hi,rfl⟩:=hi
   exact ih i x0 v hi hv' j
 | fn f0 g cs vs hg hl hv ih=>
  intro j
  cases j with
  | zero=>exact .dead _
  | succ j=>
   refine .fn f0 g _ vs hg (by simpa using hl) fun i x v hi hv'=>?_
   rw[KH,Kg] at hi
   obtain ⟨x0,hi,rfl⟩:=hi
   exact ih i x0 v hi hv' j
 | ifc t x v hv ih=>
  intro j
  cases j with
  | zero=>exact .dead _
  | succ j=>exact .ifc t _ v (ih j)

theorem qlB {f:Nat→Option Nat} {k:Nat} {y:AV} (h1:y.one=true) (hr : ∀ q,q∈AV.refsN (k+1) y→(f q).isSome=true):(AV.renN f (k+1) y).one=true:=by
 cases y with
 | sref n r i l=>
  obtain ⟨r',h⟩:=K3.1 (hr r (by simp [AV.refsN]))
  simp [AV.renN,h,AV.one]
 | ptr n r i o=>
  obtain ⟨r',h⟩:=K3.1 (hr r (by simp [AV.refsN]))
  simp [AV.renN,h,AV.one]
 | mref r=>
  obtain ⟨r',h⟩:=K3.1 (hr r (by simp [AV.refsN]))
  simp [AV.renN,h,AV.one]
 | iref r=>
  obtain ⟨r',h⟩:=K3.1 (hr r (by simp [AV.refsN]))
  simp [AV.renN,h,AV.one]
 | dead=>cases h1
 | agg cs=>cases h1
 | tup cs=>cases h1
 | _=>rfl

theorem qe3 {f:Nat→Option Nat} {x:AV} {n:Nat} (hw:x.cells.length=n∧x.cells.all AV.one=true) (hr : ∀ q,q∈AV.refsN 6 x→(f q).isSome=true) :
  (AV.renN f 6 x).cells.length=n∧(AV.renN f 6 x).cells.all AV.one=true∧∀ (j:Nat) (y:AV),(AV.renN f 6 x).cells[j]?=some y→∃ y0 k,x.cells[j]?=some y0∧y=AV.renN f k y0:=by
 have single : ∀ x:AV,(∀ y:AV,y.one=true→y.cells=[y])→x.one=true→x.cells=[x]→x.cells.length=n→(∀ q,q∈AV.refsN 6 x→(f q).isSome=true) →
   (AV.renN f 6 x).cells.length=n∧(AV.renN f 6 x).cells.all AV.one=true∧∀ (j:Nat) (y:AV),(AV.renN f 6 x).cells[j]?=some y→∃ y0 k,x.cells[j]?=some y0∧y=AV.renN f k y0:=by
  intro x h0 h1 hc hl hr
  have ho:=qlB (k:=5) h1 hr
  have hcc:=h0 _ ho
  rw[hcc,hc]
  refine ⟨by rw[hc] at hl; exact hl,by simp [ho],fun j y hy=>?_⟩
  cases j with
  | zero=>simp only[KZ,Kq] at hy; exact ⟨x,6,rfl,hy.symm⟩
  | succ j=>simp at hy
 have h0 : ∀ y:AV,y.one=true→y.cells=[y]:=fun y h=>by cases y<;>first | rfl | cases h
 cases x with
 | agg cs=>
  have hl:cs.length=n:=hw.1
  have h1:cs.all AV.one=true:=hw.2
  show (cs.map (AV.renN f 5)).length=n∧(cs.map (AV.renN f 5)).all AV.one=true∧∀ (j:Nat) (y:AV),(cs.map (AV.renN f 5))[j]?=some y→∃ y0 k,cs[j]?=some y0∧y=AV.renN f k y0
  refine ⟨by simpa using hl,?_,fun j y hy=>?_⟩
  ·refine Kp.2 fun y hy=>?_
   obtain ⟨y0,h2,rfl⟩:=KV.1 hy
   refine qlB (k:=4) (Kp.1 h1 y0 h2) fun q hq=>hr q ?_
   show q∈cs.flatMap (AV.refsN 5)
   exact KR.2 ⟨y0,h2,hq⟩
  ·rw[KH,Kg] at hy
   obtain ⟨y0,h2,rfl⟩:=hy
   exact ⟨y0,5,h2,rfl⟩
 | dead=>exact absurd hw.2 (by simp [AV.cells,AV.one])
 | tup cs=>exact absurd hw.2 (by simp [AV.cells,AV.one])
 | _=>exact single _ h0 rfl rfl hw.1 hr

theorem qhA {s:St} {a:Act} {tm:List AV} {ks:List Nat} (ht:VRels fid M s.heap φ tm a.tmps.toList) (ht0:VRels fid M s.heap φ s.tmps a.tmps.toList) (hH:HRel fid M s.heap φ B w) (hB:B≤w.heap.size) (hd:a.defers=[]) (htb:TabC.ok B w) (hb:s.base≤s.heap.length) (hn:ks.Nodup) (hk : ∀ r,r∈ks→s.base≤r) :
  ∃ φ',Rel fid M φ' B (s.normBy tm ks) a w∧Later s.base s.heap (s.normBy tm ks).heap φ φ'∧(s.normBy tm ks).base=s.base∧s.base≤(s.normBy tm ks).heap.length:=by
 generalize hkept:(s.heap.take s.base++ks.map fun r=>s.heap.getD r .gone)=kept
 generalize hdr:q1c ks (s.heap.drop s.base) s.base=dr
 have hN:s.normBy tm ks=q4l (q1f (q0V s.base ks) kept && q6U dr kept) s { tmps:=tm.map (AV.renN (q0V s.base ks) 6),heap:=(q3i dr kept).map (Blk.ren (q0V s.base ks) (q2K s.heap s.base ks)),base:=s.base,rb:=0 }:=by
  subst hkept; subst hdr; rfl
 rw[hN]
 cases hc:(q1f (q0V s.base ks) kept && q6U dr kept) with
 | false=>exact ⟨φ,⟨ht0,hH,hB,hd,htb⟩,Later.refl _ _ _,rfl,hb⟩
 | true=>
  simp only[Kk] at hc
  obtain ⟨hclosed,hfit⟩:=hc
  rw[qnq] at hfit
  simp only[q4l]
  generalize hf:q0V s.base ks=f at *
  generalize hg:q2K s.heap s.base ks=g at *
  rw[qjv,Vn]
  generalize hH2:kept.map (Blk.ren f g ∘ Blk.roBy dr)=H2
  have fsrc : ∀ r r',f r=some r'→qbp s.base ks r' r:=fun r r' h=>qjo (hf▸h)
  have get : ∀ r' b',H2[r']?=some b'→∃ b r,qbp s.base ks r' r∧kept[r']?=some b∧b'=Blk.ren f g (Blk.roBy dr b)∧(b ≠ .gone→s.heap[r]?=some b):=fun r' b' h=>by
   rw[←hH2,KH,Kg] at h
   obtain ⟨b,h1,h2⟩:=h
   rw[←hkept] at h1
   obtain ⟨r,h3,h4⟩:=qlZ hb h1
   exact ⟨b,r,h3,by rw[←hkept]; exact h1,h2.symm,h4⟩
  have put : ∀ r' r b,qbp s.base ks r' r→s.heap[r]?=some b→kept[r']?=some b∧H2[r']?=some (Blk.ren f g (Blk.roBy dr b)):=fun r' r b h h1=>by
   have h2:=qfF (ks:=ks) hb h h1
   rw[hkept] at h2
   exact ⟨h2,by rw[←hH2,KH,h2]; rfl⟩
  have hren : ∀ r r' b,f r=some r'→s.heap[r]?=some b→∃ b',H2[r']?=some b'∧b.kin b'∧qj6 s.base ks φ r'=φ r:=fun r r' b h h1=>by
   have hs:=fsrc r r' h
   exact ⟨_,(put r' r b hs h1).2,qkd f g dr b,q1F hs⟩
  have vren : ∀ {x:AV} {v:Value},VRel fid M s.heap φ x v→∀ k,VRel fid M H2 (qj6 s.base ks φ) (AV.renN f k x) v:=fun h k=>h.ren hren k
  have rows : ∀ r' n els ro fl fam,H2[r']?=some (.row n els ro fl fam)→∃ r els0 ro0 fam0,qbp s.base ks r' r∧s.heap[r]?=some (.row n els0 ro0 fl fam0)∧kept[r']?=some (.row n els0 ro0 fl fam0)∧els=(if fl then els0 else els0.map (AV.renN f 6))∧fam=g fam0∧ro=(ro0 || dr.any fun d=>d.1 == fam0):=fun r' n els ro fl fam h=>by
   obtain ⟨b,r,h1,h2,h3,h4⟩:=get r' _ h
   cases b with
   | gone=>cases h3
   | resv=>cases h3
   | map es=>cases h3
   | iter s0 p=>cases h3
   | row n0 els0 ro0 fl0 fam0=>
    simp only[Blk.roBy,Blk.ren,Blk.row.injEq] at h3
    obtain ⟨rfl,rfl,rfl,rfl,rfl⟩:=h3
    exact ⟨r,els0,ro0,fam0,h1,h4 (by simp),h2,rfl,rfl,rfl⟩
  have maps : ∀ r' es,H2[r']?=some (.map es)→∃ r es0,qbp s.base ks r' r∧s.heap[r]?=some (.map es0)∧es=es0.map fun x=>(AV.renN f 6 x.1,AV.renN f 6 x.2):=fun r' es h=>by
   obtain ⟨b,r,h1,h2,h3,h4⟩:=get r' _ h
   cases b with
   | gone=>cases h3
   | resv=>cases h3
   | row n0 els0 ro0 fl0 fam0=>cases h3
   | iter s0 p=>cases h3
   | map es0=>
    simp only[Blk.roBy,Blk.ren,Blk.map.injEq] at h3
    exact ⟨r,es0,h1,h4 (by simp),h3⟩
  have elen : ∀ (fl:Bool) (els0:List AV),(if fl then els0 else els0.map (AV.renN f 6)).length=els0.length:=fun fl els0=>by split<;>simp
  refine ⟨qj6 s.base ks φ,⟨⟨by simpa using ht.1,fun i x v hx hv=>?_⟩,?_,hB,hd,htb⟩,fun r b hr h1=>?_,trivial,?_⟩
  ·rw[KH,Kg] at hx
   obtain ⟨x0,hx0,rfl⟩:=hx
   exact vren (ht.2 i x0 v hx0 hv) 6
  ·refine ⟨hH.mem,fun r' n els ro fl fam hr=>?_,fun r' es hr=>?_,fun r1 r2 n1 e1 o1 f1 a1 n2 e2 o2 f2 a2 hne h1 h2 hbk=>?_,fun r1 r2 es1 es2 hne h1 h2=>?_,fun r' n els ro fl fam hr o u hm=>?_,fun r' es hr o=>?_,?_⟩
   ·obtain ⟨r,els0,ro0,fam0,hs,h1,hkp,rfl,_,_⟩:=rows _ _ _ _ _ _ hr
    have R:=hH.row _ _ _ _ _ _ h1
    rw[q1F hs]
    obtain ⟨c,t,fr,hc,hsz,hfz,hcell⟩:=R.cells
    cases fl with
    | true=>
     refine ⟨R.base,R.pos,R.fits,⟨c,t,fr,hc,hsz,hfz,fun i x j y hx hy=>?_⟩,R.wide,R.flat⟩
     obtain ⟨u,h2,h3⟩:=hcell i x j y hx hy
     exact ⟨u,h2,h3.pure 6 (q4V (R.flat rfl x (Kc hx)) hy)⟩
    | false=>
     have hrefs : ∀ x,x∈els0→∀ q,q∈AV.refsN 6 x→(f q).isSome=true:=fun x hx q hq=>by
      have hcb:=Kp.1 hclosed _ (Kc hkp)
      refine Kp.1 hcb q ?_
      show q∈els0.flatMap (AV.refsN 6)
      exact KR.2 ⟨x,hx,hq⟩
     refine ⟨R.base,R.pos,by simpa using R.fits,⟨c,t,fr,hc,hsz,hfz,fun i x j y hx hy=>?_⟩,fun x hx=>?_,fun h=>by cases h⟩
     ·simp only[Km,if_false,KH,Kg] at hx
      obtain ⟨x0,hx0,rfl⟩:=hx
      have hm0:=Kc hx0
      obtain ⟨_,_,h5⟩:=qe3 (R.wide x0 hm0) (hrefs x0 hm0)
      obtain ⟨y0,k,h6,rfl⟩:=h5 j y hy
      obtain ⟨u,h2,h3⟩:=hcell i x0 j y0 hx0 h6
      exact ⟨u,h2,vren h3 k⟩
     ·simp only[Km,if_false] at hx
      obtain ⟨x0,hm0,rfl⟩:=KV.1 hx
      obtain ⟨h5,h6,_⟩:=qe3 (R.wide x0 hm0) (hrefs x0 hm0)
      exact ⟨h5,h6⟩
   ·obtain ⟨r,es0,hs,h1,rfl⟩:=maps _ _ hr
    have Mp:=hH.map _ _ h1
    rw[q1F hs]
    obtain ⟨ces,clock,h2,h3,h4⟩:=Mp.ents
    refine ⟨Mp.base,ces,clock,h2,by simpa using h3,fun i k u hi=>?_⟩
    rw[KH,Kg] at hi
    obtain ⟨⟨k0,u0⟩,hi0,he⟩:=hi
    simp only[Vm] at he
    obtain ⟨rfl,rfl⟩:=he
    obtain ⟨e,h5,h6,h7⟩:=h4 i k0 u0 hi0
    exact ⟨e,h5,vren h6 6,vren h7 6⟩
   ·obtain ⟨q1,b1,c1,d1,s1,g1,_,_,rfl,_⟩:=rows _ _ _ _ _ _ h1
    obtain ⟨q2,b2,c2,d2,s2,g2,_,_,rfl,_⟩:=rows _ _ _ _ _ _ h2
    rw[q1F s1,q1F s2] at hbk ⊢
    have hq:q1≠q2:=fun e=>by subst e; exact hne (qfU hn hk s1 s2)
    obtain ⟨h3,h4,h5⟩:=hH.sepRR q1 q2 _ _ _ _ _ _ _ _ _ _ hq g1 g2 hbk
    exact ⟨by rw[h3],h4,h5⟩
   ·obtain ⟨q1,b1,s1,g1,_⟩:=maps _ _ h1
    obtain ⟨q2,b2,s2,g2,_⟩:=maps _ _ h2
    rw[q1F s1,q1F s2]
    exact hH.sepMM q1 q2 _ _ (fun e=>by subst e; exact hne (qfU hn hk s1 s2)) g1 g2
   ·obtain ⟨q1,b1,c1,d1,s1,g1,hkp,he,rfl,hro⟩:=rows _ _ _ _ _ _ hr
    rw[q1F s1] at hm ⊢
    obtain ⟨r2,els2,fl2,h3,h4,h5⟩:=hH.ownR _ _ _ _ _ _ g1 o u hm
    by_cases hkeep : ∃ r2',qbp s.base ks r2' r2
    ·obtain ⟨r2',s2⟩:=hkeep
     refine ⟨r2',if fl2 then els2 else els2.map (AV.renN f 6),fl2,?_,by rw[q1F s2]; exact h4,by rw[elen]; exact h5⟩
     have:=(put r2' r2 _ s2 h3).2
     simpa [Blk.roBy,Blk.ren] using this
    ·have hge:s.base≤r2:=by
      by_cases hlt:r2<s.base
      ·exact (hkeep ⟨r2,.inl ⟨hlt,rfl⟩⟩).elim
      ·omega
     have hnk:r2∉ks:=fun hmem=>by
      obtain ⟨i,hi,e⟩:=Vk.1 hmem
      exact hkeep ⟨s.base+i,.inr ⟨by omega,by rw[VG,Ki hi,e]⟩⟩
     have hdm:=q7D (ks:=ks) (s.heap.drop s.base) s.base (r2-s.base) (by rw[VB,show s.base+(r2-s.base)=r2 by omega]; exact h3) (by rwa [show s.base+(r2-s.base)=r2 by omega])
     rw[hdr] at hdm
     have hfits:=Kp.1 hfit _ (Kc hkp)
     have:=Kp.1 hfits _ hdm
     simp only[bne_self_eq_false,Vj,decide_eq_true_eq] at this
     have hro':ro=true:=by
      rw[hro]
      simp only[K6]
      exact .inr (List.any_eq_true.2 ⟨_,hdm,by simp⟩)
     subst hro'
     refine ⟨r',els,fl,hr,by rw[q1F s1],?_⟩
     rw[he,elen]
     have:=Vh n this
     omega
   ·obtain ⟨q1,b1,s1,g1,_⟩:=maps _ _ hr
    rw[q1F s1]
    exact hH.ownM _ _ g1 o
   ·have its : ∀ r' s0 p0,H2[r']?=some (.iter s0 p0)→∃ r,qbp s.base ks r' r∧s.heap[r]?=some (.iter s0 p0):=fun r' s0 p0 h=>by
     obtain ⟨b,r,h1,h2,h3,h4⟩:=get r' _ h
     cases b with
     | gone=>cases h3
     | resv=>cases h3
     | row n0 els0 ro0 fl0 fam0=>cases h3
     | map es0=>cases h3
     | iter s1 p1=>
      have h5:=h4 (by simp)
      simp only[Blk.roBy,Blk.ren,Blk.iter.injEq] at h3
      obtain ⟨rfl,rfl⟩:=h3
      exact ⟨r,h1,h5⟩
    classical
    let σ:Nat→Nat:=fun r'=>if h : ∃ r,qbp s.base ks r' r then h.choose else 0
    have hσ : ∀ r' r,qbp s.base ks r' r→qbp s.base ks r' (σ r'):=fun r' r h=>by
     have he : ∃ r,qbp s.base ks r' r:=⟨r,h⟩
     simp only[σ,dif_pos he]
     exact he.choose_spec
    have huniq : ∀ r' r1 r2,qbp s.base ks r' r1→qbp s.base ks r' r2→r1=r2:=fun r' r1 r2 h1 h2=>by
     rcases h1 with ⟨h1,e1⟩ | ⟨h1,e1⟩<;>rcases h2 with ⟨h2,e2⟩ | ⟨h2,e2⟩
     ·exact e1.trans e2.symm
     ·omega
     ·omega
     ·rw[e1] at e2; exact K7 e2
    refine hH.bl.keep σ (fun r' s0 p0 hr=>?_) (fun r1 r2 s0 p0 s1 p1 h1 h2 e=>?_) (fun r' n els ro fl fam hr=>?_) (fun _ _ v hm=>.inl ⟨v,hm⟩) fun _ _ _ _ _ _=>rfl
    ·obtain ⟨r,h1,h2⟩:=its _ _ _ hr
     have h3:=hσ r' r h1
     rw[huniq _ _ _ h3 h1]
     exact ⟨h2,q1F h1⟩
    ·obtain ⟨q1,s3,_⟩:=its _ _ _ h1
     obtain ⟨q2,s4,_⟩:=its _ _ _ h2
     have e1:=hσ _ _ s3
     have e2:=hσ _ _ s4
     rw[e] at e1
     exact qfU hn hk e1 e2
    ·obtain ⟨q1,b1,c1,d1,s1,g1,_⟩:=rows _ _ _ _ _ _ hr
     exact .inl ⟨q1,_,_,_,_,_,g1,by rw[q1F s1]⟩
  ·have hs:qbp s.base ks r r:=.inl ⟨hr,rfl⟩
   refine ⟨_,(put r r b hs h1).2,?_,fun hne=>⟨fun e=>?_,q1F hs⟩⟩
   ·have hkin:=qkd f g dr b
    cases b with
    | gone=>exact hkin
    | resv=>trivial
    | row n els ro fl fam=>
     obtain ⟨els',ro',fam',h2,h3,_⟩:=hkin
     exact .inr ⟨els',ro',fl,fam',h2,h3⟩
    | map es=>
     obtain ⟨es',h2,_⟩:=hkin
     exact .inr ⟨es',h2⟩
    | iter s0 p=>exact .inr ⟨s0,p,hkin⟩
   ·cases b<;>first | exact hne rfl | cases e
  ·rw[←hH2,←hkept]
   simp [hb]

theorem qgp {s:St} {a:Act} (R:Rel fid M φ B s a w) (hb:s.base≤s.heap.length) (live:List Nat) :
  ∃ φ',Rel fid M φ' B (s.norm live) a w∧Later s.base s.heap (s.norm live).heap φ φ'∧(s.norm live).base=s.base∧s.base≤(s.norm live).heap.length:=by
 obtain ⟨h1,h2⟩:=q50 s.heap s.base 4000 ((q0l live 0 s.tmps).flatMap (AV.refsN 6)++(s.heap.take s.base).flatMap Blk.refs) [] (by simp) (by simp)
 exact qhA (q8H live 0 _ _ R.tm) R.tm R.hp R.sz R.df R.tb hb h1 h2
end
end Ago
namespace Ago
open Go
variable {uT:Unit} [TabC uT]

theorem q8O (rs:List Nat) : ∀ (H:Heap) (j i:Nat),(q0R rs j H)[i]?=(H[i]?).map fun b=>if rs.contains (j+i) then b.mark else b
 | [],j,i=>by simp [q0R]
 | b::bs,j,0=>by simp [q0R]
 | b::bs,j,i+1=>by
  simp only[q0R,KY]
  rw[q8O rs bs (j+1) i,show j+1+i=j+(i+1) by omega]

theorem q16 (H:Heap) (rs:List Nat) (i:Nat):(q1h H rs)[i]?=(H[i]?).map fun b=>if rs.contains i then b.mark else b:=by
 unfold q1h
 split
 ·cases H[i]?<;>simp
 ·rw[q8O]
  simp

theorem q5T (rs:List Nat) : ∀ (H:Heap) (j:Nat),(q0R rs j H).length=H.length
 | [],_=>rfl
 | b::bs,j=>by simp [q0R,q5T rs bs]

theorem q2t (H:Heap) (rs:List Nat):(q1h H rs).length=H.length:=by
 unfold q1h
 split
 ·rfl
 ·exact q5T ..

open Classical in
noncomputable def q0t (M:Mem) (H:Heap) (φ:Nat→Loc) (w:World) (rs:List Nat):Mem:=fun b o=>
 if (M b o).isSome=true∨(∃ r n els ro fl fam,r∈rs∧H[r]?=some (.row n els ro fl fam)∧(φ r).blk=b∧(φ r).off≤o∧o<(φ r).off+els.length * n) then w.cell? ⟨b,o,none⟩ else none

section
variable {P:Program} {fid:FuncId→Option Nat} {pf:Nat→Bool} {M M':Mem} {H H2:Heap} {φ:Nat→Loc} {B:Nat} {w w':World} {as:List AV} {v:AV}

theorem q1I {rs:List Nat} {b o:Nat} {u:Value} (h:q0t M H φ w rs b o=some u):w.cell? ⟨b,o,none⟩=some u:=by
 unfold q0t at h
 split at h
 ·exact h
 ·cases h

theorem q1n (hH:HRel fid M H φ B w) {rs:List Nat} {b o:Nat} {u:Value} (h:M b o=some u):q0t M H φ w rs b o=some u:=by
 unfold q0t
 rw[if_pos (.inl (by simp [h]))]
 exact hH.mem _ _ _ h

theorem q48 {rs:List Nat} {r n o:Nat} {els:List AV} {ro fl:Bool} {fam:Nat} {u:Value} (hr:r∈rs) (h:H[r]?=some (.row n els ro fl fam)) (h1:(φ r).off≤o) (h2:o<(φ r).off+els.length * n) (hc:w.cell? ⟨(φ r).blk,o,none⟩=some u) :
  q0t M H φ w rs (φ r).blk o=some u:=by
 unfold q0t
 rw[if_pos (.inr ⟨r,n,els,ro,fl,fam,hr,h,rfl,h1,h2⟩)]
 exact hc

theorem VRel.bare (hM : ∀ b o v,M b o=some v→M' b o=some v) {x:AV} {u:Value} (h:VRel fid M H φ x u) {k:Nat} (hp:AV.pureN k x=true):VRel fid M' [] φ x u:=
 (VRel.pure (H':=[]) (φ':=φ) h k hp).mono hM (HLe.refl _ _ _)

theorem VRel.clad {x:AV} {u:Value} {ψ:Nat→Loc} (h:VRel fid M [] φ x u):VRel fid M H ψ x u:=by
 have no : ∀ r,¬ Present [] r:=fun r ⟨b,hb,_⟩=>by simp at hb
 induction h with
 | dead v=>exact .dead v
 | int k n=>exact .int k n
 | bool b=>exact .bool b
 | str s l h=>exact .str s l h
 | nilp=>exact .nilp
 | nilf=>exact .nilf
 | nili=>exact .nili
 | nilm=>exact .nilm
 | snil n a=>exact .snil n a
 | tsl n l a len cap b o vf hl hc ha hn hm hv ih=>exact .tsl n l a len cap b o vf hl hc ha hn hm ih
 | sref n r i len cap a hc ha hp hs=>exact (no _ hp).elim
 | ptr n r i off ad hp hs=>exact (no _ hp).elim
 | tptr cs off b o vf hm hp hv ih=>exact .tptr cs off b o vf hm hp ih
 | mref r b0 hp hs=>exact (no _ hp).elim
 | iref r b0 hp hs=>exact (no _ hp).elim
 | agg cs vs hl hv ih=>exact .agg cs vs hl ih
 | tup cs vs hl hv ih=>exact .tup cs vs hl ih
 | fn f g cs vs hg hl hv ih=>exact .fn f g cs vs hg hl ih
 | ifc t x v hv ih=>exact .ifc t x v ih

theorem VRel.plain {x:AV} {u:Value} {ψ:Nat→Loc} (h:VRel fid M H φ x u) : ∀ k,AV.plainN k x=true→VRel fid M' H2 ψ x u:=by
 induction h with
 | dead v=>exact fun k hk=>by cases k<;>cases hk
 | int k n=>exact fun _ _=>.int k n
 | bool b=>exact fun _ _=>.bool b
 | str s l h=>exact fun _ _=>.str s l h
 | nilp=>exact fun _ _=>.nilp
 | nilf=>exact fun _ _=>.nilf
 | nili=>exact fun _ _=>.nili
 | nilm=>exact fun _ _=>.nilm
 | snil n a=>exact fun _ _=>.snil n a
 | tsl n l a len cap b o vf hl hc ha hn hm hv ih=>exact fun k hk=>by cases k<;>cases hk
 | sref n r i len cap a hc ha hp hs=>exact fun k hk=>by cases k<;>cases hk
 | ptr n r i off ad hp hs=>exact fun k hk=>by cases k<;>cases hk
 | tptr cs off b o vf hm hp hv ih=>exact fun k hk=>by cases k<;>cases hk
 | mref r b0 hp hs=>exact fun k hk=>by cases k<;>cases hk
 | iref r b0 hp hs=>exact fun k hk=>by cases k<;>cases hk
 | agg cs vs hl hv ih=>
  intro k hk
  cases k with
  | zero=>cases hk
  | succ k=>exact .agg cs vs hl fun i x v hi hv'=>ih i x v hi hv' k (Kp.1 hk x (Kc hi))
 | tup cs vs hl hv ih=>
  intro k hk
  cases k with
  | zero=>cases hk
  | succ k=>exact .tup cs vs hl fun i x v hi hv'=>ih i x v hi hv' k (Kp.1 hk x (Kc hi))
 | fn f g cs vs hg hl hv ih=>exact fun k hk=>by cases k<;>cases hk
 | ifc t x v hv ih=>exact fun k hk=>by cases k<;>cases hk

theorem qha {j k:Nat} (h:j≤k) {x:AV} (hx:AV.pureN j x=true):AV.pureN k x=true:=by
 induction h with
 | refl=>exact hx
 | step _ ih=>exact q29 _ x ih

theorem q5f {α β:Type} {f:α→Option β} {l:List α} {r:List β} (h:q1L f l=some r) {i:Nat} {y:β} (hy:r[i]?=some y) : ∃ x,l[i]?=some x∧f x=some y:=by
 have hlt:i<l.length:=by rw[←q13 h]; exact q0f hy
 exact ⟨l[i],Ki hlt,q4G h (Ki hlt) hy⟩

def qwQ (fid:FuncId→Option Nat) (M M':Mem) (H:Heap) (φ:Nat→Loc) (rs:List Nat) (k:Nat):Prop:=
 ∀ x y u,VRel fid M H φ x u→frz H k x=some y→(∀ r,r∈q0q H k x→r∈rs)→VRel fid M' [] φ y u∧AV.pureN k y=true∧(x.one=true→y.one=true)
def qx8 (fid:FuncId→Option Nat) (M M':Mem) (H:Heap) (φ:Nat→Loc) (rs:List Nat) (k:Nat):Prop:=
 ∀ x y us,VRels fid M H φ x.cells us→x.cells.all AV.one=true→frz H k x=some y→(∀ r,r∈q0q H k x→r∈rs) →
  VRels fid M' [] φ y.cells us∧y.cells.length=x.cells.length∧y.cells.all AV.one=true∧AV.pureN k y=true

theorem qa8 {x:AV} (h:x.one=true):x.cells=[x]:=by cases x<;>first | rfl | cases h

theorem qcs (hH:HRel fid M H φ B w) {rs:List Nat} (hM : ∀ b o v,M b o=some v→M' b o=some v)
  (hrow : ∀ r n els ro fl fam o u,r∈rs→H[r]?=some (.row n els ro fl fam)→(φ r).off≤o→o<(φ r).off+els.length * n→w.cell? ⟨(φ r).blk,o,none⟩=some u→M' (φ r).blk o=some u) :
  ∀ k,k≤6→qwQ fid M M' H φ rs k∧qx8 fid M M' H φ rs k:=by
 intro k
 induction k with
 | zero=>exact fun _=>⟨fun x y u _ h _=>(by cases h),fun x y us _ _ h _=>(by cases h)⟩
 | succ k ih=>
  intro hk6
  obtain ⟨ihV,ihC⟩:=ih (by omega)
  have bare : ∀ x u,VRel fid M H φ x u→AV.pureN (k+1) x=true→VRel fid M' [] φ x u∧AV.pureN (k+1) x=true∧(x.one=true→x.one=true):=fun x u h hp=>⟨h.bare hM hp,hp,id⟩
  have V:qwQ fid M M' H φ rs (k+1):=by
   intro x y u hx hy hr
   cases x with
   | dead=>cases hy
   | int kk n=>cases hy; exact bare _ _ hx rfl
   | bool b=>cases hy; exact bare _ _ hx rfl
   | str s=>cases hy; exact bare _ _ hx rfl
   | nilp=>cases hy; exact bare _ _ hx rfl
   | nilf=>cases hy; exact bare _ _ hx rfl
   | nili=>cases hy; exact bare _ _ hx rfl
   | nilm=>cases hy; exact bare _ _ hx rfl
   | tsl n l=>cases hy; exact bare _ _ hx rfl
   | tptr cs off=>cases hy; exact bare _ _ hx rfl
   | mref=>cases hy
   | iref=>cases hy
   | ifc=>cases hy
   | fn f cs=>
    simp only[frz,Kg] at hy
    obtain ⟨ds,hds,rfl⟩:=hy
    cases hx with
    | fn _ g _ vs hg hl hv=>
     have hsub : ∀ x,x∈cs→∀ r,r∈q0q H k x→r∈rs:=fun x hx r hr'=>hr r (by
      show r∈cs.flatMap (q0q H k)
      exact KR.2 ⟨x,hx,hr'⟩)
     refine ⟨.fn f g ds vs hg (by rw[q13 hds]; exact hl) fun i y v hi hv'=>?_,Kp.2 fun y hy=>?_,fun _=>rfl⟩
     ·obtain ⟨x,h1,h2⟩:=q5f hds hi
      exact (ihV x y v (hv i x v h1 hv') h2 (hsub x (Kc h1))).1
     ·obtain ⟨i,hi,e⟩:=Vk.1 hy
      have hi':i<cs.length:=by rw[←q13 hds]; exact hi
      have hvv:vs[i]?=some vs[i]:=KU (by omega)
      have h2:=q4G hds (Ki hi') (Ki hi)
      rw[e] at h2
      exact (ihV _ y _ (hv i _ _ (Ki hi') hvv) h2 (hsub _ (List.getElem_mem hi'))).2.1
   | ptr n r i off=>
    simp only[frz] at hy
    split at hy
    ·rename_i n' els ro fl fam hrw
     split at hy
     ·rename_i hc
      subst hc
      split at hy
      ·rename_i e hei
       have hrs:r∈rs:=hr r (by simp [q0q,hrw])
       have R:=hH.row _ _ _ _ _ _ hrw
       have hm:=Kc hei
       obtain ⟨hw1,hw2⟩:=R.wide e hm
       have hlt:i<els.length:=(Ks.1 hei).1
       have hcell : ∀ (j:Nat) (z:AV),e.cells[j]?=some z→∃ u0,w.cell? ⟨(φ r).blk,(φ r).off+i * n'+j,none⟩=some u0∧VRel fid M H φ z u0:=fun j z hz=>by
        obtain ⟨c,t,fr,hcs,_,_,hv⟩:=R.cells
        obtain ⟨v,h1,h2⟩:=hv i e j z hei hz
        exact ⟨v,by rw[cell_of_heap hcs]; exact h1,h2⟩
       have hmul:i * n'+n'≤els.length * n':=by
        have:=Vh n' (show i+1≤els.length by omega)
        rwa [Vi,Nat.one_mul] at this
       cases hx with
       | ptr _ _ _ _ ad hp hs=>
        have had:=hs _ _ _ _ hrw
        subst had
        -- cells whose values qqK in the row
        have fin : ∀ cs:List AV,cs.length=n'→(∀ (j:Nat) (y:AV),cs[j]?=some y→y.isPure=true∧y.one=true)→(∀ us,VRels fid M H φ e.cells us→VRels fid M' [] φ cs us) →
          VRel fid M' [] φ (.tptr cs off) (.pointer (some ⟨(φ r).blk,(φ r).off+i * n'+off,none⟩)):=fun cs hcl hcp hcv=>by
         obtain ⟨us0,h1,h2,h3⟩:=q4a (w:=w) (b:=(φ r).blk) (o:=(φ r).off+i * n') hcell
         have hv:=hcv us0 h3
         refine .tptr cs off (φ r).blk ((φ r).off+i * n') (fun j=>(w.cell? ⟨(φ r).blk,(φ r).off+i * n'+j,none⟩).getD Go.undef) (fun j hj=>?_) hcp (fun j y hy=>?_)
         ·have hjl:j<e.cells.length:=by omega
          obtain ⟨u0,h4,h5⟩:=hcell j _ (Ki hjl)
          rw[h4]
          exact hrow r n' els ro fl fam _ u0 hrs hrw (by omega) (by omega) h4
         ·have hjl:j<e.cells.length:=by have:=(Ks.1 hy).1; omega
          obtain ⟨u0,h4,h5⟩:=hcell j _ (Ki hjl)
          have hus:VRels fid M H φ e.cells ((List.range n').map fun j=>(w.cell? ⟨(φ r).blk,(φ r).off+i * n'+j,none⟩).getD Go.undef):=by
           refine ⟨by simp [hw1],fun q z u hz hu=>?_⟩
           have hq:q<n':=by have:=q0f hz; omega
           obtain ⟨u1,h6,h7⟩:=hcell q z hz
           simp only[KH,VF hq,KM,Kq] at hu
           subst hu
           rw[h6]
           exact h7
          exact (hcv _ hus).2 j y _ hy (by simp [show j<n' by omega])
        split at hy
        ·rename_i hfl
         subst hfl
         simp only[Kq] at hy
         subst hy
         have hpx:=R.flat rfl e hm
         refine ⟨fin _ hw1 (fun j y hy=>⟨q4V hpx hy,Kp.1 hw2 y (Kc hy)⟩) fun us hus=>⟨hus.1,fun q z u hz hu=>(hus.2 q z u hz hu).bare hM (q4V hpx hz)⟩,rfl,fun _=>rfl⟩
        ·rename_i hfl
         simp only[Kg] at hy
         obtain ⟨cs,hcs,rfl⟩:=hy
         have hsub : ∀ x,x∈e.cells→∀ q,q∈q0q H k x→q∈rs:=fun x hx q hq=>hr q (by
          simp only[q0q,hrw,hfl,if_false,Km,hei,KA,KR]
          exact .inr ⟨x,hx,hq⟩)
         have hlen:=q13 hcs
         refine ⟨fin cs (by omega) (fun j y hy=>?_) (fun us hus=>⟨by rw[hlen]; exact hus.1,fun q y u hy hu=>?_⟩),rfl,fun _=>rfl⟩
         ·obtain ⟨x,h1,h2⟩:=q5f hcs hy
          obtain ⟨u0,h4,h5⟩:=hcell j x h1
          obtain ⟨_,h6,h7⟩:=ihV x y u0 h5 h2 (hsub x (Kc h1))
          exact ⟨qha (by omega) h6,h7 (Kp.1 hw2 x (Kc h1))⟩
         ·obtain ⟨x,h1,h2⟩:=q5f hcs hy
          exact (ihV x y u (hus.2 q x u h1 hu) h2 (hsub x (Kc h1))).1
      ·cases hy
     ·cases hy
    ·cases hy
   | snil n=>
    cases hy
    cases hx with
    | snil _ a=>exact ⟨.tsl n [] a 0 0 0 0 (fun _ _=>Go.undef) rfl (Kr _) (fun h=>absurd h (by simp)) (fun i x h=>by simp at h) (fun i j h=>absurd h (by simp)) (fun i x j y h=>by simp at h),rfl,fun _=>rfl⟩
   | agg cs=>
    simp only[frz,Kg] at hy
    obtain ⟨ds,hds,rfl⟩:=hy
    cases hx with
    | agg _ vs hl hv=>
     have hsub : ∀ x,x∈cs→∀ r,r∈q0q H k x→r∈rs:=fun x hx r hr'=>hr r (by
      show r∈cs.flatMap (q0q H k)
      exact KR.2 ⟨x,hx,hr'⟩)
     refine ⟨.agg ds vs (by rw[q13 hds]; exact hl) fun i y v hi hv'=>?_,Kp.2 fun y hy=>?_,fun h=>by cases h⟩
     ·obtain ⟨x,h1,h2⟩:=q5f hds hi
      exact (ihV x y v (hv i x v h1 hv') h2 (hsub x (Kc h1))).1
     ·obtain ⟨i,hi,e⟩:=Vk.1 hy
      have hi':i<cs.length:=by rw[←q13 hds]; exact hi
      have hvv:vs[i]?=some vs[i]:=KU (by omega)
      have h2:=q4G hds (Ki hi') (Ki hi)
      rw[e] at h2
      exact (ihV _ y _ (hv i _ _ (Ki hi') hvv) h2 (hsub _ (List.getElem_mem hi'))).2.1
   | tup cs=>
    simp only[frz,Kg] at hy
    obtain ⟨ds,hds,rfl⟩:=hy
    cases hx with
    | tup _ vs hl hv=>
     have hsub : ∀ x,x∈cs→∀ r,r∈q0q H k x→r∈rs:=fun x hx r hr'=>hr r (by
      show r∈cs.flatMap (q0q H k)
      exact KR.2 ⟨x,hx,hr'⟩)
     refine ⟨.tup ds vs (by rw[q13 hds]; exact hl) fun i y v hi hv'=>?_,Kp.2 fun y hy=>?_,fun h=>by cases h⟩
     ·obtain ⟨x,h1,h2⟩:=q5f hds hi
      exact (ihV x y v (hv i x v h1 hv') h2 (hsub x (Kc h1))).1
     ·obtain ⟨i,hi,e⟩:=Vk.1 hy
      have hi':i<cs.length:=by rw[←q13 hds]; exact hi
      have hvv:vs[i]?=some vs[i]:=KU (by omega)
      have h2:=q4G hds (Ki hi') (Ki hi)
      rw[e] at h2
      exact (ihV _ y _ (hv i _ _ (Ki hi') hvv) h2 (hsub _ (List.getElem_mem hi'))).2.1
   | sref n r i len=>
    simp only[frz] at hy
    split at hy
    ·rename_i n' els ro fl fam hrw
     split at hy
     ·rename_i hc
      obtain ⟨rfl,hle⟩:=hc
      have hrs:r∈rs:=hr r (by simp [q0q,hrw])
      have R:=hH.row _ _ _ _ _ _ hrw
      have hpart:=R.part i len
      have hwp : ∀ x,x∈(els.drop i).take len→x.cells.length=n'∧x.cells.all AV.one=true:=fun x hx=>R.wide x (KW (KB hx))
      have hpl:((els.drop i).take len).length=len:=by simp; omega
      cases hx with
      | sref _ _ _ _ cap a hcap ha hp hs=>
       obtain ⟨_,hs2⟩:=hs _ _ _ _ hrw
       -- a list of trees whose cells are the row's cells
       have fin : ∀ l:List AV,l.length=len→(∀ (j:Nat) (x y:AV),((els.drop i).take len)[j]?=some x→l[j]?=some y→y.isPure=true∧y.cells.length=n'∧y.cells.all AV.one=true∧∀ us,VRels fid M H φ x.cells us→VRels fid M' [] φ y.cells us) →
         VRel fid M' [] φ (.tsl n' l) (.slice a len cap):=by
        intro l hll hl
        let vf:Nat→Nat→Value:=fun i' j=>(w.cell? ⟨(φ r).blk,(φ r).off+i * n'+i' * n'+j,none⟩).getD Go.undef
        have cellsOf : ∀ (i':Nat) (x:AV),((els.drop i).take len)[i']?=some x→VRels fid M H φ x.cells ((List.range n').map fun j=>vf i' j):=fun i' x hx=>by
         refine ⟨by simp [(hwp x (Kc hx)).1],fun j z u hz hu=>?_⟩
         have hj:j<n':=by have:=q0f hz; rw[(hwp x (Kc hx)).1] at this; exact this
         obtain ⟨u0,h1,h2⟩:=hpart i' x j z hx hz
         simp only[KH,VF hj,KM,Kq] at hu
         subst hu
         show VRel fid M H φ z ((w.cell? ⟨(φ r).blk,(φ r).off+i * n'+i' * n'+j,none⟩).getD Go.undef)
         rw[h1]
         exact h2
        have elemAt : ∀ i',i'<len→∃ x,((els.drop i).take len)[i']?=some x:=fun i' hi'=>⟨_,Ki (by rw[hpl]; exact hi')⟩
        refine .tsl n' l a len cap (φ r).blk ((φ r).off+i * n') vf hll hcap (fun h=>?_) (fun i' y hi'=>?_) (fun i' j hi' hj=>?_) (fun i' y j z hi' hz=>?_)
        ·exact (hs2 (by omega)).1
        ·obtain ⟨x,hx⟩:=elemAt i' (by rw[←hll]; exact q0f hi')
         obtain ⟨h1,h2,h3,_⟩:=hl i' x y hx hi'
         exact ⟨h1,h2,h3⟩
        ·obtain ⟨x,hx⟩:=elemAt i' hi'
         have hxl:=(hwp x (Kc hx)).1
         obtain ⟨z,hz⟩ : ∃ z,x.cells[j]?=some z:=⟨_,Ki (by rw[hxl]; exact hj)⟩
         obtain ⟨u0,h1,h2⟩:=hpart i' x j z hx hz
         have hmul:=Vh n' (show i+i'+1≤els.length by omega)
         rw[Vi,Vi,Nat.one_mul] at hmul
         have:=hrow r n' els ro fl fam ((φ r).off+i * n'+i' * n'+j) u0 hrs hrw (by omega) (by omega) h1
         rw[this]
         show some u0=some ((w.cell? ⟨(φ r).blk,(φ r).off+i * n'+i' * n'+j,none⟩).getD Go.undef)
         rw[h1]
         rfl
        ·obtain ⟨x,hx⟩:=elemAt i' (by rw[←hll]; exact q0f hi')
         obtain ⟨_,h2,_,h4⟩:=hl i' x y hx hi'
         have hj:j<n':=by rw[←h2]; exact q0f hz
         exact (h4 _ (cellsOf i' x hx)).2 j z (vf i' j) hz (by simp [hj])
       split at hy
       ·rename_i hfl
        subst hfl
        simp only[Kq] at hy
        subst hy
        refine ⟨fin _ hpl fun j x y hx hy=>?_,rfl,fun _=>rfl⟩
        rw[hx] at hy
        cases hy
        have hm:=Kc hx
        have hpx:=R.flat rfl x (KW (KB hm))
        exact ⟨hpx,(hwp x hm).1,(hwp x hm).2,fun us hus=>⟨hus.1,fun q z u hz hu=>(hus.2 q z u hz hu).bare hM (q4V hpx hz)⟩⟩
       ·rename_i hfl
        simp only[Kg] at hy
        obtain ⟨l,hl,rfl⟩:=hy
        refine ⟨fin l (by rw[q13 hl,hpl]) fun j x y hx hy=>?_,rfl,fun _=>rfl⟩
        have hm:=Kc hx
        have hfy:=q4G hl hx hy
        have hsub : ∀ q,q∈q0q H k x→q∈rs:=fun q hq=>hr q (by
         simp only[q0q,hrw,hfl,if_false,Km,KA,KR]
         exact .inr ⟨x,hm,hq⟩)
        -- the cells of x qqK somewhere
        have:=ihC x y
        obtain ⟨us0,h1,h2,h3⟩:=q4a (w:=w) (b:=(φ r).blk) (o:=(φ r).off+i * n'+j * n') (fun q z hz=>hpart j x q z hx hz)
        obtain ⟨h4,h5,h6,h7⟩:=ihC x y us0 h3 (hwp x hm).2 hfy hsub
        refine ⟨?_,by rw[h5]; exact (hwp x hm).1,h6,fun us hus=>(ihC x y us hus (hwp x hm).2 hfy hsub).1⟩
        exact qha (by omega) h7
     ·cases hy
    ·cases hy
  refine ⟨V,?_⟩
  intro x y us hus h1 hy hr
  have single:x.one=true→VRels fid M' [] φ y.cells us∧y.cells.length=x.cells.length∧y.cells.all AV.one=true∧AV.pureN (k+1) y=true:=fun h0=>by
   rw[qa8 h0] at hus ⊢
   cases us with
   | nil=>have:=hus.1; simp at this
   | cons u us=>
    have hnil:us=[]:=by have:=hus.1; simp at this; exact this
    subst hnil
    obtain ⟨h2,h3,h4⟩:=V x y u hus.head hy hr
    rw[qa8 (h4 h0)]
    exact ⟨VRels.cons h2 VRels.nil,rfl,by simp [h4 h0],h3⟩
  cases x with
  | agg cs=>
   simp only[frz,Kg] at hy
   obtain ⟨ds,hds,rfl⟩:=hy
   have hsub : ∀ x,x∈cs→∀ r,r∈q0q H k x→r∈rs:=fun x hx r hr'=>hr r (by
    show r∈cs.flatMap (q0q H k)
    exact KR.2 ⟨x,hx,hr'⟩)
   have hlen:=q13 hds
   have hcl:cs.length=us.length:=hus.1
   have key : ∀ (i:Nat) (y:AV),ds[i]?=some y→∃ u,us[i]?=some u∧VRel fid M' [] φ y u∧AV.pureN k y=true∧y.one=true:=fun i y hi=>by
    obtain ⟨x,h2,h3⟩:=q5f hds hi
    obtain ⟨u,h4,h5⟩:=q1i hus h2
    obtain ⟨h6,h7,h8⟩:=ihV x y u h5 h3 (hsub x (Kc h2))
    exact ⟨u,h4,h6,h7,h8 (Kp.1 h1 x (Kc h2))⟩
   refine ⟨⟨by show ds.length=us.length; omega,fun i y u hi hu=>?_⟩,hlen,Kp.2 fun y hy=>?_,Kp.2 fun y hy=>?_⟩
   ·obtain ⟨u',h4,h5,_⟩:=key i y hi
    rw[hu] at h4
    cases h4
    exact h5
   ·obtain ⟨i,hi,e⟩:=Vk.1 (show y∈ds from hy)
    obtain ⟨_,_,_,_,h6⟩:=key i y (by rw[Ki hi,e])
    exact h6
   ·obtain ⟨i,hi,e⟩:=Vk.1 (show y∈ds from hy)
    obtain ⟨_,_,_,h6,_⟩:=key i y (by rw[Ki hi,e])
    exact h6
  | dead=>exact absurd h1 (by simp [AV.cells,AV.one])
  | tup cs=>exact absurd h1 (by simp [AV.cells,AV.one])
  | _=>exact single rfl
end
end Ago
namespace Ago
open Go
variable {uT:Unit} [TabC uT]

section
variable {P:Program} {fid:FuncId→Option Nat} {pf:Nat→Bool} {M M' M2:Mem} {H H2:Heap} {φ:Nat→Loc} {B:Nat} {w w':World} {as:List AV} {v:AV}

theorem qg6 (hH:HRel fid M H φ B w) {ts:List AV} {us:List Value} (h:VRels fid M H φ as us) (hf:q1L (frz H 6) as=some ts) :
  VRels fid (q0t M H φ w (as.flatMap (q0q H 6))) [] φ ts us:=by
 have hV:=(qcs (M':=q0t M H φ w (as.flatMap (q0q H 6))) (rs:=as.flatMap (q0q H 6)) hH (fun b o u hm=>q1n hH hm) (fun r n els ro fl fam o u hr h1 h2 h3 h4=>q48 hr h1 h2 h3 h4) 6 (Kr _)).1
 refine ⟨by rw[q13 hf]; exact h.1,fun i y u hy hu=>?_⟩
 obtain ⟨x,h1,h2⟩:=q5f hf hy
 exact (hV x y u (h.2 i x u h1 hu) h2 (fun r hr=>KR.2 ⟨x,Kc h1,hr⟩)).1

theorem qgM {b:Blk} {c:Bool} {n:Nat} {els:List AV} {ro fl:Bool} {fam:Nat} (h:(if c then b.mark else b) = .row n els ro fl fam) : ∃ ro0,b = .row n els ro0 fl fam∧(ro0=true→ro=true)∧(c=true→ro=true):=by
 cases c with
 | false=>exact ⟨ro,h,id,fun h=>by cases h⟩
 | true=>
  simp only[if_true] at h
  cases b with
  | row n0 els0 ro0 fl0 fam0=>
   simp only[Blk.mark,Blk.row.injEq] at h
   obtain ⟨rfl,rfl,rfl,rfl,rfl⟩:=h
   exact ⟨ro0,rfl,fun _=>rfl,fun _=>rfl⟩
  | gone=>cases h
  | resv=>cases h
  | map es=>cases h
  | iter s p=>cases h

theorem qnl {b:Blk} {c:Bool} {es:List (AV × AV)} (h:(if c then b.mark else b) = .map es):b = .map es:=by
 cases c with
 | false=>exact h
 | true=>cases b<;>cases h<;>rfl

theorem qcg (H:Heap) (rs:List Nat) (φ:Nat→Loc):HLe H.length H (q1h H rs) φ φ:=by
 refine ⟨by rw[q2t]; exact Kr _,fun r b hr hb=>?_⟩
 rw[q16,hb]
 refine ⟨_,rfl,?_,fun hne=>⟨fun e=>?_,rfl⟩⟩
 ·split
  ·cases b<;>first | rfl | trivial | exact .inr ⟨_,_,_,_,rfl,rfl⟩ | exact .inr ⟨_,rfl⟩ | exact .inr ⟨_,_,rfl⟩
  ·exact b.le_refl
 ·split at e
  ·cases b<;>first | exact hne rfl | cases e
  ·exact hne e

theorem qc2 (hH:HRel fid M H φ B w) (hw:RowKit.Below w.heap.size w w') {rs:List Nat} (hM : ∀ b o u,q0t M H φ w rs b o=some u→M' b o=some u) (hnew : ∀ b o u,M' b o=some u→b<w.heap.size→q0t M H φ w rs b o=some u)
  (hcell : ∀ b o u,M' b o=some u→w'.cell? ⟨b,o,none⟩=some u):HRel fid M' (q1h H rs) φ B w':=by
 have hle:=qcg H rs φ
 have hMM : ∀ b o u,M b o=some u→M' b o=some u:=fun b o u h=>hM b o u (q1n hH h)
 have rows : ∀ (r n:Nat) (els:List AV) (ro fl:Bool) (fam:Nat),(q1h H rs)[r]?=some (Blk.row n els ro fl fam)→∃ ro0,H[r]?=some (.row n els ro0 fl fam)∧(ro0=true→ro=true)∧(r∈rs→ro=true):=fun r n els ro fl fam h=>by
  rw[q16,Kg] at h
  obtain ⟨b,h1,h2⟩:=h
  obtain ⟨ro0,h3,h4,h5⟩:=qgM h2
  subst h3
  exact ⟨ro0,h1,h4,fun h=>h5 (Vv.2 h)⟩
 have maps : ∀ (r:Nat) (es:List (AV × AV)),(q1h H rs)[r]?=some (Blk.map es)→H[r]?=some (Blk.map es):=fun r es h=>by
  rw[q16,Kg] at h
  obtain ⟨b,h1,h2⟩:=h
  rw[h1,qnl h2]
 have back : ∀ r n els ro fl fam,H[r]?=some (.row n els ro fl fam)→(ro=true∨r∈rs)→(q1h H rs)[r]?=some (.row n els true fl fam):=fun r n els ro fl fam h h1=>by
  rw[q16,h,KM]
  by_cases hc:rs.contains r=true
  ·rw[if_pos hc]; rfl
  ·rw[if_neg hc]
   rcases h1 with h1 | h1
   ·rw[h1]
   ·exact (hc (Vv.2 h1)).elim
 have blt : ∀ r n els ro fl fam,H[r]?=some (.row n els ro fl fam)→(φ r).blk<w.heap.size:=fun r n els ro fl fam hr=>by
  obtain ⟨c,t,fr,hc,_⟩:=(hH.row _ _ _ _ _ _ hr).cells
  exact q2s hc
 have mlt : ∀ (r:Nat) (es:List (AV × AV)),H[r]?=some (Blk.map es)→(φ r).blk<w.heap.size:=fun r es hr=>by
  obtain ⟨c,cl,hc,_⟩:=(hH.map _ _ hr).ents
  exact q2s hc
 refine ⟨hcell,fun r n els ro fl fam hr=>?_,fun r es hr=>?_,fun r r' n1 e1 o1 f1 a1 n2 e2 o2 f2 a2 hne h1 h2 hb=>?_,fun r r' es es' hne h1 h2=>?_,fun r n els ro fl fam hr o u hm=>?_,fun r es hr o=>?_,?_⟩
 ·obtain ⟨ro0,h1,_⟩:=rows _ _ _ _ _ _ hr
  exact (hH.row _ _ _ _ _ _ h1).mono hMM hle (hw.block _ (blt _ _ _ _ _ _ h1))
 ·have h1:=maps _ _ hr
  exact (hH.map _ _ h1).mono hMM hle (hw.block _ (mlt _ _ h1))
 ·obtain ⟨_,h3,_⟩:=rows _ _ _ _ _ _ h1
  obtain ⟨_,h4,_⟩:=rows _ _ _ _ _ _ h2
  exact hH.sepRR r r' _ _ _ _ _ _ _ _ _ _ hne h3 h4 hb
 ·exact hH.sepMM r r' _ _ hne (maps _ _ h1) (maps _ _ h2)
 ·obtain ⟨ro0,h1,_,_⟩:=rows _ _ _ _ _ _ hr
  have hf:=hnew _ _ _ hm (blt _ _ _ _ _ _ h1)
  unfold q0t at hf
  split at hf
  ·rename_i hc
   rcases hc with hc | ⟨r2,n2,els2,ro2,fl2,fam2,h2,h3,h4,h5,h6⟩
   ·obtain ⟨u0,hu0⟩:=K3.1 hc
    obtain ⟨r2,els2,fl2,h2,h3,h4⟩:=hH.ownR _ _ _ _ _ _ h1 o u0 hu0
    exact ⟨r2,els2,fl2,back _ _ _ _ _ _ h2 (.inl rfl),h3,h4⟩
   ·by_cases he:r=r2
    ·subst he
     rw[h1] at h3
     cases h3
     exact ⟨r,els,fl,back _ _ _ _ _ _ h1 (.inr h2),h4,h6⟩
    ·obtain ⟨h7,h8,h9⟩:=hH.sepRR r r2 _ _ _ _ _ _ _ _ _ _ he h1 h3 h4.symm
     subst h7
     subst h8
     exact ⟨r2,els2,fl2,back _ _ _ _ _ _ h3 (.inr h2),h4,by rw[h9]; exact h6⟩
  ·cases hf
 ·have h1:=maps _ _ hr
  cases hm:M' (φ r).blk o with
  | none=>rfl
  | some u=>
   have hf:=hnew _ _ _ hm (mlt _ _ h1)
   unfold q0t at hf
   split at hf
   ·rename_i hc
    rcases hc with hc | ⟨r2,n2,els2,ro2,fl2,fam2,h2,h3,h4,h5,h6⟩
    ·rw[hH.ownM _ _ h1] at hc; cases hc
    ·obtain ⟨c,t,fr,hc,_⟩:=(hH.row _ _ _ _ _ _ h3).cells
     obtain ⟨ces,cl,hm2,_⟩:=(hH.map _ _ h1).ents
     rw[h4,hm2] at hc
     cases hc
   ·cases hf
 ·refine hH.bl.keep id (fun r s p hr=>⟨?_,rfl⟩) (fun _ _ _ _ _ _ _ _ e=>e) (fun r n els ro fl fam hr=>?_) (fun b o v hm=>?_) fun r s p k hr hk=>hw.block k ((hH.bl.at_ _ _ _ hr).feet hk).2.1
  ·rw[q16,Kg] at hr
   obtain ⟨b,h1,h2⟩:=hr
   rw[id,h1]
   split at h2
   ·cases b<;>cases h2<;>rfl
   ·rw[h2]
  ·obtain ⟨ro0,h1,_⟩:=rows _ _ _ _ _ _ hr
   exact .inl ⟨r,_,_,_,_,_,h1,rfl⟩
  ·by_cases hb:b<w.heap.size
   ·have hf:=hnew _ _ _ hm hb
    unfold q0t at hf
    split at hf
    ·rename_i hc
     rcases hc with hc | ⟨r2,n2,els2,ro2,fl2,fam2,h2,h3,h4,h5,h6⟩
     ·exact .inl (K3.1 hc)
     ·exact .inr (.inr ⟨r2,_,_,_,_,_,h3,h4⟩)
    ·cases hf
   ·exact .inr (.inl (by omega))

theorem qfc (hH:HRel fid M H φ B w) (hw:RowKit.Below w.heap.size w w'):HRel fid M H φ B w':=hH.world fun b hb=>hw.block b hb
end
end Ago
