/- Heads of loops,step by step: what is reached,and its new numbers. -/
import Derived.Test.YtglenpfcanlbgaaGreatDoorMachE
import Derived.Test.YtglenpfcanlbgaaGreatDoorRunD
import Derived.Test.YtglenpfcanlbgaaGreatDoorRunG
set_option linter.unusedSimpArgs false
set_option linter.unusedVariables false
namespace Ago
theorem reach_one {H:Heap} {base k r:Nat} {todo seen:List Nat} {b:Blk} (h1:base≤r) (hs:r∉seen) (h2:H[r]?=some b):reach H base (k+1) (r::todo) seen=reach H base k (b.refs++todo) (seen++[r]):=by
 have hc:seen.contains r=false:=by
  cases hb:seen.contains r with
  | false=>rfl
  | true=>exact (hs (by simpa using hb)).elim
 rw[reach,if_neg (by omega),if_neg (by rw[hc]; simp),h2]
theorem reach_kids {H:Heap} {base:Nat} : ∀ (l:List Nat) (k:Nat) (todo seen:List Nat),(∀ r,r∈l→base≤r∧∃ b,H[r]?=some b∧b.refs=[])→l.Nodup→(∀ r,r∈l→r∉seen)→reach H base (k+l.length) (l++todo) seen=reach H base k todo (seen++l)
 | [],k,todo,seen,_,_,_=>by simp
 | r::l,k,todo,seen,h,hn,hs=>by
  obtain ⟨h1,b,h2,h3⟩:=h r (List.mem_cons_self ..)
  rw[List.length_cons,show k+(l.length+1)=(k+l.length)+1 by omega,List.cons_append]
  rw[reach_one h1 (hs r (List.mem_cons_self ..)) h2]
  simp only[h3,List.nil_append]
  rw[reach_kids l k todo (seen++[r]) (fun x hx=>h x (List.mem_cons_of_mem _ hx)) (List.nodup_cons.1 hn).2 fun x hx=>by
   rw[List.mem_append,List.mem_singleton]
   rintro (h5 | h5)
   ·exact hs x (List.mem_cons_of_mem _ hx) h5
   ·subst h5
    exact (List.nodup_cons.1 hn).1 hx]
  rw[List.append_assoc,List.singleton_append]
theorem reach_nil {H:Heap} {base k:Nat} {seen:List Nat}:reach H base (k+1) [] seen=seen:=(rfl)
theorem renOf_at {ks:List Nat} {i r:Nat} (hn:ks.Nodup) (h:ks[i]?=some r):renOf 0 ks r=some i:=by
 unfold renOf
 rw[if_neg (Nat.not_lt_zero r)]
 obtain ⟨hl,hv⟩:=List.getElem?_eq_some_iff.1 h
 have:ks.idxOf? r=some i:=by
  rw[List.idxOf?,List.findIdx?_eq_some_iff_getElem]
  refine ⟨hl,by simp [hv],fun j hj=>?_⟩
  have hjl:j<ks.length:=by omega
  intro he
  have he:ks[j]=r:=by simpa using he
  exact (List.pairwise_iff_getElem.1 hn j i hjl hl hj) (he.trans hv.symm)
 rw[this]
 simp
theorem strikeGo_same (r fam k:Nat) : ∀ (H:Heap) (i:Nat),(∀ j n els ro fl,H[j]?=some (.row n els ro fl fam)→i+j=r∨els.length<k)→strikeGo r fam k H i=some H
 | [],_,_=>rfl
 | b::H,i,h=>by
  have ih:=strikeGo_same r fam k H (i+1) fun j n els ro fl hj=>by
   have:=h (j+1) n els ro fl (by simpa using hj)
   omega
  unfold strikeGo
  rw[ih]
  cases b with
  | row n els ro fl fam'=>
   simp only
   rw[if_neg]
   rintro ⟨h1,h2,h3⟩
   subst h1
   have:=h 0 n els ro fl (by simp)
   omega
  | _=>rfl
theorem strike_same {H:Heap} {r fam k:Nat} (h : ∀ j n els ro fl,H[j]?=some (.row n els ro fl fam)→j=r∨els.length<k):H.strike r fam k=some H:=strikeGo_same r fam k H 0 fun j n els ro fl hj=>by
 have:=h j n els ro fl hj
 omega
def Own (H:Heap):Prop:=∀ (j:Nat) (b:Blk),H[j]?=some b→∃ n els fl,b=Blk.row n els false fl j
theorem Own.fresh {H:Heap} (h:Own H) {r fam k:Nat} (hf:H.length≤fam):H.strike r fam k=some H:=strike_same fun j n els ro fl hj=>by
 obtain ⟨_,_,_,e⟩:=h j _ hj
 cases e
 have:=(List.getElem?_eq_some_iff.1 hj).1
 omega
theorem Own.set {H:Heap} (h:Own H) {j n:Nat} {els:List AV} {fl:Bool}:Own (H.set j (.row n els false fl j)):=fun i b hb=>by
 rw[List.getElem?_set] at hb
 split at hb
 ·rename_i e
  subst e
  split at hb
  ·cases hb
   exact ⟨n,els,fl,rfl⟩
  ·cases hb
 ·exact h i b hb
theorem Own.add {H:Heap} (h:Own H) {n j:Nat} {els:List AV} {fl:Bool} (hj:j=H.length):Own (H++[.row n els false fl j]):=fun i b hb=>by
 by_cases hi:i<H.length
 ·rw[List.getElem?_append_left hi] at hb
  exact h i b hb
 ·rw[List.getElem?_append_right (by omega)] at hb
  have hi0:i-H.length=0:=by
   have:=(List.getElem?_eq_some_iff.1 hb).1
   simp at this
   omega
  rw[hi0] at hb
  cases hb
  exact ⟨n,els,fl,by rw[show i=j by omega]⟩
theorem gR {H l:Heap} {j:Nat}:(H++l)[H.length+j]?=l[j]?:=by
 rw[List.getElem?_append_right (by omega),Nat.add_sub_cancel_left]
theorem sR {H l:Heap} {j:Nat} {x:Blk}:(H++l).set (H.length+j) x=H++l.set j x:=by
 rw[List.set_append_right _ _ (by omega),Nat.add_sub_cancel_left]
theorem norm_to {live:List Nat} {tm tm':List AV} {Hp kept Hp':Heap} {ks:List Nat} {rb:Nat} (hr:reach Hp 0 4000 ((keepLive live 0 tm).flatMap (AV.refsN 6)) []=ks) (hk:(ks.map fun r=>Hp.getD r .gone)=kept) (hd:droppedGo ks Hp 0=[]) (hc:closedBy (renOf 0 ks) kept=true) (ht:(keepLive live 0 tm).map (AV.renN (renOf 0 ks) 6)=tm') (hh:kept.map (Blk.ren (renOf 0 ks) (famRen Hp 0 ks))=Hp'):St.norm live ⟨tm,Hp,0,rb⟩=⟨tm',Hp',0,0⟩:=by
 unfold St.norm St.normTm
 simp only[List.take_zero,List.flatMap_nil,List.append_nil,hr]
 unfold St.normBy
 simp only[List.take_zero,List.nil_append,List.drop_zero,hk,hd,hc,ht]
 simp only[roFit,roMark,Bool.and_self,normIf,hh]
theorem dropped_none (ks:List Nat) : ∀ (H:Heap) (j:Nat),(∀ b,b∈H→∀ n els fl fam,b ≠ .row n els true fl fam)→droppedGo ks H j=[]
 | [],_,_=>rfl
 | b::H,j,h=>by
  have ih:=dropped_none ks H (j+1) fun x hx=>h x (List.mem_cons_of_mem _ hx)
  cases b with
  | row n els ro fl fam=>
   cases ro with
   | true=>exact (h _ (List.mem_cons_self ..) n els fl fam rfl).elim
   | false=>exact ih
  | _=>exact ih
end Ago
set_option maxRecDepth 100000
set_option maxHeartbeats 4000000
namespace Ago
abbrev Ents:=List (List UInt8 × List (List UInt8))
def nilRef (b:Nat) (ss:List (List UInt8)):AV:=if ss=[] then .snil 1 else .sref 1 b 0 ss.length
def rowL (b:Nat) (ss:List (List UInt8)):Heap:=if ss=[] then [] else [.row 1 (ss.map .str) false true b]
def dR:Nat→Ents→Heap
 | _,[]=>[]
 | b,e::l=>rowL b e.2++dR (b+(rowL b e.2).length) l
def dE:Nat→Ents→List (AV × AV)
 | _,[]=>[]
 | b,e::l=>(.str e.1,nilRef b e.2)::dE (b+(rowL b e.2).length) l
theorem rowL_len (b c:Nat) (ss:List (List UInt8)):(rowL b ss).length=(rowL c ss).length:=by
 unfold rowL
 split<;>rfl
theorem dR_app : ∀ (b:Nat) (l:Ents) (e:List UInt8 × List (List UInt8)),dR b (l++[e])=dR b l++rowL (b+(dR b l).length) e.2
 | b,[],e=>by simp [dR]
 | b,x::l,e=>by
  simp only[List.cons_append,dR,List.append_assoc,List.length_append]
  rw[dR_app _ l e]
  simp only[Nat.add_assoc]
theorem dE_app : ∀ (b:Nat) (l:Ents) (e:List UInt8 × List (List UInt8)),dE b (l++[e])=dE b l++[(.str e.1,nilRef (b+(dR b l).length) e.2)]
 | b,[],e=>by simp [dE,dR]
 | b,x::l,e=>by
  simp only[List.cons_append,dE,dR,List.length_append]
  rw[dE_app _ l e]
  simp only[Nat.add_assoc]
theorem dR_len : ∀ (b:Nat) (l:Ents),(dR b l).length≤l.length
 | _,[]=>Nat.le_refl _
 | b,x::l=>by
  have:=dR_len (b+(rowL b x.2).length) l
  simp only[dR,List.length_append,List.length_cons]
  have:(rowL b x.2).length≤1:=by unfold rowL; split<;>simp
  omega
def refsE (es:List (AV × AV)):List Nat:=es.flatMap fun x=>AV.refsN 6 x.1++AV.refsN 6 x.2
theorem dE_refs : ∀ (b:Nat) (l:Ents),refsE (dE b l)=List.range' b (dR b l).length
 | _,[]=>rfl
 | b,x::l=>by
  have ih:=dE_refs (b+(rowL b x.2).length) l
  unfold refsE at ih ⊢
  simp only[dE,dR,List.flatMap_cons,List.length_append,ih]
  unfold nilRef rowL
  by_cases h:x.2=[]
  ·simp [h,AV.refsN]
  ·simp only[h,if_false,List.length_cons,List.length_nil,AV.refsN,List.nil_append]
   rw[show 0+1+(dR (b+(0+1)) l).length=(dR (b+(0+1)) l).length+1 by omega,List.range'_succ]
   simp
theorem dR_get : ∀ (b:Nat) (l:Ents) (i:Nat) (x:Blk),(dR b l)[i]?=some x→∃ els,x = .row 1 els false true (b+i)
 | _,[],_,_,h=>by simp [dR] at h
 | b,e::l,i,x,h=>by
  simp only[dR] at h
  by_cases he:e.2=[]
  ·have e0:rowL b e.2=[]:=by unfold rowL; rw[if_pos he]
   rw[e0] at h
   simpa using dR_get b l i x (by simpa using h)
  ·have e0:rowL b e.2=[.row 1 (e.2.map .str) false true b]:=by unfold rowL; rw[if_neg he]
   rw[e0] at h
   cases i with
   | zero=>
    simp at h
    exact ⟨_,h.symm⟩
   | succ i=>
    simp only[List.cons_append,List.nil_append,List.getElem?_cons_succ,List.length_cons,List.length_nil] at h
    obtain ⟨els,e2⟩:=dR_get (b+(0+1)) l i x h
    exact ⟨els,by rw[e2,show b+(0+1)+i=b+(i+1) by omega]⟩
theorem dE_find (k:List UInt8) : ∀ (l:Ents) (b i:Nat),((l.any fun e=>e.1 == k)=false→findKey (.one .str) (.str k) (dE b l) i=some none) ∧
  ((l.any fun e=>e.1 == k)=true→∃ j v e,l.find? (fun e=>e.1 == k)=some e∧findKey (.one .str) (.str k) (dE b l) i=some (some (i+j,v))∧((v = .snil 1∧e.2=[])∨∃ r,v = .sref 1 (b+r) 0 e.2.length∧(dR b l)[r]?=some (.row 1 (e.2.map .str) false true (b+r))∧e.2≠[]))
 | [],b,i=>⟨fun _=>rfl,fun h=>by simp at h⟩
 | x::l,b,i=>by
  obtain ⟨h1,h2⟩:=dE_find k l (b+(rowL b x.2).length) (i+1)
  by_cases he:x.1=k
  ·subst he
   refine ⟨fun h=>by simp at h,fun _=>⟨0,nilRef b x.2,x,by simp,by simp [dE,findKey,keyEq,cellEq],?_⟩⟩
   unfold nilRef dR rowL
   by_cases hx:x.2=[]
   ·left
    simp [hx]
   ·right
    refine ⟨0,?_,?_,hx⟩<;>simp [hx]
  ·have e1:(x.1 == k)=false:=by simpa using he
   have e2:(k == x.1)=false:=by simpa using fun e=>he e.symm
   have e:findKey (.one .str) (.str k) (dE b (x::l)) i=findKey (.one .str) (.str k) (dE (b+(rowL b x.2).length) l) (i+1):=by
    simp [dE,findKey,keyEq,cellEq,e2]
   rw[e,List.any_cons,e1,Bool.false_or]
   refine ⟨h1,fun h=>?_⟩
   obtain ⟨j,v,y,g1,g2,g3⟩:=h2 h
   refine ⟨j+1,v,y,by rw[List.find?_cons,e1]; exact g1,by rw[g2,show i+1+j=i+(j+1) by omega],?_⟩
   rcases g3 with g3 | ⟨r,g3,g4,g5⟩
   ·exact .inl g3
   ·refine .inr ⟨(rowL b x.2).length+r,by rw[g3,Nat.add_assoc],?_,g5⟩
    simp only[dR]
    rw[List.getElem?_append_right (by omega),Nat.add_sub_cancel_left,g4,Nat.add_assoc]
def renE (f:Nat→Option Nat) (es:List (AV × AV)):List (AV × AV):=es.map fun x=>(AV.renN f 6 x.1,AV.renN f 6 x.2)
theorem dE_ren {f:Nat→Option Nat} : ∀ (b d:Nat) (l:Ents),(∀ i,i<(dR b l).length→f (b+i)=some (d+i))→renE f (dE b l)=dE d l
 | _,_,[],_=>rfl
 | b,d,x::l,h=>by
  have ih:=dE_ren (f:=f) (b+(rowL b x.2).length) (d+(rowL d x.2).length) l fun i hi=>by
   have:=h ((rowL b x.2).length+i) (by simp only[dR,List.length_append]; omega)
   rw[Nat.add_assoc,this,rowL_len d b,Nat.add_assoc]
  unfold renE at ih ⊢
  simp only[dE,List.map_cons,ih]
  congr 1
  unfold nilRef
  by_cases hx:x.2=[]
  ·simp [hx,AV.renN]
  ·have h0:=h 0 (by simp only[dR,rowL,if_neg hx,List.length_append,List.length_cons,List.length_nil]; omega)
   simp only[Nat.add_zero] at h0
   simp [hx,AV.renN,h0]
theorem mid_get (A L E:Heap):(List.range' A.length L.length).map (fun r=>(A++L++E).getD r .gone)=L:=by
 apply List.ext_getElem?
 intro j
 rw[List.getElem?_map]
 by_cases hj:j<L.length
 ·rw[List.getElem?_range' hj,Option.map_some,List.getD_eq_getElem?_getD,List.getElem?_append_left (by simp; omega),List.getElem?_append_right (by omega)]
  have:A.length+1 * j-A.length=j:=by omega
  rw[this,List.getElem?_eq_getElem hj]
  rfl
 ·rw[List.getElem?_eq_none (by simpa using hj),List.getElem?_eq_none (by simpa using hj)]
  rfl
end Ago
set_option maxRecDepth 100000
set_option maxHeartbeats 4000000
namespace Ago
def OwnH (Hp:Heap):Prop:=∀ (j:Nat) (b:Blk),Hp[j]?=some b→(∃ n els,b = .row n els false true j)∨(∃ es,b = .map es)∨b = .gone
def renB (f:Nat→Option Nat) (i:Nat):Blk→Blk
 | .row n els ro fl _=>.row n els ro fl i
 | .map es=>.map (renE f es)
 | b=>b
def keptL (f:Nat→Option Nat):Nat→Heap→Heap
 | _,[]=>[]
 | i,b::l=>renB f i b::keptL f (i+1) l
theorem keptL_app (f:Nat→Option Nat) : ∀ (i:Nat) (a b:Heap),keptL f i (a++b)=keptL f i a++keptL f (i+a.length) b
 | i,[],b=>by simp [keptL]
 | i,x::a,b=>by
  simp only[List.cons_append,keptL,List.length_cons]
  rw[keptL_app f (i+1) a b,show i+1+a.length=i+(a.length+1) by omega]
theorem keptL_rows (f:Nat→Option Nat) : ∀ (b d:Nat) (l:Ents),keptL f d (dR b l)=dR d l
 | _,_,[]=>rfl
 | b,d,x::l=>by
  simp only[dR]
  rw[keptL_app,rowL_len b d,keptL_rows f _ (d+(rowL d x.2).length) l]
  congr 1
  unfold rowL
  split<;>rfl
theorem fam_at {Hp:Heap} (ho:OwnH Hp) {ks:List Nat} (hn:ks.Nodup) {i r n:Nat} {els:List AV} (h:ks[i]?=some r) (hb:Hp[r]?=some (.row n els false true r)):famRen Hp 0 ks r=i:=by
 unfold famRen
 rw[if_neg (Nat.not_lt_zero r),Nat.zero_add]
 obtain ⟨hl,hv⟩:=List.getElem?_eq_some_iff.1 h
 rw[List.findIdx_eq hl]
 refine ⟨?_,fun j hj=>?_⟩
 ·rw[hv,List.getD_eq_getElem?_getD,hb]
  simp [Blk.famOf]
 ·have hjl:j<ks.length:=by omega
  have hne:ks[j]≠r:=fun e=>List.pairwise_iff_getElem.1 hn j i hjl hl hj (e.trans hv.symm)
  cases hq:Hp[ks[j]]? with
  | none=>
   rw[List.getD_eq_getElem?_getD,hq]
   rfl
  | some b=>
   rw[List.getD_eq_getElem?_getD,hq]
   rcases ho _ _ hq with ⟨n2,e2,rfl⟩ | ⟨es,rfl⟩ | rfl
   ·simp [Blk.famOf,hne]
   ·rfl
   ·rfl
theorem ren_kept {Hp:Heap} (ho:OwnH Hp) {ks:List Nat} (hn:ks.Nodup) (hin : ∀ r,r∈ks→r<Hp.length) : ∀ (l:List Nat) (i:Nat),(∀ j r,l[j]?=some r→ks[i+j]?=some r)→(l.map fun r=>Hp.getD r .gone).map (Blk.ren (renOf 0 ks) (famRen Hp 0 ks))=keptL (renOf 0 ks) i (l.map fun r=>Hp.getD r .gone)
 | [],_,_=>rfl
 | r::l,i,h=>by
  have ih:=ren_kept ho hn hin l (i+1) fun j q hq=>by
   rw[show i+1+j=i+(j+1) by omega]
   exact h (j+1) q (by simpa using hq)
  have hr:ks[i]?=some r:=h 0 r rfl
  simp only[List.map_cons,keptL,ih]
  congr 1
  have hlt:=hin r (List.mem_of_getElem? hr)
  obtain ⟨b,hb⟩ : ∃ b,Hp[r]?=some b:=⟨_,List.getElem?_eq_getElem hlt⟩
  rw[List.getD_eq_getElem?_getD,hb,Option.getD_some]
  rcases ho _ _ hb with ⟨n2,e2,rfl⟩ | ⟨es,rfl⟩ | rfl
  ·simp only[Blk.ren,if_true,renB,fam_at ho hn hr hb]
  ·rfl
  ·rfl
theorem norm_own {live:List Nat} {tm tm':List AV} {Hp Hp' kept:Heap} {ks:List Nat} {rb:Nat} (ho:OwnH Hp) (hr:reach Hp 0 4000 ((keepLive live 0 tm).flatMap (AV.refsN 6)) []=ks) (hn:ks.Nodup) (hin : ∀ r,r∈ks→r<Hp.length) (hk:(ks.map fun r=>Hp.getD r .gone)=kept)
  (hc : ∀ b,b∈kept→∀ q,q∈b.refs→q∈ks) (ht:(keepLive live 0 tm).map (AV.renN (renOf 0 ks) 6)=tm') (hh:keptL (renOf 0 ks) 0 kept=Hp'):St.norm live ⟨tm,Hp,0,rb⟩=⟨tm',Hp',0,0⟩:=by
 refine norm_to hr hk (dropped_none ks Hp 0 fun b hb n els fl fam e=>?_) ?_ ht ?_
 ·obtain ⟨j,hj⟩:=List.getElem?_of_mem hb
  rcases ho _ _ hj with ⟨n2,e2,e3⟩ | ⟨es,e3⟩ | e3<;>rw[e3] at e<;>cases e
 ·unfold closedBy
  rw[List.all_eq_true]
  intro b hb
  rw[List.all_eq_true]
  intro q hq
  obtain ⟨i,hi⟩:=List.getElem?_of_mem (hc b hb q hq)
  rw[renOf_at hn hi]
  rfl
 ·rw[←hk,ren_kept ho hn hin ks 0 (fun j r h=>by rw[Nat.zero_add]; exact h),hk,hh]
theorem OwnH.nil:OwnH []:=fun j b h=>by simp at h
theorem OwnH.app {A B:Heap} (ha:OwnH A) (hb : ∀ (j:Nat) (b:Blk),B[j]?=some b→(∃ n els,b = .row n els false true (A.length+j))∨(∃ es,b = .map es)∨b = .gone):OwnH (A++B):=fun j b h=>by
 by_cases hj:j<A.length
 ·rw[List.getElem?_append_left hj] at h
  exact ha j b h
 ·rw[List.getElem?_append_right (by omega)] at h
  have:=hb _ _ h
  rw[show A.length+(j-A.length)=j by omega] at this
  exact this
theorem ownRows (b:Nat) (l:Ents) : ∀ (j:Nat) (x:Blk),(dR b l)[j]?=some x→(∃ n els,x = .row n els false true (b+j))∨(∃ es,x = .map es)∨x = .gone:=fun j x h=>by
 obtain ⟨els,e⟩:=dR_get b l j x h
 exact .inl ⟨1,els,e⟩
theorem reach_map {Hp:Heap} {k q b n:Nat} {todo seen:List Nat} {es:List (AV × AV)} (hq:q∉seen) (h:Hp[q]?=some (.map es)) (he:refsE es=List.range' b n) (hk : ∀ r,r∈List.range' b n→∃ x,Hp[r]?=some x∧x.refs=[]) (hs : ∀ r,r∈List.range' b n→r∉seen∧r≠q) :
  reach Hp 0 (k+n+1) (q::todo) seen=reach Hp 0 k todo (seen++q::List.range' b n):=by
 rw[reach_one (Nat.zero_le _) hq h]
 have:Blk.refs (.map es)=List.range' b n:=he
 rw[this]
 have:=reach_kids (H:=Hp) (base:=0) (List.range' b n) k todo (seen++[q]) (fun r hr=>⟨Nat.zero_le _,hk r hr⟩) (List.nodup_range') (fun r hr hm=>by
  rcases List.mem_append.1 hm with hm | hm
  ·exact (hs r hr).1 hm
  ·exact (hs r hr).2 (List.mem_singleton.1 hm))
 rw[List.length_range'] at this
 rw[this,List.append_assoc,List.singleton_append]
end Ago
set_option maxRecDepth 100000
set_option maxHeartbeats 8000000
namespace Ago
open Go (IntKind)
section
variable {R:Nat→List AV→Heap→AV→Heap→Prop} {PR:Nat→List AV→AV→Prop}
theorem drawTwo {k:Nat} {a b:List AOper} {Q:Ex→St→Prop} {s:St} (s':St) (h1 : @withStI (s.keep k) ⟨awOps R PR a fun t=>t=s'⟩) (h2 : @withStI (s.keep k) ⟨awOps R PR b fun t=>t=s'⟩) (h : @withStI { s' with rb:=0 } ⟨Q .normal⟩):aw R PR (.draw k [a,b]) Q s:=by
 unfold withStI at h1 h2 h
 refine ⟨s',by simp,fun l hl=>?_,h⟩
 rcases List.mem_cons.1 hl with rfl | hl
 ·exact h1
 ·rw[List.mem_singleton.1 hl]
  exact h2
end
def entStep (es:Ents) (d:List UInt8 × Sch):Ents:=if (es.any fun e=>e.1 == d.1)=true then es else es++[(d.1,refsM true 48 d.2)]
def entM (l:List (List UInt8 × Sch)):Ents:=l.foldl entStep []
theorem entM_step {l:List (List UInt8 × Sch)} {k:Nat} {d:List UInt8 × Sch} (h:l[k]?=some d):entM (l.take (k+1))=entStep (entM (l.take k)) d:=fold_snoc entStep [] h
theorem entM_len : ∀ (l:List (List UInt8 × Sch)) (es:Ents),(l.foldl entStep es).length≤es.length+l.length
 | [],es=>by simp
 | d::l,es=>by
  have h1:=entM_len l (entStep es d)
  have h2:(entStep es d).length≤es.length+1:=by
   unfold entStep
   split
   ·omega
   ·simp
  simp only[List.foldl_cons,List.length_cons]
  omega
theorem entM_find (n:List UInt8) : ∀ (l:List (List UInt8 × Sch)) (es:Ents),(l.foldl entStep es).find? (fun e=>e.1 == n)=(es.find? fun e=>e.1 == n).or ((l.find? fun d=>d.1 == n).map fun d=>(d.1,refsM true 48 d.2))
 | [],es=>by simp
 | d::l,es=>by
  rw[List.foldl_cons,entM_find n l]
  unfold entStep
  by_cases hd:(es.any fun e=>e.1 == d.1)=true
  ·rw[if_pos hd]
   by_cases hn:d.1=n
   ·subst hn
    obtain ⟨e,h1,h2⟩:=List.any_eq_true.1 hd
    have:(es.find? fun e=>e.1 == d.1).isSome=true:=by
     rw[List.find?_isSome]
     exact ⟨e,h1,h2⟩
    cases hq:es.find? (fun e=>e.1 == d.1) with
    | none=>rw[hq] at this; cases this
    | some q=>simp
   ·have e1:(d.1 == n)=false:=by simpa using hn
    rw[List.find?_cons,e1]
  ·rw[if_neg hd,List.find?_append]
   by_cases hn:d.1=n
   ·subst hn
    simp
   ·have e1:(d.1 == n)=false:=by simpa using hn
    rw[List.find?_cons,e1]
    simp [e1]
def dirA (s:Schs) (l:Ents):Heap:=.row 16 [encSchs s] false true 0 :: .map (dE 2 l)::dR 2 l
theorem dirA_own (s:Schs) (l:Ents):OwnH (dirA s l):=by
 have:dirA s l=[.row 16 [encSchs s] false true 0,.map (dE 2 l)]++dR 2 l:=rfl
 rw[this]
 refine OwnH.app (fun j b h=>?_) (ownRows 2 l)
 cases j with
 | zero=>
  cases h
  exact .inl ⟨_,_,rfl⟩
 | succ j=>
  cases j with
  | zero=>
   cases h
   exact .inr (.inl ⟨_,rfl⟩)
  | succ j=>simp at h
theorem OwnH.fb {H:Heap} (h:OwnH H):Fb H:=fun j n els ro fl f hj=>by
 have hl:=(List.getElem?_eq_some_iff.1 hj).1
 rcases h j _ hj with ⟨n2,e2,e⟩ | ⟨es,e⟩ | e<;>cases e
 exact hl
theorem dE_low {b m:Nat} {l:Ents} (h:b+(dR b l).length≤m) : ∀ r,r∈refsE (dE b l)→r<m:=fun r hr=>by
 rw[dE_refs,List.mem_range'_1] at hr
 omega
theorem cl_own {H:Heap} (ho:OwnH H) (hm : ∀ es,Blk.map es∈H→(∀ r,r∈refsE es→r<H.length)∧∀ f:Nat→Option Nat,(∀ r,r<H.length→f r=some r)→renE f es=es):Cl H:=by
 refine ⟨fun b hb r hr=>?_,fun b hb f g hf hg=>?_⟩
 ·obtain ⟨j,hj⟩:=List.getElem?_of_mem hb
  rcases ho j b hj with ⟨n,els,rfl⟩ | ⟨es,rfl⟩ | rfl
  ·simp [Blk.refs] at hr
  ·exact (hm es hb).1 r hr
  ·simp [Blk.refs] at hr
 ·obtain ⟨j,hj⟩:=List.getElem?_of_mem hb
  have hl:=(List.getElem?_eq_some_iff.1 hj).1
  rcases ho j b hj with ⟨n,els,rfl⟩ | ⟨es,rfl⟩ | rfl
  ·simp [Blk.ren,hg j hl]
  ·have:=(hm es hb).2 f hf
   simp only[Blk.ren]
   exact congrArg Blk.map this
  ·rfl
theorem map_mem_rows {b:Nat} {l:Ents} {es:List (AV × AV)} (h:Blk.map es∈dR b l):False:=by
 obtain ⟨j,hj⟩:=List.getElem?_of_mem h
 obtain ⟨els,e⟩:=dR_get b l j _ hj
 cases e
theorem dirA_cl (s:Schs) (l:Ents):Cl (dirA s l):=cl_own (dirA_own s l) fun es h=>by
 have hlen:(dirA s l).length=2+(dR 2 l).length:=by simp [dirA]; omega
 unfold dirA at h
 rcases List.mem_cons.1 h with h | h
 ·cases h
 ·rcases List.mem_cons.1 h with h | h
  ·cases h
   rw[hlen]
   exact ⟨dE_low (Nat.le_refl _),fun f hf=>dE_ren 2 2 l fun i hi=>hf _ (by omega)⟩
  ·exact (map_mem_rows h).elim
theorem range_mem {b n r:Nat}:r∈List.range' b n↔b≤r∧r<b+n:=List.mem_range'_1
theorem normA {live:List Nat} {tm tm':List AV} {A D:Blk} {es es':List (AV × AV)} {l:Ents} {m:Nat} {eA eD:List AV} {N N':Heap} {ks2:List Nat} {rb:Nat} (hA:A = .row 16 eA false true 0) (hm:(dR 2 l).length=m) (hml:m≤1000) (hD:D = .row 16 eD false true (2+m))
  (hN:(N=[]∧ks2=[]∧N'=[])∨∃ els,N=[.row 1 els false true (2+m+1)]∧ks2=[2+m+1]∧N'=[.row 1 els false true (2+m)])
  (he:refsE es=List.range' 2 m++ks2) (hL:(keepLive live 0 tm).flatMap (AV.refsN 6)=[0,1])
  (ht : ∀ f:Nat→Option Nat,f 0=some 0→f 1=some 1→(keepLive live 0 tm).map (AV.renN f 6)=tm')
  (hes : ∀ f:Nat→Option Nat,(∀ r,r<2+m→f r=some r)→(ks2≠[]→f (2+m+1)=some (2+m))→renE f es=es') :
  St.norm live ⟨tm,A :: .map es::(dR 2 l++D::N),0,rb⟩=⟨tm',A :: .map es'::(dR 2 l++N'),0,0⟩:=by
 subst hA hD
 obtain ⟨Hp,hHp⟩ : ∃ Hp,(Blk.row 16 eA false true 0 :: .map es::(dR 2 l ++ .row 16 eD false true (2+m)::N))=Hp:=⟨_,rfl⟩
 have hsp:Hp=[.row 16 eA false true 0,.map es]++dR 2 l++(.row 16 eD false true (2+m)::N):=by rw[←hHp]; rfl
 have hlen:Hp.length=2+m+1+N.length:=by rw[hsp]; simp [hm]; omega
 have hg0:Hp[0]?=some (.row 16 eA false true 0):=by rw[←hHp]; rfl
 have hg1:Hp[1]?=some (.map es):=by rw[←hHp]; rfl
 have hgr : ∀ r,2≤r→r<2+m→∃ els,Hp[r]?=some (.row 1 els false true r):=fun r h1 h2=>by
  obtain ⟨x,hx⟩ : ∃ x,(dR 2 l)[r-2]?=some x:=get_some (by omega)
  obtain ⟨els,e⟩:=dR_get 2 l _ x hx
  refine ⟨els,?_⟩
  rw[hsp,List.getElem?_append_left (by simp; omega),List.getElem?_append_right (by simp; omega)]
  show (dR 2 l)[r-2]?=_
  rw[hx,e,show 2+(r-2)=r by omega]
 have hgn : ∀ els,N=[.row 1 els false true (2+m+1)]→Hp[2+m+1]?=some (.row 1 els false true (2+m+1)):=fun els h=>by
  rw[hsp,h,List.getElem?_append_right (by simp [hm]; omega)]
  have:2+m+1-([Blk.row 16 eA false true 0,.map es]++dR 2 l).length=1:=by simp [hm]; omega
  rw[this]
  rfl
 have hown:OwnH Hp:=by
  rw[hsp]
  refine OwnH.app (OwnH.app (fun j b h=>?_) (ownRows 2 l)) fun j b h=>?_
  ·cases j with
   | zero=>cases h; exact .inl ⟨_,_,rfl⟩
   | succ j=>
    cases j with
    | zero=>cases h; exact .inr (.inl ⟨_,rfl⟩)
    | succ j=>simp at h
  ·have hl2:([Blk.row 16 eA false true 0,.map es]++dR 2 l).length=2+m:=by simp [hm]; omega
   rw[hl2]
   cases j with
   | zero=>cases h; exact .inl ⟨_,_,rfl⟩
   | succ j=>
    rcases hN with ⟨rfl,_,_⟩ | ⟨els,rfl,_,_⟩
    ·simp at h
    ·cases j with
     | zero=>cases h; exact .inl ⟨_,_,rfl⟩
     | succ j=>simp at h
 have hks:ks2.length≤1∧∀ r,r∈ks2→r=2+m+1∧∃ els,Hp[r]?=some (.row 1 els false true r):=by
  rcases hN with ⟨_,rfl,_⟩ | ⟨els,h1,rfl,_⟩
  ·exact ⟨by simp,fun r h=>by cases h⟩
  ·refine ⟨by simp,fun r h=>?_⟩
   rw[List.mem_singleton.1 h]
   exact ⟨rfl,els,hgn els h1⟩
 have hnk:ks2.Nodup:=by
  rcases hN with ⟨_,rfl,_⟩ | ⟨els,_,rfl,_⟩<;>simp
 rw[hHp]
 have hreach:reach Hp 0 4000 [0,1] []=0::1::(List.range' 2 m++ks2):=by
  have e1:(4000:Nat)=(3998-(m+ks2.length)+(List.range' 2 m++ks2).length+1)+1:=by
   rw[List.length_append,List.length_range']
   omega
  rw[e1,reach_one (Nat.zero_le _) (by simp) hg0]
  have r0:(Blk.row 16 eA false true 0).refs=[]:=rfl
  rw[r0,List.nil_append,List.nil_append,reach_one (Nat.zero_le _) (by simp) hg1]
  have r1:(Blk.map es).refs=List.range' 2 m++ks2:=he
  rw[r1]
  have:=reach_kids (H:=Hp) (base:=0) (List.range' 2 m++ks2) (3998-(m+ks2.length)) [] ([0]++[1]) (fun r hr=>⟨Nat.zero_le _,by
   rcases List.mem_append.1 hr with hr | hr
   ·obtain ⟨h1,h2⟩:=range_mem.1 hr
    obtain ⟨els,e⟩:=hgr r h1 h2
    exact ⟨_,e,rfl⟩
   ·obtain ⟨_,els,e⟩:=hks.2 r hr
    exact ⟨_,e,rfl⟩⟩) (List.nodup_append.2 ⟨List.nodup_range',hnk,fun a ha b hb hab=>by
     have:=range_mem.1 ha
     have:=(hks.2 b hb).1
     omega⟩) (fun r hr=>by
    rcases List.mem_append.1 hr with hr | hr
    ·have:=range_mem.1 hr
     simp
     omega
    ·have:=(hks.2 r hr).1
     simp
     omega)
  rw[this]
  have e3:3998-(m+ks2.length)=(3997-(m+ks2.length))+1:=by omega
  rw[e3,reach_nil]
  rfl
 have hnd:(0::1::(List.range' 2 m++ks2)).Nodup:=by
  refine List.nodup_cons.2 ⟨?_,List.nodup_cons.2 ⟨?_,List.nodup_append.2 ⟨List.nodup_range',hnk,fun a ha b hb hab=>by
   have:=range_mem.1 ha
   have:=(hks.2 b hb).1
   omega⟩⟩⟩
  ·intro h
   rcases List.mem_cons.1 h with h | h
   ·omega
   ·rcases List.mem_append.1 h with h | h
    ·have:=range_mem.1 h; omega
    ·have:=(hks.2 _ h).1; omega
  ·intro h
   rcases List.mem_append.1 h with h | h
   ·have:=range_mem.1 h; omega
   ·have:=(hks.2 _ h).1; omega
 have hf : ∀ r,r<2+m→renOf 0 (0::1::(List.range' 2 m++ks2)) r=some r:=fun r hr=>by
  refine renOf_at hnd ?_
  match r with
  | 0=>rfl
  | 1=>rfl
  | r+2=>
   rw[List.getElem?_cons_succ,List.getElem?_cons_succ,List.getElem?_append_left (by simp; omega),List.getElem?_range' (by omega)]
   congr 1
   omega
 have hf2:ks2≠[]→renOf 0 (0::1::(List.range' 2 m++ks2)) (2+m+1)=some (2+m):=fun hne=>by
  rcases hN with ⟨_,rfl,_⟩ | ⟨els,_,rfl,_⟩
  ·exact (hne rfl).elim
  ·refine renOf_at hnd ?_
   rw[show 2+m=m+1+1 by omega,List.getElem?_cons_succ,List.getElem?_cons_succ,List.getElem?_append_right (by simp)]
   simp
 refine norm_own (kept:=.row 16 eA false true 0 :: .map es::(dR 2 l++(ks2.map fun r=>Hp.getD r .gone))) hown (by rw[hL]; exact hreach) hnd (fun r hr=>?_) ?_ (fun b hb q hq=>?_) (ht _ (hf 0 (by omega)) (hf 1 (by omega))) ?_
 ·rcases List.mem_cons.1 hr with rfl | hr
  ·omega
  ·rcases List.mem_cons.1 hr with rfl | hr
   ·omega
   ·rcases List.mem_append.1 hr with hr | hr
    ·have:=range_mem.1 hr; omega
    ·obtain ⟨_,els,e⟩:=hks.2 r hr
     exact (List.getElem?_eq_some_iff.1 e).1
 ·simp only[List.map_cons,List.map_append]
  have m1:(List.range' 2 m).map (fun r=>Hp.getD r .gone)=dR 2 l:=by
   have:=mid_get [.row 16 eA false true 0,.map es] (dR 2 l) (.row 16 eD false true (2+m)::N)
   rw[←hsp,hm] at this
   exact this
  rw[m1]
  simp only[List.getD_eq_getElem?_getD,hg0,hg1,Option.getD_some]
 ·rcases List.mem_cons.1 hb with rfl | hb
  ·simp [Blk.refs] at hq
  ·rcases List.mem_cons.1 hb with rfl | hb
   ·have hq:q∈refsE es:=hq
    rw[he] at hq
    exact List.mem_cons_of_mem _ (List.mem_cons_of_mem _ hq)
   ·rcases List.mem_append.1 hb with hb | hb
    ·obtain ⟨j,hj⟩:=List.getElem?_of_mem hb
     obtain ⟨els,e⟩:=dR_get 2 l j b hj
     rw[e] at hq
     simp [Blk.refs] at hq
    ·obtain ⟨r,hr,rfl⟩:=List.mem_map.1 hb
     obtain ⟨_,els,e⟩:=hks.2 r hr
     rw[List.getD_eq_getElem?_getD,e] at hq
     simp [Blk.refs] at hq
 ·simp only[keptL,renB]
  rw[keptL_app,keptL_rows _ 2 2 l,hes _ hf hf2,hm]
  congr 3
  rcases hN with ⟨_,rfl,rfl⟩ | ⟨els,h1,rfl,rfl⟩
  ·rfl
  ·simp only[List.map_cons,List.map_nil,List.getD_eq_getElem?_getD,hgn els h1,Option.getD_some,keptL,renB]
end Ago
set_option maxRecDepth 100000
set_option maxHeartbeats 8000000
namespace Ago
open Go (IntKind)
theorem congr2 {α β γ:Type} (f:α→β→γ) {a a':α} {b b':β} (h:a=a') (h2:b=b'):f a b=f a' b':=by rw[h,h2]
theorem tempsA (f:Nat→Option Nat) (h0:f 0=some 0) (h1:f 1=some 1) (L:List AV) (x y:Int):(slots 79 [(1,.ptr 16 0 0 0),(4,.mref 1),(16,.tsl 16 L),(17,.int .i64 x),(18,.int .i64 y)]).map (AV.renN f 6)=slots 79 [(1,.ptr 16 0 0 0),(4,.mref 1),(16,.tsl 16 L),(17,.int .i64 x),(18,.int .i64 y)]:=by
 simp [slots,AV.renN,h0,h1,List.replicate_succ]
def dirH (l:Ents):Heap:=.map (dE 1 l)::dR 1 l
theorem dirH_own (l:Ents):OwnH (dirH l):=by
 have:dirH l=[.map (dE 1 l)]++dR 1 l:=rfl
 rw[this]
 refine OwnH.app (fun j b h=>?_) (ownRows 1 l)
 cases j with
 | zero=>
  cases h
  exact .inr (.inl ⟨_,rfl⟩)
 | succ j=>simp at h
theorem dirH_len (l:Ents):(dirH l).length=1+(dR 1 l).length:=by simp [dirH]; omega
theorem normB {live:List Nat} {tm tm':List AV} {s:Schs} {l:Ents} {rb:Nat} (hml:l.length≤1000) (hL:(keepLive live 0 tm).flatMap (AV.refsN 6)=[1]) (ht : ∀ f:Nat→Option Nat,f 1=some 0→(keepLive live 0 tm).map (AV.renN f 6)=tm'):St.norm live ⟨tm,dirA s l,0,rb⟩=⟨tm',dirH l,0,0⟩:=by
 obtain ⟨m,hm⟩ : ∃ m,(dR 2 l).length=m:=⟨_,rfl⟩
 have hm2:=dR_len 2 l
 have hg1:(dirA s l)[1]?=some (.map (dE 2 l)):=rfl
 have hgr : ∀ r,r∈List.range' 2 m→∃ x,(dirA s l)[r]?=some x∧x.refs=[]:=fun r hr=>by
  obtain ⟨h1,h2⟩:=range_mem.1 hr
  obtain ⟨x,hx⟩ : ∃ x,(dR 2 l)[r-2]?=some x:=get_some (by omega)
  obtain ⟨els,e⟩:=dR_get 2 l _ x hx
  refine ⟨x,?_,by rw[e]; rfl⟩
  have:dirA s l=[.row 16 [encSchs s] false true 0,.map (dE 2 l)]++dR 2 l:=rfl
  rw[this,List.getElem?_append_right (by simp; omega)]
  exact hx
 have hlen:(dirA s l).length=2+m:=by simp [dirA,hm]; omega
 have hnd:(1::List.range' 2 m).Nodup:=List.nodup_cons.2 ⟨fun h=>by have:=range_mem.1 h; omega,List.nodup_range'⟩
 have hf : ∀ i,i<m→renOf 0 (1::List.range' 2 m) (2+i)=some (1+i):=fun i hi=>by
  refine renOf_at hnd ?_
  rw[show 1+i=i+1 by omega,List.getElem?_cons_succ,List.getElem?_range' hi]
  congr 1
  omega
 have hf1:renOf 0 (1::List.range' 2 m) 1=some 0:=renOf_at hnd rfl
 refine norm_own (kept:=.map (dE 2 l)::dR 2 l) (dirA_own s l) ?_ hnd (fun r hr=>?_) ?_ (fun b hb q hq=>?_) (ht _ hf1) ?_
 ·rw[hL,show (4000:Nat)=(3999-m)+m+1 by omega,reach_map (n:=m) (by simp) hg1 (by rw[dE_refs,hm]) hgr (fun r hr=>⟨by simp,by have:=range_mem.1 hr; omega⟩),show 3999-m=(3998-m)+1 by omega,reach_nil]
  rfl
 ·rcases List.mem_cons.1 hr with rfl | hr
  ·omega
  ·have:=range_mem.1 hr
   omega
 ·have:=mid_get [.row 16 [encSchs s] false true 0,.map (dE 2 l)] (dR 2 l) []
  rw[List.append_nil,hm] at this
  simp only[List.map_cons]
  exact congr2 List.cons rfl this
 ·rcases List.mem_cons.1 hb with rfl | hb
  ·have hq:q∈refsE (dE 2 l):=hq
   rw[dE_refs,hm] at hq
   exact List.mem_cons_of_mem _ hq
  ·obtain ⟨j,hj⟩:=List.getElem?_of_mem hb
   obtain ⟨els,e⟩:=dR_get 2 l j b hj
   rw[e] at hq
   simp [Blk.refs] at hq
 ·simp only[keptL,renB,Nat.zero_add]
  rw[keptL_rows _ 2 1 l,dE_ren 2 1 l fun i hi=>hf i (by omega)]
  rfl
end Ago
set_option maxRecDepth 100000
set_option maxHeartbeats 8000000
namespace Ago
open Go (IntKind)
theorem normD {live:List Nat} {tm tm':List AV} {E E':Heap} {l:Ents} {ks2:List Nat} {rb p:Nat} (hp:p=(dirH l).length) (hml:l.length≤1000) (hE : ∀ (j:Nat) (b:Blk),E[j]?=some b→(∃ n els,b = .row n els false true (p+j))∨(∃ es,b = .map es)∨b = .gone)
  (hr : ∀ r,r∈ks2→p≤r∧∃ b,E[r-p]?=some b∧b.refs=[]) (hnd:ks2.Nodup) (hkl:ks2.length≤10) (hL:(keepLive live 0 tm).flatMap (AV.refsN 6)=0::ks2)
  (ht : ∀ f:Nat→Option Nat,f 0=some 0→(∀ i r,ks2[i]?=some r→f r=some (p+i))→(keepLive live 0 tm).map (AV.renN f 6)=tm') (hK : ∀ f:Nat→Option Nat,keptL f p (ks2.map fun r=>E.getD (r-p) .gone)=E') :
  St.norm live ⟨tm,dirH l++E,0,rb⟩=⟨tm',dirH l++E',0,0⟩:=by
 obtain ⟨m,hm⟩ : ∃ m,(dR 1 l).length=m:=⟨_,rfl⟩
 have hpl:(dirH l).length=1+m:=by rw[dirH_len,hm]
 have hm2:=dR_len 1 l
 have hp2:p=1+m:=by rw[hp,hpl]
 have hown:OwnH (dirH l++E):=OwnH.app (dirH_own l) fun j b h=>by rw[←hp]; exact hE j b h
 have hg0:(dirH l++E)[0]?=some (.map (dE 1 l)):=rfl
 have hgr : ∀ r,r∈List.range' 1 m→∃ els,(dirH l++E)[r]?=some (.row 1 els false true r):=fun r hr=>by
  obtain ⟨h1,h2⟩:=range_mem.1 hr
  obtain ⟨x,hx⟩ : ∃ x,(dR 1 l)[r-1]?=some x:=get_some (by omega)
  obtain ⟨els,e⟩:=dR_get 1 l _ x hx
  refine ⟨els,?_⟩
  rw[List.getElem?_append_left (by omega)]
  have:dirH l=[.map (dE 1 l)]++dR 1 l:=rfl
  rw[this,List.getElem?_append_right (by simp; omega)]
  show (dR 1 l)[r-1]?=_
  rw[hx,e,show 1+(r-1)=r by omega]
 have hg2 : ∀ r,r∈ks2→∃ b,(dirH l++E)[r]?=some b∧b.refs=[]∧(dirH l++E).getD r .gone=E.getD (r-p) .gone:=fun r h=>by
  obtain ⟨h1,b,h2,h3⟩:=hr r h
  have e:(dirH l++E)[r]?=E[r-p]?:=by rw[List.getElem?_append_right (by omega),←hp]
  refine ⟨b,by rw[e,h2],h3,?_⟩
  rw[List.getD_eq_getElem?_getD,List.getD_eq_getElem?_getD,e]
 have hlt : ∀ r,r∈ks2→r<(dirH l++E).length:=fun r h=>by
  obtain ⟨b,h1,_⟩:=hg2 r h
  exact (List.getElem?_eq_some_iff.1 h1).1
 have hdj : ∀ a,a∈List.range' 1 m→∀ b,b∈ks2→a≠b:=fun a ha b hb hab=>by
  have:=range_mem.1 ha
  have:=(hr b hb).1
  omega
 have hnd2:(0::(List.range' 1 m++ks2)).Nodup:=List.nodup_cons.2 ⟨fun h=>by
  rcases List.mem_append.1 h with h | h
  ·have:=range_mem.1 h; omega
  ·have:=(hr 0 h).1; omega,List.nodup_append.2 ⟨List.nodup_range',hnd,hdj⟩⟩
 have hf : ∀ r,r<1+m→renOf 0 (0::(List.range' 1 m++ks2)) r=some r:=fun r hr=>by
  refine renOf_at hnd2 ?_
  match r with
  | 0=>rfl
  | r+1=>
   rw[List.getElem?_cons_succ,List.getElem?_append_left (by simp; omega),List.getElem?_range' (by omega)]
   congr 1
   omega
 have hf2 : ∀ i r,ks2[i]?=some r→renOf 0 (0::(List.range' 1 m++ks2)) r=some (p+i):=fun i r h=>by
  refine renOf_at hnd2 ?_
  rw[hp2,show 1+m+i=(m+i)+1 by omega,List.getElem?_cons_succ,List.getElem?_append_right (by simp)]
  simpa using h
 refine norm_own (kept:=.map (dE 1 l)::(dR 1 l++ks2.map fun r=>E.getD (r-p) .gone)) hown ?_ hnd2 (fun r hr=>?_) ?_ (fun b hb q hq=>?_) (ht _ (hf 0 (by omega)) hf2) ?_
 ·rw[hL,show (4000:Nat)=(3999-m)+m+1 by omega,reach_map (n:=m) (by simp) hg0 (by rw[dE_refs,hm]) (fun r hr=>by obtain ⟨els,e⟩:=hgr r hr; exact ⟨_,e,rfl⟩) (fun r hr=>⟨by simp,by have:=range_mem.1 hr; omega⟩)]
  have:=reach_kids (H:=dirH l++E) (base:=0) ks2 (3999-m-ks2.length) [] ([]++0::List.range' 1 m) (fun r h=>⟨Nat.zero_le _,by obtain ⟨b,h1,h2,_⟩:=hg2 r h; exact ⟨b,h1,h2⟩⟩) hnd (fun r h hm=>by
   rw[List.nil_append] at hm
   rcases List.mem_cons.1 hm with hm | hm
   ·have:=(hr r h).1; omega
   ·exact hdj r hm r h rfl)
  rw[List.append_nil,show 3999-m-ks2.length+ks2.length=3999-m by omega] at this
  rw[this,show 3999-m-ks2.length=(3998-m-ks2.length)+1 by omega,reach_nil]
  rfl
 ·rcases List.mem_cons.1 hr with rfl | hr
  ·rw[List.length_append]; omega
  ·rcases List.mem_append.1 hr with hr | hr
   ·have:=range_mem.1 hr
    rw[List.length_append]; omega
   ·exact hlt r hr
 ·simp only[List.map_cons,List.map_append]
  have m1:(List.range' 1 m).map (fun r=>(dirH l++E).getD r .gone)=dR 1 l:=by
   have:=mid_get [.map (dE 1 l)] (dR 1 l) E
   rw[hm] at this
   exact this
  rw[m1,List.map_congr_left (fun r h=>by obtain ⟨b,_,_,h3⟩:=hg2 r h; exact h3)]
  rfl
 ·rcases List.mem_cons.1 hb with rfl | hb
  ·have hq:q∈refsE (dE 1 l):=hq
   rw[dE_refs,hm] at hq
   exact List.mem_cons_of_mem _ (List.mem_append.2 (.inl hq))
  ·rcases List.mem_append.1 hb with hb | hb
   ·obtain ⟨j,hj⟩:=List.getElem?_of_mem hb
    obtain ⟨els,e⟩:=dR_get 1 l j b hj
    rw[e] at hq
    simp [Blk.refs] at hq
   ·obtain ⟨r,h,rfl⟩:=List.mem_map.1 hb
    obtain ⟨b,h1,h2,h3⟩:=hg2 r h
    rw[←h3,List.getD_eq_getElem?_getD,h1,Option.getD_some,h2] at hq
    cases hq
 ·simp only[keptL,renB,Nat.zero_add]
  rw[keptL_app,keptL_rows _ 1 1 l,dE_ren 1 1 l fun i hi=>hf _ (by omega),hm,←hp2,hK]
  rfl
abbrev SnL:=List (List UInt8 × Int)
def encSn (sn:SnL):List (AV × AV):=sn.map fun x=>(.str x.1,.int .i64 x.2)
def keysN (sn:SnL):List (List UInt8):=sn.map (·.1)
theorem encSn_find (n:List UInt8) : ∀ (sn:SnL) (i:Nat),(n∉keysN sn→findKey (.one .str) (.str n) (encSn sn) i=some none) ∧
  (n∈keysN sn→∃ j c,sn[j]?=some (n,c)∧findKey (.one .str) (.str n) (encSn sn) i=some (some (i+j,.int .i64 c))∧∀ c2,findKey (.one .str) (.str n) ((encSn sn).set j (.str n,.int .i64 c2)) i=some (some (i+j,.int .i64 c2)))
 | [],i=>⟨fun _=>rfl,fun h=>by cases h⟩
 | x::l,i=>by
  obtain ⟨h1,h2⟩:=encSn_find n l (i+1)
  by_cases he:x.1=n
  ·subst he
   refine ⟨fun h=>(h (by simp [keysN])).elim,fun _=>⟨0,x.2,rfl,?_,fun c2=>?_⟩⟩<;>simp [encSn,findKey,keyEq,cellEq]
  ·have e2:(n == x.1)=false:=by simpa using fun e=>he e.symm
   have hk:n∈keysN (x::l)↔n∈keysN l:=by
    unfold keysN
    rw[List.map_cons,List.mem_cons]
    exact ⟨fun h=>h.elim (fun e=>(he e.symm).elim) id,.inr⟩
   rw[hk]
   have e:findKey (.one .str) (.str n) (encSn (x::l)) i=findKey (.one .str) (.str n) (encSn l) (i+1):=by
    simp [encSn,findKey,keyEq,cellEq,e2]
   rw[e]
   refine ⟨h1,fun h=>?_⟩
   obtain ⟨j,c,g0,g1,g2⟩:=h2 h
   refine ⟨j+1,c,g0,by rw[g1,show i+1+j=i+(j+1) by omega],fun c2=>?_⟩
   have e3:findKey (.one .str) (.str n) ((encSn (x::l)).set (j+1) (.str n,.int .i64 c2)) i=findKey (.one .str) (.str n) ((encSn l).set j (.str n,.int .i64 c2)) (i+1):=by
    simp [encSn,findKey,keyEq,cellEq,e2]
   rw[e3,g2,show i+1+j=i+(j+1) by omega]
theorem encSn_set {sn:SnL} {j:Nat} {n:List UInt8} {c:Int}:(encSn sn).set j (.str n,.int .i64 c)=encSn (sn.set j (n,c)):=by
 unfold encSn
 rw[List.map_set]
theorem keys_set {sn:SnL} {j:Nat} {n:List UInt8} {c c2:Int} (h:sn[j]?=some (n,c)):keysN (sn.set j (n,c2))=keysN sn:=by
 unfold keysN
 rw[List.map_set]
 obtain ⟨h1,h2⟩:=List.getElem?_eq_some_iff.1 h
 have:(sn.map (·.1))[j]'(by simpa using h1)=n:=by rw[List.getElem_map,h2]
 conv=>lhs; rw[←this]
 exact List.set_getElem_self _
theorem encSn_refs (sn:SnL):Blk.refs (.map (encSn sn))=[]:=by
 show (encSn sn).flatMap _=[]
 unfold encSn
 rw[List.flatMap_map]
 simp [AV.refsN]
theorem encSn_ren (f:Nat→Option Nat) (sn:SnL):renE f (encSn sn)=encSn sn:=by
 unfold renE encSn
 rw[List.map_map]
 rfl
def unseenW (l:Ents) (ks:List (List UInt8)):Nat:=((l.filter fun e=>!(ks.contains e.1)).map fun e=>e.2.length).sum
def entN (l:Ents) (n:List UInt8):List (List UInt8):=match l.find? fun e=>e.1 == n with
 | some e=>e.2
 | none=>[]
theorem unseen_add {n:List UInt8} {ks:List (List UInt8)} (hn:n∉ks) : ∀ l:Ents,unseenW l (ks++[n])+(entN l n).length≤unseenW l ks
 | []=>by simp [unseenW,entN]
 | x::l=>by
  have ih:=unseen_add hn l
  by_cases he:x.1=n
  ·subst he
   have e1:(ks++[x.1]).contains x.1=true:=by simp
   have e2:ks.contains x.1=false:=by simpa using hn
   have e3:entN (x::l) x.1=x.2:=by simp [entN]
   unfold unseenW at ih ⊢
   rw[List.filter_cons,List.filter_cons,e1,e2,e3]
   simp only[Bool.not_true,Bool.false_eq_true,if_false,Bool.not_false,if_true,List.map_cons,List.sum_cons]
   omega
  ·have e1:(x.1 == n)=false:=by simpa using he
   have e2:(ks++[n]).contains x.1=ks.contains x.1:=by simp [he]
   have e3:entN (x::l) n=entN l n:=by simp [entN,e1]
   unfold unseenW at ih ⊢
   rw[List.filter_cons,List.filter_cons,e2,e3]
   cases ks.contains x.1
   ·simp only[Bool.not_false,if_true,List.map_cons,List.sum_cons]
    omega
   ·simp only[Bool.not_true,Bool.false_eq_true,if_false]
    exact ih
theorem unseen_le (l:Ents) (ks:List (List UInt8)):unseenW l ks≤(l.map fun e=>e.2.length).sum:=by
 unfold unseenW
 induction l with
 | nil=>simp
 | cons x l ih=>
  rw[List.filter_cons]
  split
  ·simp only[List.map_cons,List.sum_cons]; omega
  ·simp only[List.map_cons,List.sum_cons]; omega
theorem entN_eq (s:Schs) (n:List UInt8):entN (entM s.defs) n=lkN s n:=by
 have h:=entM_find n s.defs []
 unfold entN
 rw[show entM s.defs=s.defs.foldl entStep [] from rfl,h]
 unfold lkN lkM
 cases s.defs.find? (fun d=>d.1 == n)<;>simp
theorem ent_sum : ∀ (l:List (List UInt8 × Sch)) (es:Ents),((l.foldl entStep es).map fun e=>e.2.length).sum≤(es.map fun e=>e.2.length).sum+AV.bulks (l.map encDef)
 | [],es=>by simp
 | d::l,es=>by
  have h1:=ent_sum l (entStep es d)
  have h2:((entStep es d).map fun e=>e.2.length).sum≤(es.map fun e=>e.2.length).sum+(encDef d).bulk:=by
   have:=refs_len true 48 d.2
   have:=cnt_le 48 d.2
   have:=encDef_bulk d
   unfold entStep
   split
   ·omega
   ·simp; omega
  simp only[List.foldl_cons,List.map_cons,AV.bulks]
  omega
theorem strikeGo_app {r fam k:Nat} : ∀ (A B:Heap) (i:Nat),(∀ (j n:Nat) (els:List AV) (ro fl:Bool),A[j]?=some (Blk.row n els ro fl fam)→False)→strikeGo r fam k (A++B) i=(strikeGo r fam k B (i+A.length)).map (A ++ ·)
 | [],B,i,_=>by
  cases h:strikeGo r fam k B i<;>simp [h]
 | b::A,B,i,h=>by
  have ih:=strikeGo_app (r:=r) (fam:=fam) (k:=k) A B (i+1) fun j n els ro fl hj=>h (j+1) n els ro fl hj
  rw[List.cons_append,strikeGo,ih,List.length_cons,show i+1+A.length=i+(A.length+1) by omega]
  cases hq:strikeGo r fam k B (i+(A.length+1)) with
  | none=>simp
  | some B'=>
   cases b with
   | row n els ro fl fam'=>
    simp only[Option.map_some]
    have:fam'≠fam:=fun e=>h 0 n els ro fl (by rw[e]; rfl)
    rw[if_neg (fun c=>this c.1)]
    rfl
   | _=>rfl
end Ago
set_option maxRecDepth 100000
set_option maxHeartbeats 8000000
namespace Ago
open Go (IntKind)
structure WalkP (s:Schs) (n0:List UInt8) (td:List (List UInt8)) (sn:SnL):Prop where
 todo : ∀ x,x∈td→Rc s (lkN s n0) x
 base : ∀ x,x∈lkN s n0→x∈td∨x∈keysN sn
 succ : ∀ x,x∈keysN sn→∀ y,y∈lkN s x→y∈td∨y∈keysN sn
 rc : ∀ x,x∈keysN sn→Rc s (lkN s n0) x
 ne:n0∉keysN sn
 cnt : ∀ x,x∈sn→1≤x.2∧x.2+((td.length+unseenW (entM s.defs) (keysN sn):Nat):Int)≤2^28
 mu:td.length+unseenW (entM s.defs) (keysN sn)≤2^27
theorem WalkP.init {s:Schs} {n0:List UInt8} (hs:s.bulk≤2^24) (hn:(lkN s n0).length≤2^24):WalkP s n0 (lkN s n0) []:=by
 refine ⟨fun x h=>.base h,fun x h=>.inl h,fun x h=>(by cases h),fun x h=>(by cases h),fun h=>(by cases h),fun x h=>(by cases h),?_⟩
 have h1:=unseen_le (entM s.defs) (keysN [])
 have h2:=ent_sum s.defs []
 have h3:=s.bulk_eq
 have h2:((entM s.defs).map fun e=>e.2.length).sum≤(List.map (fun e=>e.2.length) ([]:Ents)).sum+AV.bulks (s.defs.map encDef):=h2
 simp only[List.map_nil,List.sum_nil] at h2
 omega
theorem WalkP.old {s:Schs} {n0 n:List UInt8} {td:List (List UInt8)} {sn:SnL} {j:Nat} {c:Int} (h:WalkP s n0 (n::td) sn) (hj:sn[j]?=some (n,c)):WalkP s n0 td (sn.set j (n,c+1)):=by
 have hk:keysN (sn.set j (n,c+1))=keysN sn:=keys_set hj
 have hnk:n∈keysN sn:=List.mem_map.2 ⟨_,List.mem_of_getElem? hj,rfl⟩
 have hc:=h.cnt _ (List.mem_of_getElem? hj)
 refine ⟨fun x hx=>h.todo x (List.mem_cons_of_mem _ hx),fun x hx=>?_,fun x hx y hy=>?_,fun x hx=>?_,?_,fun x hx=>?_,?_⟩
 ·rw[hk]
  rcases h.base x hx with h1 | h1
  ·rcases List.mem_cons.1 h1 with rfl | h1
   ·exact .inr hnk
   ·exact .inl h1
  ·exact .inr h1
 ·rw[hk] at hx ⊢
  rcases h.succ x hx y hy with h1 | h1
  ·rcases List.mem_cons.1 h1 with rfl | h1
   ·exact .inr hnk
   ·exact .inl h1
  ·exact .inr h1
 ·rw[hk] at hx
  exact h.rc x hx
 ·rw[hk]
  exact h.ne
 ·rw[hk]
  have hl:(n::td).length=td.length+1:=rfl
  rcases List.mem_or_eq_of_mem_set hx with h1 | rfl
  ·have:=h.cnt x h1
   rw[hl] at this
   omega
  ·rw[hl] at hc
   simp only at hc ⊢
   omega
 ·rw[hk]
  have:=h.mu
  simp only[List.length_cons] at this
  omega
theorem WalkP.new {s:Schs} {n0 n:List UInt8} {td:List (List UInt8)} {sn:SnL} (h:WalkP s n0 (n::td) sn) (hn:n∉keysN sn) (he:n≠n0):WalkP s n0 (td++lkN s n) (sn++[(n,1)])∧(td++lkN s n).length+unseenW (entM s.defs) (keysN (sn++[(n,1)]))<(n::td).length+unseenW (entM s.defs) (keysN sn):=by
 have hk:keysN (sn++[(n,1)])=keysN sn++[n]:=by simp [keysN]
 have hu:=unseen_add hn (entM s.defs)
 rw[entN_eq] at hu
 have hmu:=h.mu
 simp only[List.length_cons] at hmu
 refine ⟨⟨fun x hx=>?_,fun x hx=>?_,fun x hx y hy=>?_,fun x hx=>?_,?_,fun x hx=>?_,?_⟩,?_⟩
 ·rcases List.mem_append.1 hx with h1 | h1
  ·exact h.todo x (List.mem_cons_of_mem _ h1)
  ·exact .step (h.todo n (List.mem_cons_self ..)) h1
 ·rw[hk,List.mem_append,List.mem_append,List.mem_singleton]
  rcases h.base x hx with h1 | h1
  ·rcases List.mem_cons.1 h1 with rfl | h1
   ·exact .inr (.inr rfl)
   ·exact .inl (.inl h1)
  ·exact .inr (.inl h1)
 ·rw[hk,List.mem_append,List.mem_singleton] at hx
  rw[hk,List.mem_append,List.mem_append,List.mem_singleton]
  rcases hx with hx | rfl
  ·rcases h.succ x hx y hy with h1 | h1
   ·rcases List.mem_cons.1 h1 with rfl | h1
    ·exact .inr (.inr rfl)
    ·exact .inl (.inl h1)
   ·exact .inr (.inl h1)
  ·exact .inl (.inr hy)
 ·rw[hk,List.mem_append,List.mem_singleton] at hx
  rcases hx with hx | rfl
  ·exact h.rc x hx
  ·exact h.todo x (List.mem_cons_self ..)
 ·rw[hk,List.mem_append,List.mem_singleton]
  rintro (h1 | h1)
  ·exact h.ne h1
  ·exact he h1.symm
 ·rw[hk,List.length_append]
  rcases List.mem_append.1 hx with h1 | h1
  ·have:=h.cnt x h1
   simp only[List.length_cons] at this
   omega
  ·rw[List.mem_singleton.1 h1]
   simp only
   omega
 ·rw[hk,List.length_append]
  omega
 ·rw[hk,List.length_append,List.length_cons]
  omega
theorem WalkP.done {s:Schs} {n0:List UInt8} {sn:SnL} (h:WalkP s n0 [] sn) : ¬ Rc s (lkN s n0) n0:=by
 have key : ∀ x,Rc s (lkN s n0) x→x∈keysN sn:=by
  intro x hx
  induction hx with
  | base h1=>exact (h.base _ h1).elim (fun h=>by cases h) id
  | step _ h2 ih=>exact (h.succ _ ih _ h2).elim (fun h=>by cases h) id
 exact fun hx=>h.ne (key _ hx)
theorem cloneNil (H:Heap):RunOf CS 214 [.snil 1] H (.snil 1) (H++[.gone]):=by
 refine .prim (Or.inl ⟨(1,16),_,rfl,rfl,?_⟩)
 simp [xAppend,Heap.elems,Heap.append,lim,freshRow]
theorem cloneRow {H:Heap} {r:Nat} {ss:List (List UInt8)} (h:H[r]?=some (.row 1 (ss.map .str) false true r)) (hne:ss≠[]) (hl:ss.length<2^25):RunOf CS 214 [.sref 1 r 0 ss.length] H (.sref 1 (H.length+1) 0 ss.length) (H++[.gone,.row 1 (ss.map .str) false true (H.length+1)]):=by
 refine .prim (Or.inl ⟨(1,16),_,rfl,rfl,?_⟩)
 have hr:=(List.getElem?_eq_some_iff.1 h).1
 have hg:(H++[Blk.gone])[r]?=some (.row 1 (ss.map .str) false true r):=by rw[List.getElem?_append_left hr]; exact h
 have:ss.length * 16≤2^40:=by omega
 cases ss with
 | nil=>exact (hne rfl).elim
 | cons x l=>
  simp [xAppend,Heap.elems,Heap.append,Heap.flatOf,lim,freshRow,hg,onRow]
  simp at this hl
  exact ⟨by omega,List.take_of_length_le (by simp)⟩
theorem strike_old {A:Heap} (ho:OwnH A) (r:Nat) (e0 e1:List AV) (es:List (AV × AV)) (hr:r≠A.length+1):strikeGo r (A.length+1) 0 (A++[.row 16 e0 false true A.length,.row 1 e1 false true (A.length+1),.map es]) 0=some (A++[.row 16 e0 false true A.length,.gone,.map es]):=by
 rw[strikeGo_app _ _ _ fun j n els ro fl hj=>by
  have hl:=(List.getElem?_eq_some_iff.1 hj).1
  rcases ho j _ hj with ⟨n2,e2,e⟩ | ⟨es,e⟩ | e<;>cases e
  omega]
 simp [strikeGo,Ne.symm hr]
theorem normI {live:List Nat} {tm tm':List AV} {E E':Heap} {l:Ents} {idx:List Nat} {rb:Nat} (hml:l.length≤1000) (hE : ∀ (j:Nat) (b:Blk),E[j]?=some b→(∃ n els,b = .row n els false true ((dirH l).length+j))∨(∃ es,b = .map es)∨b = .gone)
  (hr : ∀ j,j∈idx→∃ b,E[j]?=some b∧b.refs=[]) (hnd:idx.Nodup) (hkl:idx.length≤10) (hL:(keepLive live 0 tm).flatMap (AV.refsN 6)=0::idx.map fun j=>(dirH l).length+j)
  (ht : ∀ f:Nat→Option Nat,f 0=some 0→(∀ i j,idx[i]?=some j→f ((dirH l).length+j)=some ((dirH l).length+i))→(keepLive live 0 tm).map (AV.renN f 6)=tm') (hK : ∀ f:Nat→Option Nat,keptL f (dirH l).length (idx.map fun j=>E.getD j .gone)=E') :
  St.norm live ⟨tm,dirH l++E,0,rb⟩=⟨tm',dirH l++E',0,0⟩:=by
 refine normD (ks2:=idx.map fun j=>(dirH l).length+j) rfl hml hE (fun r hr2=>?_) ?_ (by simpa using hkl) hL (fun f h0 h1=>ht f h0 fun i j hij=>h1 i _ (by rw[List.getElem?_map,hij]; rfl)) fun f=>?_
 ·obtain ⟨j,hj,rfl⟩:=List.mem_map.1 hr2
  exact ⟨Nat.le_add_right _ _,by rw[Nat.add_sub_cancel_left]; exact hr j hj⟩
 ·rw[List.Nodup,List.pairwise_map]
  exact hnd.imp fun h h2=>h (by omega)
 ·rw[List.map_map,←hK f]
  congr 1
  refine List.map_congr_left fun j _=>?_
  simp
theorem tempsB (f:Nat→Option Nat) (q:Nat) (h1:f q=some 0) (L:List AV) (x y:Int):(slots 79 [(4,.mref q),(39,.tsl 16 L),(40,.int .i64 x),(41,.int .i64 y)]).map (AV.renN f 6)=slots 79 [(4,.mref 0),(39,.tsl 16 L),(40,.int .i64 x),(41,.int .i64 y)]:=by
 simp [slots,AV.renN,h1,List.replicate_succ]
theorem tempsC (f:Nat→Option Nat) {a b c a2 b2 c2:Nat} (h0:f 0=some 0) (h1:f a=some a2) (h2:f b=some b2) (h3:f c=some c2) (L:List AV) (x y:Int) (i n:Nat):(slots 79 [(4,.mref 0),(10,.ptr 16 a 0 0),(11,.sref 1 b i n),(12,.mref c),(39,.tsl 16 L),(40,.int .i64 x),(41,.int .i64 y)]).map (AV.renN f 6)=slots 79 [(4,.mref 0),(10,.ptr 16 a2 0 0),(11,.sref 1 b2 i n),(12,.mref c2),(39,.tsl 16 L),(40,.int .i64 x),(41,.int .i64 y)]:=by
 simp [slots,AV.renN,h0,h1,h2,h3,List.replicate_succ]
theorem tempsE (f:Nat→Option Nat) {a c a2 c2:Nat} (h0:f 0=some 0) (h1:f a=some a2) (h3:f c=some c2) (L:List AV) (x y:Int):(slots 79 [(4,.mref 0),(10,.ptr 16 a 0 0),(11,.snil 1),(12,.mref c),(39,.tsl 16 L),(40,.int .i64 x),(41,.int .i64 y)]).map (AV.renN f 6)=slots 79 [(4,.mref 0),(10,.ptr 16 a2 0 0),(11,.snil 1),(12,.mref c2),(39,.tsl 16 L),(40,.int .i64 x),(41,.int .i64 y)]:=by
 simp [slots,AV.renN,h0,h1,h3,List.replicate_succ]
theorem dir_look (l:Ents) (n:List UInt8):(findKey (.one .str) (.str n) (dE 1 l) 0=some none∧entN l n=[])∨(∃ j,findKey (.one .str) (.str n) (dE 1 l) 0=some (some (j,.snil 1))∧entN l n=[]) ∨
  ∃ j r,findKey (.one .str) (.str n) (dE 1 l) 0=some (some (j,.sref 1 r 0 (entN l n).length))∧entN l n≠[]∧(dirH l)[r]?=some (.row 1 ((entN l n).map .str) false true r):=by
 obtain ⟨f1,f2⟩:=dE_find n l 1 0
 cases hany:l.any fun e=>e.1 == n with
 | false=>
  refine .inl ⟨f1 hany,?_⟩
  have:l.find? (fun e=>e.1 == n)=none:=by
   rw[List.find?_eq_none]
   intro e he h
   have:=List.any_eq_false.1 hany e he
   exact this h
  unfold entN
  rw[this]
 | true=>
  obtain ⟨j,v,e,g1,g2,g3⟩:=f2 hany
  have hen:entN l n=e.2:=by unfold entN; rw[g1]
  rw[hen]
  rcases g3 with ⟨rfl,g3⟩ | ⟨r,rfl,g3,g4⟩
  ·exact .inr (.inl ⟨_,g2,g3⟩)
  ·refine .inr (.inr ⟨_,_,g2,g4,?_⟩)
   rw[Nat.add_comm 1 r] at g3 ⊢
   exact g3
theorem lkN_le {s:Schs} (hs:s.bulk≤2^24) (n:List UInt8):(lkN s n).length≤2^24:=by
 cases hf:s.defs.find? (fun d=>d.1 == n) with
 | none=>
  unfold lkN lkM
  rw[hf]
  simp
 | some d=>
  unfold lkN lkM
  rw[hf]
  have hm:=List.mem_of_find?_eq_some hf
  obtain ⟨h1,_⟩:=(Schs.dlen hs).2 d hm
  have:=refs_len true 48 d.2
  have:=cnt_le 48 d.2
  simp only[if_true]
  omega
theorem encSn_new {n:List UInt8} {sn:SnL} (h:n∉keysN sn):findKey (.one .str) (.str n) (encSn sn) 0=some none∧∃ j,findKey (.one .str) (.str n) (encSn sn++[(.str n,.int .i64 1)]) 0=some (some (j,.int .i64 1)):=by
 refine ⟨(encSn_find n sn 0).1 h,?_⟩
 have e:encSn sn++[(.str n,.int .i64 1)]=encSn (sn++[(n,1)]):=by simp [encSn]
 rw[e]
 obtain ⟨j,c,g0,g1,_⟩:=(encSn_find n (sn++[(n,1)]) 0).2 (by simp [keysN])
 have hc:c=1:=by
  rcases List.mem_append.1 (List.mem_of_getElem? g0) with h1 | h1
  ·exact (h (List.mem_map.2 ⟨_,h1,rfl⟩)).elim
  ·have:=List.mem_singleton.1 h1
   exact (Prod.mk.injEq .. ▸ this).2
 subst hc
 exact ⟨_,g1⟩
end Ago
set_option maxRecDepth 100000
set_option maxHeartbeats 16000000
namespace Ago
open Go (IntKind)
theorem Guarded_run (s:Schs) (hs:s.bulk≤2^24) (h70:s.defs.length≤1000):PRun CS 459 [encSchs s] (.tup [.str (guardM s).1,.bool (guardM s).2]):=by
 obtain ⟨hd1,hd2⟩:=Schs.dlen hs
 have hse:=encSchs_eq s
 refine prun_of ac459 rfl ?_
 rw[encSchs_eq]
 (repeat' first|simp (disch:=omega) only[go_sem,ac459,enter,List.length_map]|(apply spl<;>intro h<;>try simp (disch:=omega) only[go_sem,h]))
 refine loop_of (α:=Nat) (fun k=>{ tmps:=slots 79 [(1,.ptr 16 0 0 0),(4,.mref 1),(16,.tsl 16 (s.defs.map encDef)),(17,.int .i64 s.defs.length),(18,.int .i64 k)],heap:=dirA s (entM (s.defs.take k)),base:=0 }) (fun k=>k≤s.defs.length) (fun k=>s.defs.length-k) 0 (by unfold dirA; rw[hse]; rfl) (Nat.zero_le _) ?_
 intro k hk
 obtain ⟨l,hl⟩ : ∃ l,entM (s.defs.take k)=l:=⟨_,rfl⟩
 have hll:l.length≤1000:=by
  rw[←hl]
  have:=entM_len (s.defs.take k) []
  rw[List.length_take] at this
  have:(entM (s.defs.take k)).length≤[].length+min k s.defs.length:=this
  simp at this
  omega
 have hrl:=dR_len 2 l
 rw[hl]
 by_cases hlt:k<s.defs.length
 ·obtain ⟨d,hdk⟩:=get_some hlt
  have hdm:=List.mem_of_getElem? hdk
  have hde:=map_get (g:=encDef) hdk
  obtain ⟨hdb,hdn⟩:=hd2 d hdm
  have hstep:=entM_step hdk
  rw[hl] at hstep
  obtain ⟨H,hH⟩ : ∃ H,dirA s l=H:=⟨_,rfl⟩
  have hH1:H[1]?=some (.map (dE 2 l)):=by rw[←hH]; rfl
  have hHl:1<H.length:=by rw[←hH]; simp [dirA]
  have hHlen:H.length=2+(dR 2 l).length:=by rw[←hH]; simp [dirA]; omega
  have hHown:OwnH H:=by rw[←hH]; exact dirA_own s l
  have hHcl:Cl H:=by rw[←hH]; exact dirA_cl s l
  obtain ⟨f1,f2⟩:=dE_find d.1 l 2 0
  rw[encDef_eq] at hde
  rw[hH]
  cases hany:l.any fun e=>e.1 == d.1 with
  | true=>
   obtain ⟨j,v,e,g1,g2,g3⟩:=f2 hany
   rw[Nat.zero_add] at g2
   unfold entStep at hstep
   rw[if_pos hany] at hstep
   (repeat' first|simp (disch:=omega) only[go_sem,hde,List.length_map,getL,getP0,setP0,strike_box hHown.fb,hH1,g2]|(apply spl<;>intro h<;>try simp (disch:=omega) only[go_sem,h]))
   all_goals first | omega | skip
   refine ⟨k+1,?_,hlt,by omega⟩
   rw[hstep,hHlen,←hH]
   unfold dirA
   rw[List.cons_append,List.cons_append]
   refine Eq.trans (normA (l:=l) (N:=[]) (N':=[]) (ks2:=[]) rfl rfl (by omega) rfl (.inl ⟨rfl,rfl,rfl⟩) (by rw[dE_refs,List.append_nil]) (by rfl) (fun f h0 h1=>by exact tempsA f h0 h1 _ _ _) (fun f h _=>dE_ren 2 2 l fun i hi=>h _ (by omega))) ?_
   rw[List.append_nil]
   rfl
  | false=>
   have g2:=f1 hany
   unfold entStep at hstep
   rw[if_neg (by rw[hany]; simp)] at hstep
   (repeat' first|simp (disch:=omega) only[go_sem,hde,List.length_map,getL,getP0,setP0,strike_box hHown.fb,hH1,g2]|(apply spl<;>intro h<;>try simp (disch:=omega) only[go_sem,h]))
   all_goals first | omega | skip
   have hc:=refs_run true 48 48 rfl (by decide) d.2 (by omega) (H++[.row 16 [encDef d] false true H.length]) (.snil 1) [] _ (hHcl.push _ _ _ _ (Nat.le_refl _)) (hHown.fb.push (Nat.le_refl _)) Hold.nil (by have:=cnt_le 48 d.2; simp; omega)
   rw[encSch_eq,encDef_eq] at hc
   by_cases hss:refsM true 48 d.2=[]
   ·rw[hss] at hc hstep
    simp only[List.map_nil,nextV,nextH,if_true] at hc
    refine drawTwo ?s1 ?a1 ?b1 ?c1
    case a1=>
     (repeat' first|simp (disch:=omega) only[go_sem,keep_mk,getL,getP0,setL,hH1,g2]|(refine call_of _ _ hc ?_)|(apply spl<;>intro h<;>try simp (disch:=omega) only[go_sem,h]))
     all_goals first | omega | skip
     exact rfl
    case b1=>
     (repeat' first|simp (disch:=omega) only[go_sem,keep_mk,getL,getP0,setL,hH1,g2]|(refine call_of _ _ hc ?_)|(apply spl<;>intro h<;>try simp (disch:=omega) only[go_sem,h]))
    case c1=>
     (repeat' first|simp (disch:=omega) only[go_sem]|(apply spl<;>intro h<;>try simp (disch:=omega) only[go_sem,h]))
     all_goals first | omega | skip
     refine ⟨k+1,?_,hlt,by omega⟩
     rw[hstep,hHlen,←hH]
     unfold dirA
     rw[dR_app,dE_app,show rowL (2+(dR 2 l).length) ([]:List (List UInt8))=[] from rfl,show nilRef (2+(dR 2 l).length) ([]:List (List UInt8)) = .snil 1 from rfl]
     exact normA (l:=l) (N:=[]) (N':=[]) (ks2:=[]) rfl rfl (by omega) rfl (.inl ⟨rfl,rfl,rfl⟩) (by unfold refsE; rw[List.flatMap_append]; exact congr2 HAppend.hAppend (dE_refs 2 l) rfl) (by rfl) (fun f h0 h1=>by exact tempsA f h0 h1 _ _ _) (fun f h _=>by
      have:=dE_ren (f:=f) 2 2 l fun i hi=>h _ (by omega)
      unfold renE at this ⊢
      rw[List.map_append,this]
      rfl)
   ·have hne:(refsM true 48 d.2).map AV.str≠[]:=fun e=>hss (List.map_eq_nil_iff.1 e)
    simp only[nextV,nextH,if_neg hne,List.nil_append,List.length_map,List.length_append,List.length_cons,List.length_nil,List.append_assoc,List.cons_append,Nat.zero_add] at hc
    refine drawTwo ?s2 ?a2 ?b2 ?c2
    case a2=>
     (repeat' first|simp (disch:=omega) only[go_sem,keep_mk,getL,getP0,setL,hH1,g2]|(refine call_of _ _ hc ?_)|(apply spl<;>intro h<;>try simp (disch:=omega) only[go_sem,h]))
     all_goals first | omega | skip
     exact rfl
    case b2=>
     (repeat' first|simp (disch:=omega) only[go_sem,keep_mk,getL,getP0,setL,hH1,g2]|(refine call_of _ _ hc ?_)|(apply spl<;>intro h<;>try simp (disch:=omega) only[go_sem,h]))
    case c2=>
     (repeat' first|simp (disch:=omega) only[go_sem]|(apply spl<;>intro h<;>try simp (disch:=omega) only[go_sem,h]))
     all_goals first | omega | skip
     refine ⟨k+1,?_,hlt,by omega⟩
     rw[hstep,hHlen,←hH]
     unfold dirA
     rw[dR_app,dE_app,show rowL (2+(dR 2 l).length) (refsM true 48 d.2)=[.row 1 ((refsM true 48 d.2).map .str) false true (2+(dR 2 l).length)] from if_neg hss,show nilRef (2+(dR 2 l).length) (refsM true 48 d.2) = .sref 1 (2+(dR 2 l).length) 0 (refsM true 48 d.2).length from if_neg hss]
     exact normA (l:=l) (N:=[.row 1 ((refsM true 48 d.2).map .str) false true (2+(dR 2 l).length+1)]) (N':=[.row 1 ((refsM true 48 d.2).map .str) false true (2+(dR 2 l).length)]) (ks2:=[2+(dR 2 l).length+1]) rfl rfl (by omega) rfl (.inr ⟨_,rfl,rfl,rfl⟩) (by unfold refsE; rw[List.flatMap_append]; exact congr2 HAppend.hAppend (dE_refs 2 l) rfl) (by rfl) (fun f h0 h1=>by exact tempsA f h0 h1 _ _ _) (fun f h h2=>by
      have:=dE_ren (f:=f) 2 2 l fun i hi=>h _ (by omega)
      have h3:=h2 (by simp)
      unfold renE at this ⊢
      rw[List.map_append,this]
      simp [AV.renN,h3])
 ·have hk2:k=s.defs.length:=by omega
  subst hk2
  rw[List.take_length] at hl
  clear hlt hk
  have hl:entM s.defs=l:=hl
  unfold dirA
  rw[hse]
  (repeat' first|simp (disch:=omega) only[go_sem,List.length_map]|(apply spl<;>intro h<;>try simp (disch:=omega) only[go_sem,h]))
  refine loop_of (α:=Nat) (fun k=>{ tmps:=slots 79 [(4,.mref 0),(39,.tsl 16 (s.defs.map encDef)),(40,.int .i64 s.defs.length),(41,.int .i64 k)],heap:=dirH l,base:=0 }) (fun k=>k≤s.defs.length∧(s.defs.take k).any (badM s)=false) (fun k=>s.defs.length-k) 0 ?_ ⟨Nat.zero_le _,rfl⟩ ?_
  ·rw[←hse]
   exact normB hll rfl fun f h=>by exact tempsB f 1 h _ _ _
  intro k ⟨hk,ha⟩
  by_cases hlt:k<s.defs.length
  ·obtain ⟨d,hdk⟩:=get_some hlt
   have hdm:=List.mem_of_getElem? hdk
   have hde:=map_get (g:=encDef) hdk
   obtain ⟨hdb,hdn⟩:=hd2 d hdm
   obtain ⟨H,hH⟩ : ∃ H,dirH l=H:=⟨_,rfl⟩
   have hH0:H[0]?=some (.map (dE 1 l)):=by rw[←hH]; rfl
   have hHl:0<H.length:=by rw[←hH]; simp [dirH]
   have hHown:OwnH H:=by rw[←hH]; exact dirH_own l
   have hbad:badM s d=true↔Rc s (lkN s d.1) d.1:=by
    rw[bad_iff]
    have:(lkM s d.1).2=true:=by
     unfold lkM
     cases hf:s.defs.find? (fun e=>e.1 == d.1) with
     | none=>exact (List.find?_eq_none.1 hf d hdm (by simp)).elim
     | some e=>rfl
    unfold lkN
    rw[if_pos this]
   have h0:=WalkP.init (n0:=d.1) hs (lkN_le hs d.1)
   have hlk0:=dir_look l d.1
   have hen0:entN l d.1=lkN s d.1:=by rw[←hl]; exact entN_eq s d.1
   rw[hen0,hH] at hlk0
   have hl0:=lkN_le hs d.1
   rw[encDef_eq] at hde
   rw[hH]
   rcases hlk0 with ⟨f1,f2⟩ | ⟨j,f1,f2⟩ | ⟨j,r,f1,f2,f3⟩
   ·(repeat' first|simp (disch:=omega) only[go_sem,hde,List.length_map,getL,getP0,setP0,strike_box hHown.fb,hH0,f1,List.append_assoc,List.cons_append,List.nil_append,List.length_append,List.length_cons,List.length_nil,Nat.add_assoc]|(refine call_of _ _ (cloneNil _) ?_)|(apply spl<;>intro h<;>try simp (disch:=omega) only[go_sem,h]))
    all_goals first | omega | skip
    refine loop_of (α:=Unit) (fun _=>{ tmps:=slots 79 [(4,.mref 0),(10,.ptr 16 H.length 0 0),(11,.snil 1),(12,.mref (H.length+1)),(39,.tsl 16 (s.defs.map encDef)),(40,.int .i64 s.defs.length),(41,.int .i64 k)],heap:=H++[.row 16 [encDef d] false true H.length,.map []],base:=0 }) (fun _=>True) (fun _=>0) () ?_ trivial ?_
    ·subst hH
     rw[encDef_eq]
     exact normI (idx:=[0,2]) hll (fun j b h=>by
      match j,h with
      | 0,h=>
       cases h
       exact .inl ⟨_,_,rfl⟩
      | 1,h=>
       cases h
       exact .inr (.inr rfl)
      | 2,h=>
       cases h
       exact .inr (.inl ⟨_,rfl⟩)
      | j+3,h=>simp at h) (fun j hj=>by
      simp only[List.mem_cons,List.mem_singleton,List.not_mem_nil,or_false] at hj
      rcases hj with rfl | rfl<;>first | exact ⟨_,rfl,rfl⟩ | exact ⟨_,rfl,encSn_refs _⟩) (by decide) (by decide) (by rfl) (fun f h0 h1=>by exact tempsE f h0 (h1 0 0 rfl) (h1 1 2 rfl) _ _ _) (fun f=>by rfl)
    ·intro _ _
     have hb:badM s d=false:=by
      rw[f2] at h0
      have:=h0.done
      cases hq:badM s d with
      | false=>rfl
      | true=>
       rw[hbad,f2] at hq
       rw[f2] at this
       exact (this hq).elim
     rw[encDef_eq]
     (repeat' first|simp (disch:=omega) only[go_sem,hde,List.length_map,getL,getP0,setP0,strike_box hHown.fb,hH0,List.append_assoc,List.cons_append,List.nil_append,List.length_append,List.length_cons,List.length_nil,Nat.add_assoc]|(apply spl<;>intro h<;>try simp (disch:=omega) only[go_sem,h]))
     all_goals first | omega | skip
     refine ⟨k+1,?_,⟨hlt,take_any hdk ha hb⟩,by omega⟩
     subst hH
     refine Eq.trans (normI (idx:=[]) (E':=[]) hll (fun j b h=>by
      match j,h with
      | 0,h=>
       cases h
       exact .inl ⟨_,_,rfl⟩
      | 1,h=>
       cases h
       exact .inr (.inl ⟨_,rfl⟩)
      | j+2,h=>simp at h) (fun j hj=>by cases hj) (by decide) (by decide) (by rfl) (fun f h0 h1=>by exact tempsB f 0 h0 _ _ _) (fun f=>by rfl)) ?_
     rw[List.append_nil]
     rfl
   ·(repeat' first|simp (disch:=omega) only[go_sem,hde,List.length_map,getL,getP0,setP0,strike_box hHown.fb,hH0,f1,List.append_assoc,List.cons_append,List.nil_append,List.length_append,List.length_cons,List.length_nil,Nat.add_assoc]|(refine call_of _ _ (cloneNil _) ?_)|(apply spl<;>intro h<;>try simp (disch:=omega) only[go_sem,h]))
    all_goals first | omega | skip
    refine loop_of (α:=Unit) (fun _=>{ tmps:=slots 79 [(4,.mref 0),(10,.ptr 16 H.length 0 0),(11,.snil 1),(12,.mref (H.length+1)),(39,.tsl 16 (s.defs.map encDef)),(40,.int .i64 s.defs.length),(41,.int .i64 k)],heap:=H++[.row 16 [encDef d] false true H.length,.map []],base:=0 }) (fun _=>True) (fun _=>0) () ?_ trivial ?_
    ·subst hH
     rw[encDef_eq]
     exact normI (idx:=[0,2]) hll (fun j b h=>by
      match j,h with
      | 0,h=>
       cases h
       exact .inl ⟨_,_,rfl⟩
      | 1,h=>
       cases h
       exact .inr (.inr rfl)
      | 2,h=>
       cases h
       exact .inr (.inl ⟨_,rfl⟩)
      | j+3,h=>simp at h) (fun j hj=>by
      simp only[List.mem_cons,List.mem_singleton,List.not_mem_nil,or_false] at hj
      rcases hj with rfl | rfl<;>first | exact ⟨_,rfl,rfl⟩ | exact ⟨_,rfl,encSn_refs _⟩) (by decide) (by decide) (by rfl) (fun f h0 h1=>by exact tempsE f h0 (h1 0 0 rfl) (h1 1 2 rfl) _ _ _) (fun f=>by rfl)
    ·intro _ _
     have hb:badM s d=false:=by
      rw[f2] at h0
      have:=h0.done
      cases hq:badM s d with
      | false=>rfl
      | true=>
       rw[hbad,f2] at hq
       rw[f2] at this
       exact (this hq).elim
     rw[encDef_eq]
     (repeat' first|simp (disch:=omega) only[go_sem,hde,List.length_map,getL,getP0,setP0,strike_box hHown.fb,hH0,List.append_assoc,List.cons_append,List.nil_append,List.length_append,List.length_cons,List.length_nil,Nat.add_assoc]|(apply spl<;>intro h<;>try simp (disch:=omega) only[go_sem,h]))
     all_goals first | omega | skip
     refine ⟨k+1,?_,⟨hlt,take_any hdk ha hb⟩,by omega⟩
     subst hH
     refine Eq.trans (normI (idx:=[]) (E':=[]) hll (fun j b h=>by
      match j,h with
      | 0,h=>
       cases h
       exact .inl ⟨_,_,rfl⟩
      | 1,h=>
       cases h
       exact .inr (.inl ⟨_,rfl⟩)
      | j+2,h=>simp at h) (fun j hj=>by cases hj) (by decide) (by decide) (by rfl) (fun f h0 h1=>by exact tempsB f 0 h0 _ _ _) (fun f=>by rfl)) ?_
     rw[List.append_nil]
     rfl
   ·have hcl:=cloneRow (H:=H++[.row 16 [encDef d] false true H.length]) (r:=r) (ss:=lkN s d.1) (by rw[List.getElem?_append_left (List.getElem?_eq_some_iff.1 f3).1]; exact f3) f2 (by omega)
    rw[encDef_eq] at hcl
    (repeat' first|simp (disch:=omega) only[go_sem,hde,List.length_map,getL,getP0,setP0,strike_box hHown.fb,hH0,f1,List.append_assoc,List.cons_append,List.nil_append,List.length_append,List.length_cons,List.length_nil,Nat.add_assoc]|(refine call_of _ _ hcl ?_)|(apply spl<;>intro h<;>try simp (disch:=omega) only[go_sem,h]))
    all_goals first | omega | skip
    refine loop_of (α:=List (List UInt8) × Nat × SnL) (fun a=>{ tmps:=slots 79 [(4,.mref 0),(10,.ptr 16 H.length 0 0),(11,.sref 1 (H.length+1) a.2.1 (a.1.length-a.2.1)),(12,.mref (H.length+2)),(39,.tsl 16 (s.defs.map encDef)),(40,.int .i64 s.defs.length),(41,.int .i64 k)],heap:=H++[.row 16 [encDef d] false true H.length,.row 1 (a.1.map .str) false true (H.length+1),.map (encSn a.2.2)],base:=0 }) (fun a=>a.2.1≤a.1.length∧WalkP s d.1 (a.1.drop a.2.1) a.2.2) (fun a=>(a.1.length-a.2.1)+unseenW (entM s.defs) (keysN a.2.2)) (lkN s d.1,0,[]) ?_ ⟨Nat.zero_le _,h0⟩ ?_
    ·subst hH
     rw[encDef_eq]
     exact normI (idx:=[0,2,3]) hll (fun j b h=>by
      match j,h with
      | 0,h=>
       cases h
       exact .inl ⟨_,_,rfl⟩
      | 1,h=>
       cases h
       exact .inr (.inr rfl)
      | 2,h=>
       cases h
       exact .inl ⟨_,_,rfl⟩
      | 3,h=>
       cases h
       exact .inr (.inl ⟨_,rfl⟩)
      | j+4,h=>simp at h) (fun j hj=>by
      simp only[List.mem_cons,List.mem_singleton,List.not_mem_nil,or_false] at hj
      rcases hj with rfl | rfl | rfl<;>first | exact ⟨_,rfl,rfl⟩ | exact ⟨_,rfl,encSn_refs _⟩) (by decide) (by decide) (by rfl) (fun f h0 h1=>by exact tempsC f h0 (h1 0 0 rfl) (h1 1 2 rfl) (h1 2 3 rfl) _ _ _ _ _) (fun f=>by rfl)
    ·intro ⟨els,i,sn⟩ ⟨hil,hw⟩
     dsimp only at hil hw ⊢
     rw[encDef_eq]
     by_cases hlt2:i<els.length
     ·obtain ⟨n,hn⟩:=get_some hlt2
      have hn2:=map_get (g:=AV.str) hn
      have hdrop:els.drop i=n::els.drop (i+1):=dropS hn
      rw[hdrop] at hw
      have hmu:=hw.mu
      simp only[List.length_cons,List.length_drop] at hmu
      by_cases hq:n=d.1
      ·have hb:badM s d=true:=hbad.2 (hw.todo d.1 (by rw[hq]; exact List.mem_cons_self ..))
       have hg:guardM s=(d.1,false):=by unfold guardM; rw[find_at hdk ha hb]
       rw[hg]
       (repeat' first|simp (disch:=omega) only[go_sem,hde,List.length_map,getL,getP0,setP0,strike_box hHown.fb,hH0,List.append_assoc,List.cons_append,List.nil_append,List.length_append,List.length_cons,List.length_nil,Nat.add_assoc,gR,sR,hn2,hq]|(apply spl<;>intro h<;>try simp (disch:=omega) only[go_sem,h]))
      ·have hqb:(n == d.1)=false:=by simpa using hq
       by_cases hk2:n∈keysN sn
       ·obtain ⟨j2,c,g0,g1,g2⟩:=(encSn_find n sn 0).2 hk2
        have g2:=g2 (c+1)
        rw[Nat.zero_add] at g1 g2
        have hc:=hw.cnt _ (List.mem_of_getElem? g0)
        simp only[List.length_cons] at hc
        (repeat' first|simp (disch:=omega) only[go_sem,hde,List.length_map,getL,getP0,setP0,strike_box hHown.fb,hH0,List.append_assoc,List.cons_append,List.nil_append,List.length_append,List.length_cons,List.length_nil,Nat.add_assoc,gR,sR,hn2,hq,hqb,g1,g2]|(apply spl<;>intro h<;>try simp (disch:=omega) only[go_sem,h]))
        all_goals first | omega | skip
        refine ⟨(els,i+1,sn.set j2 (n,c+1)),?_,⟨hlt2,hw.old g0⟩,?_⟩
        ·subst hH
         rw[encSn_set]
         exact normI (idx:=[0,1,2]) hll (fun j b h=>by
          match j,h with
          | 0,h=>
           cases h
           exact .inl ⟨_,_,rfl⟩
          | 1,h=>
           cases h
           exact .inl ⟨_,_,rfl⟩
          | 2,h=>
           cases h
           exact .inr (.inl ⟨_,rfl⟩)
          | j+3,h=>simp at h) (fun j hj=>by
          simp only[List.mem_cons,List.mem_singleton,List.not_mem_nil,or_false] at hj
          rcases hj with rfl | rfl | rfl<;>first | exact ⟨_,rfl,rfl⟩ | exact ⟨_,rfl,encSn_refs _⟩) (by decide) (by decide) (by rfl) (fun f h0 h1=>by exact tempsC f h0 (h1 0 0 rfl) (h1 1 1 rfl) (h1 2 2 rfl) _ _ _ _ _) (fun f=>by
          simp only[List.map_cons,List.map_nil,List.getD_eq_getElem?_getD,List.getElem?_cons_succ,List.getElem?_cons_zero,Option.getD_some,keptL,renB,encSn_ren]<;>rfl)
        ·show (els.length-(i+1))+unseenW _ (keysN (sn.set j2 (n,c+1)))<(els.length-i)+unseenW _ (keysN sn)
         rw[keys_set g0]
         omega
       ·obtain ⟨g1,j2,g2⟩:=encSn_new hk2
        obtain ⟨hw2,hmu2⟩:=hw.new hk2 hq
        have hlk:=dir_look l n
        have hen:entN l n=lkN s n:=by rw[←hl]; exact entN_eq s n
        rw[hen,hH] at hlk
        have hln:=lkN_le hs n
        have hes:encSn sn++[(.str n,.int .i64 1)]=encSn (sn++[(n,1)]):=by simp [encSn]
        have hrow:List.take (els.length-i-1) (List.drop (i+1) (List.map AV.str els))=(els.drop (i+1)).map .str:=by
         rw[←List.map_drop,List.take_of_length_le (by simp; omega)]
        have htk:List.take (lkN s n).length (List.map AV.str (lkN s n))=(lkN s n).map .str:=List.take_of_length_le (by simp)
        rcases hlk with ⟨k1,k2⟩ | ⟨jj,k1,k2⟩ | ⟨jj,r2,k1,k2,k3⟩
        ·(repeat' first|simp (disch:=omega) only[go_sem,hde,List.length_map,getL,getP0,setP0,strike_box hHown.fb,hH0,List.append_assoc,List.cons_append,List.nil_append,List.length_append,List.length_cons,List.length_nil,Nat.add_assoc,gR,sR,hn2,hq,hqb,g1,g2,k1,strike_old hHown,hrow]|(apply spl<;>intro h<;>try simp (disch:=omega) only[go_sem,h]))
         all_goals first | omega | skip
         rw[k2,List.append_nil] at hw2 hmu2
         refine ⟨(els.drop (i+1),0,sn++[(n,1)]),?_,⟨Nat.zero_le _,hw2⟩,?_⟩
         ·dsimp only
          subst hH
          rw[hes,show (els.drop (i+1)).length-0=els.length-i-1 by simp; omega]
          exact normI (idx:=[0,3,2]) hll (fun j b h=>by
           match j,h with
           | 0,h=>
            cases h
            exact .inl ⟨_,_,rfl⟩
           | 1,h=>
            cases h
            exact .inr (.inr rfl)
           | 2,h=>
            cases h
            exact .inr (.inl ⟨_,rfl⟩)
           | 3,h=>
            cases h
            exact .inl ⟨_,_,rfl⟩
           | j+4,h=>simp at h) (fun j hj=>by
           simp only[List.mem_cons,List.mem_singleton,List.not_mem_nil,or_false] at hj
           rcases hj with rfl | rfl | rfl<;>first | exact ⟨_,rfl,rfl⟩ | exact ⟨_,rfl,encSn_refs _⟩) (by decide) (by decide) (by rfl) (fun f h0 h1=>by exact tempsC f h0 (h1 0 0 rfl) (h1 1 3 rfl) (h1 2 2 rfl) _ _ _ _ _) (fun f=>by
           simp only[List.map_cons,List.map_nil,List.getD_eq_getElem?_getD,List.getElem?_cons_succ,List.getElem?_cons_zero,Option.getD_some,keptL,renB,encSn_ren]<;>rfl)
         ·show (els.drop (i+1)).length-0+unseenW _ (keysN (sn++[(n,1)]))<(els.length-i)+unseenW _ (keysN sn)
          simp only[List.length_cons,List.length_drop] at hmu2 ⊢
          omega
        ·(repeat' first|simp (disch:=omega) only[go_sem,hde,List.length_map,getL,getP0,setP0,strike_box hHown.fb,hH0,List.append_assoc,List.cons_append,List.nil_append,List.length_append,List.length_cons,List.length_nil,Nat.add_assoc,gR,sR,hn2,hq,hqb,g1,g2,k1,strike_old hHown,hrow]|(apply spl<;>intro h<;>try simp (disch:=omega) only[go_sem,h]))
         all_goals first | omega | skip
         rw[k2,List.append_nil] at hw2 hmu2
         refine ⟨(els.drop (i+1),0,sn++[(n,1)]),?_,⟨Nat.zero_le _,hw2⟩,?_⟩
         ·dsimp only
          subst hH
          rw[hes,show (els.drop (i+1)).length-0=els.length-i-1 by simp; omega]
          exact normI (idx:=[0,3,2]) hll (fun j b h=>by
           match j,h with
           | 0,h=>
            cases h
            exact .inl ⟨_,_,rfl⟩
           | 1,h=>
            cases h
            exact .inr (.inr rfl)
           | 2,h=>
            cases h
            exact .inr (.inl ⟨_,rfl⟩)
           | 3,h=>
            cases h
            exact .inl ⟨_,_,rfl⟩
           | j+4,h=>simp at h) (fun j hj=>by
           simp only[List.mem_cons,List.mem_singleton,List.not_mem_nil,or_false] at hj
           rcases hj with rfl | rfl | rfl<;>first | exact ⟨_,rfl,rfl⟩ | exact ⟨_,rfl,encSn_refs _⟩) (by decide) (by decide) (by rfl) (fun f h0 h1=>by exact tempsC f h0 (h1 0 0 rfl) (h1 1 3 rfl) (h1 2 2 rfl) _ _ _ _ _) (fun f=>by
           simp only[List.map_cons,List.map_nil,List.getD_eq_getElem?_getD,List.getElem?_cons_succ,List.getElem?_cons_zero,Option.getD_some,keptL,renB,encSn_ren]<;>rfl)
         ·show (els.drop (i+1)).length-0+unseenW _ (keysN (sn++[(n,1)]))<(els.length-i)+unseenW _ (keysN sn)
          simp only[List.length_cons,List.length_drop] at hmu2 ⊢
          omega
        ·have hr2:=(List.getElem?_eq_some_iff.1 k3).1
         (repeat' first|simp (disch:=omega) only[go_sem,hde,List.length_map,getL,getP0,setP0,strike_box hHown.fb,hH0,List.append_assoc,List.cons_append,List.nil_append,List.length_append,List.length_cons,List.length_nil,Nat.add_assoc,gR,sR,hn2,hq,hqb,g1,g2,k1,k3,strike_old hHown,hrow,htk]|(apply spl<;>intro h<;>try simp (disch:=omega) only[go_sem,h]))
         all_goals first | omega | skip
         refine ⟨(els.drop (i+1)++lkN s n,0,sn++[(n,1)]),?_,⟨Nat.zero_le _,hw2⟩,?_⟩
         ·dsimp only
          subst hH
          rw[hes,List.map_append,show (els.drop (i+1)++lkN s n).length-0=els.length-i-1+(lkN s n).length by simp; omega]
          exact normI (idx:=[0,3,2]) hll (fun j b h=>by
           match j,h with
           | 0,h=>
            cases h
            exact .inl ⟨_,_,rfl⟩
           | 1,h=>
            cases h
            exact .inr (.inr rfl)
           | 2,h=>
            cases h
            exact .inr (.inl ⟨_,rfl⟩)
           | 3,h=>
            cases h
            exact .inl ⟨_,_,rfl⟩
           | j+4,h=>simp at h) (fun j hj=>by
           simp only[List.mem_cons,List.mem_singleton,List.not_mem_nil,or_false] at hj
           rcases hj with rfl | rfl | rfl<;>first | exact ⟨_,rfl,rfl⟩ | exact ⟨_,rfl,encSn_refs _⟩) (by decide) (by decide) (by rfl) (fun f h0 h1=>by exact tempsC f h0 (h1 0 0 rfl) (h1 1 3 rfl) (h1 2 2 rfl) _ _ _ _ _) (fun f=>by
           simp only[List.map_cons,List.map_nil,List.getD_eq_getElem?_getD,List.getElem?_cons_succ,List.getElem?_cons_zero,Option.getD_some,keptL,renB,encSn_ren]<;>rfl)
         ·show (els.drop (i+1)++lkN s n).length-0+unseenW _ (keysN (sn++[(n,1)]))<(els.length-i)+unseenW _ (keysN sn)
          simp only[List.length_cons,List.length_drop,List.length_append] at hmu2 ⊢
          omega
     ·have hb:badM s d=false:=by
       rw[List.drop_of_length_le (by omega)] at hw
       have:=hw.done
       cases hq:badM s d with
       | false=>rfl
       | true=>exact (this (hbad.1 hq)).elim
      (repeat' first|simp (disch:=omega) only[go_sem,hde,List.length_map,getL,getP0,setP0,strike_box hHown.fb,hH0,List.append_assoc,List.cons_append,List.nil_append,List.length_append,List.length_cons,List.length_nil,Nat.add_assoc,gR,sR]|(apply spl<;>intro h<;>try simp (disch:=omega) only[go_sem,h]))
      all_goals first | omega | skip
      refine ⟨k+1,?_,⟨hlt,take_any hdk ha hb⟩,by omega⟩
      subst hH
      refine Eq.trans (normI (idx:=[]) (E':=[]) hll (fun j b h=>by
       match j,h with
       | 0,h=>
        cases h
        exact .inl ⟨_,_,rfl⟩
       | 1,h=>
        cases h
        exact .inl ⟨_,_,rfl⟩
       | 2,h=>
        cases h
        exact .inr (.inl ⟨_,rfl⟩)
       | j+3,h=>simp at h) (fun j hj=>by cases hj) (by decide) (by decide) (by rfl) (fun f h0 h1=>by exact tempsB f 0 h0 _ _ _) (fun f=>by rfl)) ?_
      rw[List.append_nil]
      rfl
  ·rw[take_len hlt hk] at ha
   have hg:guardM s=([],true):=by unfold guardM; rw[find_none ha]
   rw[hg]
   (repeat' first|simp (disch:=omega) only[go_sem,List.length_map]|(apply spl<;>intro h<;>try simp (disch:=omega) only[go_sem,h]))
end Ago
set_option maxRecDepth 100000
set_option maxHeartbeats 16000000
namespace Ago
open Go (IntKind)
theorem SmallAll_ex (s:Schs) (hs:s.bulk≤2^24) : ∃ b,PRun CS 453 [encSchs s] (.bool b)∧(b=true→s.defs.length≤70):=by
 obtain ⟨hd1,hd2⟩:=Schs.dlen hs
 have hse:=encSchs_eq s
 have hrb:s.root.bulk≤2^24:=by have:=s.bulk_eq; omega
 obtain ⟨b,hb⟩:=Small_ex s.root hrb
 have hz:=refSize_run s.root hrb
 have hzc:=cnt_le 48 s.root
 rw[encSch_eq] at hb hz
 have h:=prunE_of (C:=CS) (f:=453) (ts:=[encSchs s]) (k:=fun w=>∃ b,w = .bool b∧(b=true→s.defs.length≤70)) ac453 rfl (by
  rw[encSchs_eq]
  by_cases h70:s.defs.length≤70
  ·cases b with
   | false=>
    (repeat' first|simp (disch:=omega) only[go_sem,ac453,enter,List.length_map]|refine pure_of _ (hb) ?_|refine pure_of _ (hz) ?_|(apply spl<;>intro h<;>try simp (disch:=omega) only[go_sem,h]))
    all_goals first | exact ⟨false,rfl,fun h=>Bool.noConfusion h⟩ | omega
   | true=>
    (repeat' first|simp (disch:=omega) only[go_sem,ac453,enter,List.length_map]|refine pure_of _ (hb) ?_|refine pure_of _ (hz) ?_|(apply spl<;>intro h<;>try simp (disch:=omega) only[go_sem,h]))
    all_goals first | exact ⟨_,rfl,fun _=>h70⟩ | omega | skip
    refine loop_of (α:=Nat × Nat) (fun a=>{ tmps:=slots 44 [(1,.ptr 16 0 0 0),(3,.int .i64 a.2),(4,.int .i64 a.1)],heap:=[.row 16 [encSchs s] false true 0],base:=0 }) (fun a=>a.1≤s.defs.length∧a.2≤(a.1+1) * 2^25) (fun a=>s.defs.length-a.1) (0,cntM 48 s.root) (by rw[hse]; rfl) ⟨Nat.zero_le _,by omega⟩ ?_
    intro ⟨k,n⟩ ⟨hk,hn⟩
    rw[hse]
    dsimp only at hk hn ⊢
    by_cases hlt:k<s.defs.length
    ·obtain ⟨d,hdk⟩:=get_some hlt
     have hde:=map_get (g:=encDef) hdk
     obtain ⟨hdb,hdn⟩:=hd2 d (List.mem_of_getElem? hdk)
     obtain ⟨c,hc⟩:=Small_ex d.2 (by omega)
     have hy:=refSize_run d.2 (by omega)
     have hyc:=cnt_le 48 d.2
     rw[encDef_eq] at hde
     rw[encSch_eq] at hc hy
     cases c with
     | false=>
      (repeat' first|simp (disch:=omega) only[go_sem,hde,List.length_map]|refine pure_of _ (hc) ?_|refine pure_of _ (hy) ?_|(apply spl<;>intro h<;>try simp (disch:=omega) only[go_sem,h]))
      all_goals first | exact ⟨false,rfl,fun h=>Bool.noConfusion h⟩ | omega
     | true=>
      (repeat' first|simp (disch:=omega) only[go_sem,hde,List.length_map]|refine pure_of _ (hc) ?_|refine pure_of _ (hy) ?_|(apply spl<;>intro h<;>try simp (disch:=omega) only[go_sem,h]))
      all_goals first | omega | skip
      refine ⟨(k+1,n+cntM 48 d.2),?_,⟨hlt,by dsimp only; omega⟩,by dsimp only; omega⟩
      dsimp only
      rw[Int.natCast_add]
      rfl
    ·(repeat' first|simp (disch:=omega) only[go_sem,List.length_map]|(apply spl<;>intro h<;>try simp (disch:=omega) only[go_sem,h]))
     all_goals first | exact ⟨_,rfl,fun _=>h70⟩ | exact ⟨_,rfl,fun _=>trivial⟩
  ·(repeat' first|simp (disch:=omega) only[go_sem,ac453,enter,List.length_map]|(apply spl<;>intro h<;>try simp (disch:=omega) only[go_sem,h]))
   all_goals exact ⟨false,rfl,fun h=>Bool.noConfusion h⟩)
 obtain ⟨w,h1,c,rfl,h2⟩:=h
 exact ⟨c,h1,h2⟩
end Ago
