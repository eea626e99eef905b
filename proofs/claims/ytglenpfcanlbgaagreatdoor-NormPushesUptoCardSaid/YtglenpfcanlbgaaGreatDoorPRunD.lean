/- The names that a schema refers to,gathered in a slice that grows. -/
import Derived.Test.YtglenpfcanlbgaaGreatDoorPRunG
import Derived.Test.YtglenpfcanlbgaaGreatDoorPRunF
import Derived.Test.YtglenpfcanlbgaaGreatDoorPRunK
set_option linter.unusedSimpArgs false
set_option linter.unusedVariables false
set_option maxRecDepth 100000
set_option maxHeartbeats 4000000
namespace Ago
open Go (IntKind)
def Fb (H:Heap):Prop:=∀ (j n:Nat) (els:List AV) (ro fl:Bool) (f:Nat),H[j]?=some (Blk.row n els ro fl f)→f<H.length
inductive Hold (H:Heap):AV→List AV→Nat→Prop
 | nil:Hold H (AV.snil 1) [] H.length
 | row {r fam:Nat} {els:List AV}:els≠[]→H[r]?=some (Blk.row 1 els false true fam)→fam<H.length→(∀ j n e ro fl,H[j]?=some (Blk.row n e ro fl fam)→j=r∨e.length≤els.length)→Hold H (AV.sref 1 r 0 els.length) els fam
theorem Hold.two {H:Heap} {l:AV} {els:List AV} {fam:Nat} (h:Hold H l els fam):(l = .snil 1∧els=[]∧fam=H.length)∨∃ r,l = .sref 1 r 0 els.length∧H[r]?=some (Blk.row 1 els false true fam)∧fam<H.length∧r<H.length∧(∀ j n e ro fl,H[j]?=some (Blk.row n e ro fl fam)→j=r∨e.length≤els.length):=by
 cases h with
 | nil=>exact .inl ⟨rfl,rfl,rfl⟩
 | row h1 h2 h3 h4=>exact .inr ⟨_,rfl,h2,h3,(List.getElem?_eq_some_iff.1 h2).1,h4⟩
def nextV (H:Heap) (l:AV) (els m:List AV):AV:=if m=[] then l else .sref 1 H.length 0 (els++m).length
def nextH (H:Heap) (els m:List AV) (fam:Nat):Heap:=if m=[] then H else H++[.row 1 (els++m) false true fam]
theorem getA {H:Heap} {j:Nat} {b c:Blk} (h:(H++[b])[j]?=some c):H[j]?=some c∨(j=H.length∧b=c):=by
 rcases Nat.lt_or_ge j H.length with hj | hj
 ·rw[List.getElem?_append_left hj] at h
  exact .inl h
 ·rw[List.getElem?_append_right hj] at h
  have:j-H.length=0:=by
   have:=(List.getElem?_eq_some_iff.1 h).1
   simp at this
   omega
  rw[this] at h
  simp at h
  exact .inr ⟨by omega,h⟩
theorem Hold.fam_le {H:Heap} {l:AV} {els:List AV} {fam:Nat} (h:Hold H l els fam):fam≤H.length:=by
 cases h with
 | nil=>exact Nat.le_refl _
 | row _ _ h _=>omega
theorem Hold.next {H:Heap} {l:AV} {els:List AV} {fam:Nat} (h:Hold H l els fam) (hf:Fb H) (m:List AV):Hold (nextH H els m fam) (nextV H l els m) (els++m) (if m=[] then fam else fam)∧Fb (nextH H els m fam):=by
 have hle:=h.fam_le
 unfold nextH nextV
 by_cases hm:m=[]
 ·subst hm
  simp only[if_true,List.append_nil]
  exact ⟨h,hf⟩
 ·rw[if_neg hm,if_neg hm,if_neg hm]
  refine ⟨.row (by simp [hm]) (by simp) (by simp; omega) fun j n e ro fl hj=>?_,fun j n e ro fl f hj=>?_⟩
  ·rcases getA hj with hj2 | ⟨rfl,hj2⟩
   ·cases h with
    | nil=>
     have:=hf _ _ _ _ _ _ hj2
     omega
    | row h1 h2 h3 h4=>
     rcases h4 j n e ro fl hj2 with rfl | h5
     ·rw[h2] at hj2
      cases hj2
      simp
     ·right
      simp
      omega
   ·exact .inl rfl
  ·rcases getA hj with hj | ⟨_,hj⟩
   ·have:=hf _ _ _ _ _ _ hj
    simp
    omega
   ·cases hj
    simp
    omega
theorem Cl.next {H:Heap} {l:AV} {els:List AV} {fam:Nat} (hC:Cl H) (h:Hold H l els fam) (m:List AV):Cl (nextH H els m fam):=by
 unfold nextH
 split
 ·exact hC
 ·exact hC.push _ _ _ _ h.fam_le
def refsM (o:Bool):Nat→Sch→List (List UInt8)
 | 0,_=>[]
 | d+1,x=>(if x.s.op=14 then [x.s.name] else [])++(if o=true∧(x.s.op=9∨x.s.op=10) then [] else x.kids.flatMap (refsM o d))
theorem refsM_zero (o:Bool) (x:Sch):refsM o 0 x=[]:=(rfl)
theorem refsM_succ (o:Bool) (d:Nat) (x:Sch):refsM o (d+1) x=(if x.s.op=14 then [x.s.name] else [])++(if o=true∧(x.s.op=9∨x.s.op=10) then [] else x.kids.flatMap (refsM o d)):=(rfl)
theorem refs_len (o:Bool) : ∀ (d:Nat) (x:Sch),(refsM o d x).length≤cntM d x
 | 0,x=>by simp [refsM_zero]
 | d+1,x=>by
  rw[refsM_succ,cntM_succ,List.length_append]
  have h1:(if x.s.op=14 then [x.s.name] else []).length≤1:=by split<;>simp
  have h2:(if o=true∧(x.s.op=9∨x.s.op=10) then [] else x.kids.flatMap (refsM o d)).length≤(x.kids.map (cntM d)).sum:=by
   split
   ·simp
   ·rw[List.length_flatMap]
    exact sum_le x.kids fun y _=>refs_len o d y
  omega
structure OneRef (S:AV→List AV):Prop where
 ren : ∀ f a,(S a).map (AV.renN f 6)=S (AV.renN f 6 a)
 refs : ∀ a,(S a).flatMap (AV.refsN 6)=AV.refsN 6 a
theorem Fb.push {H:Heap} (h:Fb H) {n:Nat} {els:List AV} {ro fl:Bool} {f:Nat} (hf:f≤H.length):Fb (H++[.row n els ro fl f]):=fun j n' e ro' fl' f' hj=>by
 rcases getA hj with hj2 | ⟨_,hj2⟩
 ·have:=h _ _ _ _ _ _ hj2
  simp
  omega
 ·cases hj2
  simp
  omega
theorem Hold.box {H:Heap} {l:AV} {els:List AV} {fam:Nat} (h:Hold H l els fam) (n:Nat) (e:List AV) (ro fl:Bool) : ∃ fam2,Hold (H++[.row n e ro fl H.length]) l els fam2∧(fam2=fam∨(els=[]∧H.length≤fam2)):=by
 cases h with
 | nil=>exact ⟨_,.nil,.inr ⟨rfl,by simp⟩⟩
 | row h1 h2 h3 h4=>
  have hr:=(List.getElem?_eq_some_iff.1 h2).1
  refine ⟨fam,.row h1 (by rw[List.getElem?_append_left hr]; exact h2) (by simp; omega) (fun j n' e' ro' fl' hj=>?_),.inl rfl⟩
  rcases getA hj with hj2 | ⟨_,hj2⟩
  ·exact h4 _ _ _ _ _ hj2
  ·cases hj2
   omega
end Ago
set_option maxRecDepth 100000
set_option maxHeartbeats 4000000
namespace Ago
open Go (IntKind)
open Go.Op (bytesLess)
def withM (l:List (List UInt8)) (s:List UInt8):List (List UInt8):=l.takeWhile (fun x=>bytesLess x s)++s::(l.dropWhile fun x=>bytesLess x s).filter fun x=>!(x == s)
theorem take_while_at {α:Type} (p:α→Bool) : ∀ (l:List α) (k:Nat),k≤l.length→(l.take k).all p=true→(∀ y,l[k]?=some y→p y=false)→l.takeWhile p=l.take k∧l.dropWhile p=l.drop k
 | [],k,_,_,_=>by simp
 | x::l,0,_,_,h=>by
  have:=h x rfl
  simp [this]
 | x::l,k+1,hk,ha,h=>by
  simp only[List.take_succ_cons,List.all_cons,Bool.and_eq_true] at ha
  obtain ⟨h1,h2⟩:=take_while_at p l k (by simpa using hk) ha.2 (fun y hy=>h y (by simpa using hy))
  simp [ha.1,h1,h2]
theorem take_all_iff {α:Type} (p:α→Bool) {l:List α} {k:Nat} {y:α} (hy:l[k]?=some y) (ha:(l.take k).all p=true) (hp:p y=true):(l.take (k+1)).all p=true:=take_succ_all hy ha hp
theorem with_run (l:List (List UInt8)) (s:List UInt8) (hl:l.length<2^30):PRun CS 521 [.tsl 1 (l.map .str),.str s] (.tsl 1 ((withM l s).map .str)):=by
 refine prun_of ac521 rfl ?_
 (repeat' first|simp (disch:=omega) only[go_sem,ac521,enter,List.length_map]|(apply spl<;>intro h<;>try simp (disch:=omega) only[go_sem,h]))
 refine loop_of (α:=Nat) (fun k=>{ tmps:=slots 52 [(0,.tsl 1 (l.map .str)),(1,.str s),(5,outSl 1 0 ((l.take k).map .str)),(6,.int .i64 k)],heap:=outHp 1 0 ((l.take k).map .str),base:=0 }) (fun k=>k≤l.length∧(l.take k).all (fun x=>bytesLess x s)=true) (fun k=>l.length-k) 0 rfl ⟨Nat.zero_le _,rfl⟩ ?_
 rintro k ⟨hk,ha⟩
 have key : ∀ k,k≤l.length→(l.take k).all (fun x=>bytesLess x s)=true→(∀ y,l[k]?=some y→bytesLess y s=false)→withM l s=l.take k++s::(l.drop k).filter (fun x=>!(x == s)):=fun k hk ha h=>by
  obtain ⟨h1,h2⟩:=take_while_at (fun x=>bytesLess x s) l k hk ha h
  unfold withM
  rw[h1,h2]
 by_cases hc : ∃ y,l[k]?=some y∧bytesLess y s=true
 ·obtain ⟨y,hy,hb⟩:=hc
  have hlt:k<l.length:=(List.getElem?_eq_some_iff.1 hy).1
  have hy2:=map_get (g:=AV.str) hy
  have hlen:(l.take k).length=k:=by simp; omega
  have hnext:(l.take (k+1)).map AV.str=(l.take k).map AV.str++[.str y]:=by rw[List.take_add_one,hy]; simp
  obtain ⟨out,hout⟩ : ∃ out,(l.take k).map AV.str=out:=⟨_,rfl⟩
  have hol:out.length=k:=by rw[←hout]; simp; omega
  rw[hout] at hnext ⊢
  cases out with
  | nil=>
   (repeat' first|simp (disch:=omega) only[go_sem,hy2,hb,outSl,outHp,List.length_map]|(apply spl<;>intro h<;>try simp (disch:=omega) only[go_sem,h]))
   all_goals first | omega | skip
   refine ⟨k+1,?_,⟨hlt,take_all_iff _ hy ha hb⟩,by omega⟩
   simp only[hnext]
   rfl
  | cons z out=>
   simp only[List.length_cons] at hol
   (repeat' first|simp (disch:=omega) only[go_sem,hy2,hb,outSl,outHp,List.length_map]|(apply spl<;>intro h<;>try simp (disch:=omega) only[go_sem,h]))
   all_goals first | omega | skip
   refine ⟨k+1,?_,⟨hlt,take_all_iff _ hy ha hb⟩,by omega⟩
   simp only[hnext,List.cons_append,outSl,outHp,List.length_append,List.length_cons,List.length_nil]
   rfl
 ·have hno : ∀ y,l[k]?=some y→bytesLess y s=false:=fun y hy=>by
   cases h:bytesLess y s with
   | false=>rfl
   | true=>exact (hc ⟨y,hy,h⟩).elim
  have hw:=key k hk ha hno
  rw[hw]
  obtain ⟨G,hG⟩ : ∃ G:Nat→List (List UInt8),∀ j,G j=l.take k++s::((l.take j).drop k).filter (fun x=>!(x == s)):=⟨_,fun _=>rfl⟩
  have hG0:(G k).map AV.str=(l.take k).map .str++[.str s]:=by rw[hG]; simp
  have hGe : ∀ j,l.length≤j→G j=l.take k++s::(l.drop k).filter (fun x=>!(x == s)):=fun j hj=>by rw[hG,List.take_of_length_le hj]
  have hGs : ∀ j y,k≤j→l[j]?=some y→(G (j+1)).map AV.str=(G j).map .str++(if y=s then [] else [.str y]):=fun j y hj hy=>by
   have h1:j<l.length:=(List.getElem?_eq_some_iff.1 hy).1
   rw[hG,hG,List.take_add_one,hy,List.drop_append_of_le_length (by simp; omega)]
   by_cases h:y=s
   ·simp [h]
   ·simp [h]
  have hGl : ∀ j,(G j).length≤j+1∨j<k:=fun j=>by
   rcases Nat.lt_or_ge j k with h | h
   ·exact .inr h
   ·left
    rw[hG]
    have:=List.length_filter_le (fun x=>!(x == s)) ((l.take j).drop k)
    simp only[List.length_append,List.length_cons,List.length_take,List.length_drop] at this ⊢
    omega
  have hGn : ∀ j,∃ z zs,(G j).map AV.str=z::zs:=fun j=>by
   rw[hG]
   cases l.take k with
   | nil=>exact ⟨_,_,rfl⟩
   | cons a b=>exact ⟨_,_,rfl⟩
  obtain ⟨out,hout⟩ : ∃ out,(l.take k).map AV.str=out:=⟨_,rfl⟩
  have hol:out.length=k:=by rw[←hout]; simp; omega
  rw[hout] at hG0 ⊢
  cases out with
  | nil=>
   simp only[List.length_nil] at hol
   subst hol
   by_cases hlt:0<l.length
   ·obtain ⟨y,hy⟩:=get_some hlt
    have hy2:=map_get (g:=AV.str) hy
    have hb:=hno y hy
    (repeat' first|simp (disch:=omega) only[go_sem,hy2,hb,outSl,outHp,List.length_map]|(apply spl<;>intro h<;>try simp (disch:=omega) only[go_sem,h]))
    all_goals first | omega | skip
    refine loop_of (α:=Nat) (fun j=>{ tmps:=slots 52 [(0,.tsl 1 (l.map .str)),(1,.str s),(5,.sref 1 0 0 (G j).length),(6,.int .i64 j)],heap:=[.row 1 ((G j).map .str) false true 0],base:=0 }) (fun j=>j≤l.length∧0≤j) (fun j=>l.length-j) 0 (by
     have hGk:(G 0).length=0+1:=by
      have:=congrArg List.length hG0
      simp at this
      omega
     simp only[hG0,hGk]
     try rfl) ⟨hk,Nat.le_refl _⟩ ?_
    rintro j ⟨hj,hkj⟩
    have hgl:=hGl j
    by_cases hlt:j<l.length
    ·obtain ⟨y,hy⟩:=get_some hlt
     have hy2:=map_get (g:=AV.str) hy
     have hgs:=hGs j y hkj hy
     have hgl2:(G (j+1)).length=(G j).length+(if y=s then 0 else 1):=by
      have:=congrArg List.length hgs
      split at this<;>simp at this<;>split<;>simp_all
     by_cases hys:y=s
     ·have hyb:(y == s)=true:=by simp [hys]
      rw[if_pos hys] at hgs hgl2
      (repeat' first|simp (disch:=omega) only[go_sem,hy2,hyb,List.length_map]|(apply spl<;>intro h<;>try simp (disch:=omega) only[go_sem,h]))
      all_goals first | omega | skip
      all_goals (refine ⟨j+1,?_,(by first | exact ⟨hlt,by omega⟩ | exact hlt),by omega⟩; simp only[hgs,hgl2,List.append_nil,Nat.add_zero]; try rfl)
     ·have hyb:(y == s)=false:=by simp [hys]
      rw[if_neg hys] at hgs hgl2
      (repeat' first|simp (disch:=omega) only[go_sem,hy2,hyb,List.length_map]|(apply spl<;>intro h<;>try simp (disch:=omega) only[go_sem,h]))
      all_goals first | omega | skip
      all_goals (refine ⟨j+1,?_,(by first | exact ⟨hlt,by omega⟩ | exact hlt),by omega⟩; simp only[hgs,hgl2]; try rfl)
    ·rw[←hGe j (by omega)]
     have hgl3:=List.take_of_length_le (l:=(G j).map AV.str) (i:=(G j).length) (by simp)
     (repeat' first|simp (disch:=omega) only[go_sem,List.length_map,hgl3]|(apply spl<;>intro h<;>try simp (disch:=omega) only[go_sem,h]))
     all_goals first | omega | skip
   ·(repeat' first|simp (disch:=omega) only[go_sem,outSl,outHp,List.length_map]|(apply spl<;>intro h<;>try simp (disch:=omega) only[go_sem,h]))
    all_goals first | omega | skip
    refine loop_of (α:=Nat) (fun j=>{ tmps:=slots 52 [(0,.tsl 1 (l.map .str)),(1,.str s),(5,.sref 1 0 0 (G j).length),(6,.int .i64 j)],heap:=[.row 1 ((G j).map .str) false true 0],base:=0 }) (fun j=>j≤l.length∧0≤j) (fun j=>l.length-j) 0 (by
     have hGk:(G 0).length=0+1:=by
      have:=congrArg List.length hG0
      simp at this
      omega
     simp only[hG0,hGk]
     try rfl) ⟨hk,Nat.le_refl _⟩ ?_
    rintro j ⟨hj,hkj⟩
    have hgl:=hGl j
    by_cases hlt:j<l.length
    ·obtain ⟨y,hy⟩:=get_some hlt
     have hy2:=map_get (g:=AV.str) hy
     have hgs:=hGs j y hkj hy
     have hgl2:(G (j+1)).length=(G j).length+(if y=s then 0 else 1):=by
      have:=congrArg List.length hgs
      split at this<;>simp at this<;>split<;>simp_all
     by_cases hys:y=s
     ·have hyb:(y == s)=true:=by simp [hys]
      rw[if_pos hys] at hgs hgl2
      (repeat' first|simp (disch:=omega) only[go_sem,hy2,hyb,List.length_map]|(apply spl<;>intro h<;>try simp (disch:=omega) only[go_sem,h]))
      all_goals first | omega | skip
      all_goals (refine ⟨j+1,?_,(by first | exact ⟨hlt,by omega⟩ | exact hlt),by omega⟩; simp only[hgs,hgl2,List.append_nil,Nat.add_zero]; try rfl)
     ·have hyb:(y == s)=false:=by simp [hys]
      rw[if_neg hys] at hgs hgl2
      (repeat' first|simp (disch:=omega) only[go_sem,hy2,hyb,List.length_map]|(apply spl<;>intro h<;>try simp (disch:=omega) only[go_sem,h]))
      all_goals first | omega | skip
      all_goals (refine ⟨j+1,?_,(by first | exact ⟨hlt,by omega⟩ | exact hlt),by omega⟩; simp only[hgs,hgl2]; try rfl)
    ·rw[←hGe j (by omega)]
     have hgl3:=List.take_of_length_le (l:=(G j).map AV.str) (i:=(G j).length) (by simp)
     (repeat' first|simp (disch:=omega) only[go_sem,List.length_map,hgl3]|(apply spl<;>intro h<;>try simp (disch:=omega) only[go_sem,h]))
     all_goals first | omega | skip
  | cons z out=>
   simp only[List.length_cons] at hol
   subst hol
   by_cases hlt:out.length+1<l.length
   ·obtain ⟨y,hy⟩:=get_some hlt
    have hy2:=map_get (g:=AV.str) hy
    have hb:=hno y hy
    (repeat' first|simp (disch:=omega) only[go_sem,hy2,hb,outSl,outHp,List.length_map]|(apply spl<;>intro h<;>try simp (disch:=omega) only[go_sem,h]))
    all_goals first | omega | skip
    refine loop_of (α:=Nat) (fun j=>{ tmps:=slots 52 [(0,.tsl 1 (l.map .str)),(1,.str s),(5,.sref 1 0 0 (G j).length),(6,.int .i64 j)],heap:=[.row 1 ((G j).map .str) false true 0],base:=0 }) (fun j=>j≤l.length∧(out.length+1)≤j) (fun j=>l.length-j) (out.length+1) (by
     have hGk:(G (out.length+1)).length=(out.length+1)+1:=by
      have:=congrArg List.length hG0
      simp at this
      omega
     simp only[hG0,hGk]
     try rfl) ⟨hk,Nat.le_refl _⟩ ?_
    rintro j ⟨hj,hkj⟩
    have hgl:=hGl j
    by_cases hlt:j<l.length
    ·obtain ⟨y,hy⟩:=get_some hlt
     have hy2:=map_get (g:=AV.str) hy
     have hgs:=hGs j y hkj hy
     have hgl2:(G (j+1)).length=(G j).length+(if y=s then 0 else 1):=by
      have:=congrArg List.length hgs
      split at this<;>simp at this<;>split<;>simp_all
     by_cases hys:y=s
     ·have hyb:(y == s)=true:=by simp [hys]
      rw[if_pos hys] at hgs hgl2
      (repeat' first|simp (disch:=omega) only[go_sem,hy2,hyb,List.length_map]|(apply spl<;>intro h<;>try simp (disch:=omega) only[go_sem,h]))
      all_goals first | omega | skip
      all_goals (refine ⟨j+1,?_,(by first | exact ⟨hlt,by omega⟩ | exact hlt),by omega⟩; simp only[hgs,hgl2,List.append_nil,Nat.add_zero]; try rfl)
     ·have hyb:(y == s)=false:=by simp [hys]
      rw[if_neg hys] at hgs hgl2
      (repeat' first|simp (disch:=omega) only[go_sem,hy2,hyb,List.length_map]|(apply spl<;>intro h<;>try simp (disch:=omega) only[go_sem,h]))
      all_goals first | omega | skip
      all_goals (refine ⟨j+1,?_,(by first | exact ⟨hlt,by omega⟩ | exact hlt),by omega⟩; simp only[hgs,hgl2]; try rfl)
    ·rw[←hGe j (by omega)]
     have hgl3:=List.take_of_length_le (l:=(G j).map AV.str) (i:=(G j).length) (by simp)
     (repeat' first|simp (disch:=omega) only[go_sem,List.length_map,hgl3]|(apply spl<;>intro h<;>try simp (disch:=omega) only[go_sem,h]))
     all_goals first | omega | skip
   ·(repeat' first|simp (disch:=omega) only[go_sem,outSl,outHp,List.length_map]|(apply spl<;>intro h<;>try simp (disch:=omega) only[go_sem,h]))
    all_goals first | omega | skip
    refine loop_of (α:=Nat) (fun j=>{ tmps:=slots 52 [(0,.tsl 1 (l.map .str)),(1,.str s),(5,.sref 1 0 0 (G j).length),(6,.int .i64 j)],heap:=[.row 1 ((G j).map .str) false true 0],base:=0 }) (fun j=>j≤l.length∧(out.length+1)≤j) (fun j=>l.length-j) (out.length+1) (by
     have hGk:(G (out.length+1)).length=(out.length+1)+1:=by
      have:=congrArg List.length hG0
      simp at this
      omega
     simp only[hG0,hGk]
     try rfl) ⟨hk,Nat.le_refl _⟩ ?_
    rintro j ⟨hj,hkj⟩
    have hgl:=hGl j
    by_cases hlt:j<l.length
    ·obtain ⟨y,hy⟩:=get_some hlt
     have hy2:=map_get (g:=AV.str) hy
     have hgs:=hGs j y hkj hy
     have hgl2:(G (j+1)).length=(G j).length+(if y=s then 0 else 1):=by
      have:=congrArg List.length hgs
      split at this<;>simp at this<;>split<;>simp_all
     by_cases hys:y=s
     ·have hyb:(y == s)=true:=by simp [hys]
      rw[if_pos hys] at hgs hgl2
      (repeat' first|simp (disch:=omega) only[go_sem,hy2,hyb,List.length_map]|(apply spl<;>intro h<;>try simp (disch:=omega) only[go_sem,h]))
      all_goals first | omega | skip
      all_goals (refine ⟨j+1,?_,(by first | exact ⟨hlt,by omega⟩ | exact hlt),by omega⟩; simp only[hgs,hgl2,List.append_nil,Nat.add_zero]; try rfl)
     ·have hyb:(y == s)=false:=by simp [hys]
      rw[if_neg hys] at hgs hgl2
      (repeat' first|simp (disch:=omega) only[go_sem,hy2,hyb,List.length_map]|(apply spl<;>intro h<;>try simp (disch:=omega) only[go_sem,h]))
      all_goals first | omega | skip
      all_goals (refine ⟨j+1,?_,(by first | exact ⟨hlt,by omega⟩ | exact hlt),by omega⟩; simp only[hgs,hgl2]; try rfl)
    ·rw[←hGe j (by omega)]
     have hgl3:=List.take_of_length_le (l:=(G j).map AV.str) (i:=(G j).length) (by simp)
     (repeat' first|simp (disch:=omega) only[go_sem,List.length_map,hgl3]|(apply spl<;>intro h<;>try simp (disch:=omega) only[go_sem,h]))
     all_goals first | omega | skip
end Ago
set_option maxRecDepth 100000
set_option maxHeartbeats 4000000
namespace Ago
open Go (IntKind)
open Go.Op (bytesLess)
theorem withM_len (l:List (List UInt8)) (s:List UInt8):(withM l s).length≤l.length+1:=by
 unfold withM
 have h1:(l.takeWhile (fun x=>bytesLess x s)).length+(l.dropWhile (fun x=>bytesLess x s)).length=l.length:=by
  rw[←List.length_append,List.takeWhile_append_dropWhile]
 have h2:=List.length_filter_le (fun x=>!(x == s)) (l.dropWhile fun x=>bytesLess x s)
 simp only[List.length_append,List.length_cons]
 omega
theorem withM_ne (l:List (List UInt8)) (s:List UInt8):withM l s≠[]:=by
 unfold withM
 simp
theorem fold_len : ∀ (m out:List (List UInt8)),(m.foldl withM out).length≤out.length+m.length
 | [],out=>by simp
 | s::m,out=>by
  have:=fold_len m (withM out s)
  have:=withM_len out s
  simp only[List.foldl_cons,List.length_cons]
  omega
def namesM (o:Bool):Nat→Sch→List (List UInt8)
 | 0,_=>[]
 | d+1,x=>if o=true∧(x.s.op=9∨x.s.op=10) then (if x.s.op=14 then withM [] x.s.name else []) else x.kids.foldl (fun out y=>(namesM o d y).foldl withM out) (if x.s.op=14 then withM [] x.s.name else [])
theorem namesM_zero (o:Bool) (x:Sch):namesM o 0 x=[]:=(rfl)
theorem namesM_succ (o:Bool) (d:Nat) (x:Sch):namesM o (d+1) x=if o=true∧(x.s.op=9∨x.s.op=10) then (if x.s.op=14 then withM [] x.s.name else []) else x.kids.foldl (fun out y=>(namesM o d y).foldl withM out) (if x.s.op=14 then withM [] x.s.name else []):=(rfl)
theorem kfold_len (o:Bool) (d:Nat) (h : ∀ y,(namesM o d y).length≤cntM d y) : ∀ (l:List Sch) (out:List (List UInt8)),(l.foldl (fun out y=>(namesM o d y).foldl withM out) out).length≤out.length+(l.map (cntM d)).sum
 | [],out=>by simp
 | y::l,out=>by
  have h1:=kfold_len o d h l ((namesM o d y).foldl withM out)
  have h2:=fold_len (namesM o d y) out
  have h3:=h y
  simp only[List.foldl_cons,List.map_cons,List.sum_cons]
  omega
theorem names_len (o:Bool) : ∀ (d:Nat) (x:Sch),(namesM o d x).length≤cntM d x
 | 0,x=>by simp [namesM_zero]
 | d+1,x=>by
  rw[namesM_succ,cntM_succ]
  have h1:(if x.s.op=14 then withM [] x.s.name else []).length≤1:=by
   split
   ·exact withM_len _ _
   ·simp
  have h2:=kfold_len o d (names_len o d) x.kids (if x.s.op=14 then withM [] x.s.name else [])
  split
  ·omega
  ·omega
def nilT (l:List (List UInt8)):AV:=if l=[] then .snil 1 else .tsl 1 (l.map .str)
theorem names_run (o:Bool) : ∀ (d:Nat) (D:Int),D=d→d<2^30→∀ x:Sch,x.bulk≤2^24→PRun CS 512 [encSch x,.int .i64 D,.bool o] (.tsl 1 ((namesM o d x).map .str)):=by
 intro d
 induction d with
 | zero=>
  intro D hD hd x hx
  refine prun_of ac512 rfl ?_
  rw[encSch_eq,namesM_zero]
  (repeat' first|simp (disch:=omega) only[go_sem,ac512,enter,List.length_map]|(apply spl<;>intro h<;>try simp (disch:=omega) only[go_sem,h]))
  all_goals omega
 | succ d ih=>
  intro D hD hd x hx
  have L:=Sch.lens hx
  have hp:=refParts_run x hx
  have hkl:=kids_len x
  have hw0:=with_run [] x.s.name (by simp)
  rw[namesM_succ]
  obtain ⟨F,hF⟩ : ∃ F:Nat→List (List UInt8),∀ k,F k=(x.kids.take k).foldl (fun out y=>(namesM o d y).foldl withM out) (if x.s.op=14 then withM [] x.s.name else []):=⟨_,fun _=>rfl⟩
  have hF0:F 0=if x.s.op=14 then withM [] x.s.name else []:=by rw[hF]; rfl
  have hFs : ∀ k y,x.kids[k]?=some y→F (k+1)=(namesM o d y).foldl withM (F k):=fun k y hy=>by
   rw[hF,hF,List.take_add_one,hy]
   simp
  have hFe : ∀ k,x.kids.length≤k→F k=x.kids.foldl (fun out y=>(namesM o d y).foldl withM out) (if x.s.op=14 then withM [] x.s.name else []):=fun k hk=>by rw[hF,List.take_of_length_le hk]
  have hFl : ∀ k,k≤x.kids.length→(F k).length≤2^25:=fun k hk=>by
   rw[hF]
   have h1:(if x.s.op=14 then withM [] x.s.name else []).length≤1:=by
    split
    ·exact withM_len _ _
    ·simp
   have h2:=kfold_len o d (names_len o d) (x.kids.take k) (if x.s.op=14 then withM [] x.s.name else [])
   have h3:=sum_take_le (cntM d) x.kids k
   have h4:=cnt_le (d+1) x
   rw[cntM_succ] at h4
   omega
  by_cases h14:x.s.op=14
  ·rw[if_neg (by omega : ¬ (o=true∧(x.s.op=9∨x.s.op=10)))]
   rw[if_pos h14] at hF0
   have hne:=withM_ne [] x.s.name
   have hn0:nilT (F 0) = .tsl 1 ((withM [] x.s.name).map .str):=by
    rw[hF0]
    unfold nilT
    rw[if_neg hne]
   rw[encSch_eq] at hp ⊢
   refine prun_of ac512 rfl ?_
   cases o with
   | true=>
    (repeat' first|simp (disch:=omega) only[go_sem,ac512,enter,List.length_map]|refine pure_of _ (hp) ?_|refine pure_of _ (hw0) ?_|(apply spl<;>intro h<;>try simp (disch:=omega) only[go_sem,h]))
    all_goals first | omega | skip
    refine loop_of (α:=Nat) (fun k=>{ tmps:=slots 63 [(1,.int .i64 D),(2,.bool true),(7,nilT (F k)),(8,.tsl 15 (x.kids.map encSch)),(9,.int .i64 k)],heap:=[],base:=0 }) (fun k=>k≤x.kids.length) (fun k=>x.kids.length-k) 0 (by simp only[hn0]; rfl) (Nat.zero_le _) ?_
    rintro k hk
    obtain ⟨out,hout⟩ : ∃ out,F k=out:=⟨_,rfl⟩
    have hol:=hFl k hk
    rw[hout] at hol
    by_cases hlt:k<x.kids.length
    ·obtain ⟨y,hy⟩:=get_some hlt
     have hym:=List.mem_of_getElem? hy
     have hy2:=map_get (g:=encSch) hy
     have hyb:y.bulk≤2^24:=by have:=Sch.kids_bulk hym; omega
     have hr:=ih (D-1) (by omega) (by omega) y hyb
     have hFs:=hFs k y hy
     have hml:=names_len true d y
     have hcy:=cnt_le d y
     obtain ⟨m,hm⟩ : ∃ m,namesM true d y=m:=⟨_,rfl⟩
     rw[hm] at hr hml
     rw[hm,hout] at hFs
     rw[encSch_eq] at hy2 hr
     simp only[hout]
     (repeat' first|simp (disch:=omega) only[go_sem,hy2,List.length_map]|refine pure_of _ (hr) ?_|(apply spl<;>intro h<;>try simp (disch:=omega) only[go_sem,h]))
     all_goals first | omega | skip
     refine loop_of (α:=Nat) (fun j=>{ tmps:=slots 63 [(1,.int .i64 D),(2,.bool true),(7,nilT ((m.take j).foldl withM out)),(8,.tsl 15 (x.kids.map encSch)),(9,.int .i64 k),(10,.tsl 1 (m.map .str)),(11,.int .i64 j)],heap:=[],base:=0 }) (fun j=>j≤m.length) (fun j=>m.length-j) 0 (by
      have e:(m.take 0).foldl withM out=out:=by simp
      simp only[e,nilT]
      split<;>rfl) (Nat.zero_le _) ?_
     intro j hj
     have hfl:=fold_len (m.take j) out
     have htl:(m.take j).length≤m.length:=by simp only[List.length_take]; omega
     by_cases hlt2:j<m.length
     ·obtain ⟨s,hs⟩:=get_some hlt2
      have hs2:=map_get (g:=AV.str) hs
      have hfs:(m.take (j+1)).foldl withM out=withM ((m.take j).foldl withM out) s:=by
       rw[List.take_add_one,hs]
       simp
      obtain ⟨cur,hcur⟩ : ∃ cur,(m.take j).foldl withM out=cur:=⟨_,rfl⟩
      rw[hcur] at hfs hfl
      have hw:=with_run cur s (by omega)
      have hne:=withM_ne cur s
      have hnT:nilT ((m.take (j+1)).foldl withM out) = .tsl 1 ((withM cur s).map .str):=by
       rw[hfs]
       unfold nilT
       rw[if_neg hne]
      simp only[hcur]
      cases cur with
      | nil=>
       have e1:nilT [] = .snil 1:=rfl
       (repeat' first|simp (disch:=omega) only[go_sem,hs2,List.length_map,e1]|refine pure_of _ (hw) ?_|(apply spl<;>intro h<;>try simp (disch:=omega) only[go_sem,h]))
       all_goals first | omega | skip
       refine ⟨j+1,?_,hlt2,by omega⟩
       simp only[hnT]
       rfl
      | cons z zs=>
       have e1:nilT (z::zs) = .tsl 1 ((z::zs).map .str):=rfl
       rw[←e1] at hw
       have e2:nilT (z::zs) = .tsl 1 (AV.str z::zs.map .str):=rfl
       rw[e2] at hw
       (repeat' first|simp (disch:=omega) only[go_sem,hs2,List.length_map,e2]|refine pure_of _ (hw) ?_|(apply spl<;>intro h<;>try simp (disch:=omega) only[go_sem,h]))
       all_goals first | omega | skip
       refine ⟨j+1,?_,hlt2,by omega⟩
       simp only[hnT]
       rfl
     ·have hjl:m.take j=m:=List.take_of_length_le (by omega)
      simp only[hjl]
      (repeat' first|simp (disch:=omega) only[go_sem,List.length_map]|(apply spl<;>intro h<;>try simp (disch:=omega) only[go_sem,h]))
      all_goals first | omega | skip
      refine ⟨k+1,?_,hlt,by omega⟩
      simp only[hFs]
      unfold nilT
      split<;>rfl
    ·have hfe:=hFe k (by omega)
     rw[hout] at hfe
     rw[←hfe]
     simp only[hout]
     cases out with
     | nil=>
      have e1:nilT [] = .snil 1:=rfl
      (repeat' first|simp (disch:=omega) only[go_sem,List.length_map,e1]|(apply spl<;>intro h<;>try simp (disch:=omega) only[go_sem,h]))
      all_goals first | omega | skip
     | cons z zs=>
      have e2:nilT (z::zs) = .tsl 1 (AV.str z::zs.map .str):=rfl
      (repeat' first|simp (disch:=omega) only[go_sem,List.length_map,e2]|(apply spl<;>intro h<;>try simp (disch:=omega) only[go_sem,h]))
      all_goals first | omega | skip
   | false=>
    (repeat' first|simp (disch:=omega) only[go_sem,ac512,enter,List.length_map]|refine pure_of _ (hp) ?_|refine pure_of _ (hw0) ?_|(apply spl<;>intro h<;>try simp (disch:=omega) only[go_sem,h]))
    all_goals first | omega | skip
    refine loop_of (α:=Nat) (fun k=>{ tmps:=slots 63 [(1,.int .i64 D),(2,.bool false),(7,nilT (F k)),(8,.tsl 15 (x.kids.map encSch)),(9,.int .i64 k)],heap:=[],base:=0 }) (fun k=>k≤x.kids.length) (fun k=>x.kids.length-k) 0 (by simp only[hn0]; rfl) (Nat.zero_le _) ?_
    rintro k hk
    obtain ⟨out,hout⟩ : ∃ out,F k=out:=⟨_,rfl⟩
    have hol:=hFl k hk
    rw[hout] at hol
    by_cases hlt:k<x.kids.length
    ·obtain ⟨y,hy⟩:=get_some hlt
     have hym:=List.mem_of_getElem? hy
     have hy2:=map_get (g:=encSch) hy
     have hyb:y.bulk≤2^24:=by have:=Sch.kids_bulk hym; omega
     have hr:=ih (D-1) (by omega) (by omega) y hyb
     have hFs:=hFs k y hy
     have hml:=names_len false d y
     have hcy:=cnt_le d y
     obtain ⟨m,hm⟩ : ∃ m,namesM false d y=m:=⟨_,rfl⟩
     rw[hm] at hr hml
     rw[hm,hout] at hFs
     rw[encSch_eq] at hy2 hr
     simp only[hout]
     (repeat' first|simp (disch:=omega) only[go_sem,hy2,List.length_map]|refine pure_of _ (hr) ?_|(apply spl<;>intro h<;>try simp (disch:=omega) only[go_sem,h]))
     all_goals first | omega | skip
     refine loop_of (α:=Nat) (fun j=>{ tmps:=slots 63 [(1,.int .i64 D),(2,.bool false),(7,nilT ((m.take j).foldl withM out)),(8,.tsl 15 (x.kids.map encSch)),(9,.int .i64 k),(10,.tsl 1 (m.map .str)),(11,.int .i64 j)],heap:=[],base:=0 }) (fun j=>j≤m.length) (fun j=>m.length-j) 0 (by
      have e:(m.take 0).foldl withM out=out:=by simp
      simp only[e,nilT]
      split<;>rfl) (Nat.zero_le _) ?_
     intro j hj
     have hfl:=fold_len (m.take j) out
     have htl:(m.take j).length≤m.length:=by simp only[List.length_take]; omega
     by_cases hlt2:j<m.length
     ·obtain ⟨s,hs⟩:=get_some hlt2
      have hs2:=map_get (g:=AV.str) hs
      have hfs:(m.take (j+1)).foldl withM out=withM ((m.take j).foldl withM out) s:=by
       rw[List.take_add_one,hs]
       simp
      obtain ⟨cur,hcur⟩ : ∃ cur,(m.take j).foldl withM out=cur:=⟨_,rfl⟩
      rw[hcur] at hfs hfl
      have hw:=with_run cur s (by omega)
      have hne:=withM_ne cur s
      have hnT:nilT ((m.take (j+1)).foldl withM out) = .tsl 1 ((withM cur s).map .str):=by
       rw[hfs]
       unfold nilT
       rw[if_neg hne]
      simp only[hcur]
      cases cur with
      | nil=>
       have e1:nilT [] = .snil 1:=rfl
       (repeat' first|simp (disch:=omega) only[go_sem,hs2,List.length_map,e1]|refine pure_of _ (hw) ?_|(apply spl<;>intro h<;>try simp (disch:=omega) only[go_sem,h]))
       all_goals first | omega | skip
       refine ⟨j+1,?_,hlt2,by omega⟩
       simp only[hnT]
       rfl
      | cons z zs=>
       have e1:nilT (z::zs) = .tsl 1 ((z::zs).map .str):=rfl
       rw[←e1] at hw
       have e2:nilT (z::zs) = .tsl 1 (AV.str z::zs.map .str):=rfl
       rw[e2] at hw
       (repeat' first|simp (disch:=omega) only[go_sem,hs2,List.length_map,e2]|refine pure_of _ (hw) ?_|(apply spl<;>intro h<;>try simp (disch:=omega) only[go_sem,h]))
       all_goals first | omega | skip
       refine ⟨j+1,?_,hlt2,by omega⟩
       simp only[hnT]
       rfl
     ·have hjl:m.take j=m:=List.take_of_length_le (by omega)
      simp only[hjl]
      (repeat' first|simp (disch:=omega) only[go_sem,List.length_map]|(apply spl<;>intro h<;>try simp (disch:=omega) only[go_sem,h]))
      all_goals first | omega | skip
      refine ⟨k+1,?_,hlt,by omega⟩
      simp only[hFs]
      unfold nilT
      split<;>rfl
    ·have hfe:=hFe k (by omega)
     rw[hout] at hfe
     rw[←hfe]
     simp only[hout]
     cases out with
     | nil=>
      have e1:nilT [] = .snil 1:=rfl
      (repeat' first|simp (disch:=omega) only[go_sem,List.length_map,e1]|(apply spl<;>intro h<;>try simp (disch:=omega) only[go_sem,h]))
      all_goals first | omega | skip
     | cons z zs=>
      have e2:nilT (z::zs) = .tsl 1 (AV.str z::zs.map .str):=rfl
      (repeat' first|simp (disch:=omega) only[go_sem,List.length_map,e2]|(apply spl<;>intro h<;>try simp (disch:=omega) only[go_sem,h]))
      all_goals first | omega | skip
  ·rw[if_neg h14] at hF0
   have hn0:nilT (F 0) = .snil 1:=by
    rw[hF0]
    rfl
   by_cases ho:o=true∧(x.s.op=9∨x.s.op=10)
   ·rw[if_pos ho,if_neg h14]
    obtain ⟨rfl,ho⟩:=ho
    rw[encSch_eq]
    refine prun_of ac512 rfl ?_
    (repeat' first|simp (disch:=omega) only[go_sem,ac512,enter,List.length_map]|(apply spl<;>intro h<;>try simp (disch:=omega) only[go_sem,h]))
    all_goals first | omega | skip
   rw[if_neg ho]
   have hno:o=true→¬ x.s.op=9∧¬ x.s.op=10:=fun h=>⟨fun h2=>ho ⟨h,by omega⟩,fun h2=>ho ⟨h,by omega⟩⟩
   rw[encSch_eq] at hp ⊢
   refine prun_of ac512 rfl ?_
   cases o with
   | true=>
    obtain ⟨h9,h10⟩:=hno rfl
    (repeat' first|simp (disch:=omega) only[go_sem,ac512,enter,List.length_map]|refine pure_of _ (hp) ?_|(apply spl<;>intro h<;>try simp (disch:=omega) only[go_sem,h]))
    all_goals first | omega | skip
    refine loop_of (α:=Nat) (fun k=>{ tmps:=slots 63 [(1,.int .i64 D),(2,.bool true),(7,nilT (F k)),(8,.tsl 15 (x.kids.map encSch)),(9,.int .i64 k)],heap:=[],base:=0 }) (fun k=>k≤x.kids.length) (fun k=>x.kids.length-k) 0 (by simp only[hn0]; rfl) (Nat.zero_le _) ?_
    rintro k hk
    obtain ⟨out,hout⟩ : ∃ out,F k=out:=⟨_,rfl⟩
    have hol:=hFl k hk
    rw[hout] at hol
    by_cases hlt:k<x.kids.length
    ·obtain ⟨y,hy⟩:=get_some hlt
     have hym:=List.mem_of_getElem? hy
     have hy2:=map_get (g:=encSch) hy
     have hyb:y.bulk≤2^24:=by have:=Sch.kids_bulk hym; omega
     have hr:=ih (D-1) (by omega) (by omega) y hyb
     have hFs:=hFs k y hy
     have hml:=names_len true d y
     have hcy:=cnt_le d y
     obtain ⟨m,hm⟩ : ∃ m,namesM true d y=m:=⟨_,rfl⟩
     rw[hm] at hr hml
     rw[hm,hout] at hFs
     rw[encSch_eq] at hy2 hr
     simp only[hout]
     (repeat' first|simp (disch:=omega) only[go_sem,hy2,List.length_map]|refine pure_of _ (hr) ?_|(apply spl<;>intro h<;>try simp (disch:=omega) only[go_sem,h]))
     all_goals first | omega | skip
     refine loop_of (α:=Nat) (fun j=>{ tmps:=slots 63 [(1,.int .i64 D),(2,.bool true),(7,nilT ((m.take j).foldl withM out)),(8,.tsl 15 (x.kids.map encSch)),(9,.int .i64 k),(10,.tsl 1 (m.map .str)),(11,.int .i64 j)],heap:=[],base:=0 }) (fun j=>j≤m.length) (fun j=>m.length-j) 0 (by
      have e:(m.take 0).foldl withM out=out:=by simp
      simp only[e,nilT]
      split<;>rfl) (Nat.zero_le _) ?_
     intro j hj
     have hfl:=fold_len (m.take j) out
     have htl:(m.take j).length≤m.length:=by simp only[List.length_take]; omega
     by_cases hlt2:j<m.length
     ·obtain ⟨s,hs⟩:=get_some hlt2
      have hs2:=map_get (g:=AV.str) hs
      have hfs:(m.take (j+1)).foldl withM out=withM ((m.take j).foldl withM out) s:=by
       rw[List.take_add_one,hs]
       simp
      obtain ⟨cur,hcur⟩ : ∃ cur,(m.take j).foldl withM out=cur:=⟨_,rfl⟩
      rw[hcur] at hfs hfl
      have hw:=with_run cur s (by omega)
      have hne:=withM_ne cur s
      have hnT:nilT ((m.take (j+1)).foldl withM out) = .tsl 1 ((withM cur s).map .str):=by
       rw[hfs]
       unfold nilT
       rw[if_neg hne]
      simp only[hcur]
      cases cur with
      | nil=>
       have e1:nilT [] = .snil 1:=rfl
       (repeat' first|simp (disch:=omega) only[go_sem,hs2,List.length_map,e1]|refine pure_of _ (hw) ?_|(apply spl<;>intro h<;>try simp (disch:=omega) only[go_sem,h]))
       all_goals first | omega | skip
       refine ⟨j+1,?_,hlt2,by omega⟩
       simp only[hnT]
       rfl
      | cons z zs=>
       have e1:nilT (z::zs) = .tsl 1 ((z::zs).map .str):=rfl
       rw[←e1] at hw
       have e2:nilT (z::zs) = .tsl 1 (AV.str z::zs.map .str):=rfl
       rw[e2] at hw
       (repeat' first|simp (disch:=omega) only[go_sem,hs2,List.length_map,e2]|refine pure_of _ (hw) ?_|(apply spl<;>intro h<;>try simp (disch:=omega) only[go_sem,h]))
       all_goals first | omega | skip
       refine ⟨j+1,?_,hlt2,by omega⟩
       simp only[hnT]
       rfl
     ·have hjl:m.take j=m:=List.take_of_length_le (by omega)
      simp only[hjl]
      (repeat' first|simp (disch:=omega) only[go_sem,List.length_map]|(apply spl<;>intro h<;>try simp (disch:=omega) only[go_sem,h]))
      all_goals first | omega | skip
      refine ⟨k+1,?_,hlt,by omega⟩
      simp only[hFs]
      unfold nilT
      split<;>rfl
    ·have hfe:=hFe k (by omega)
     rw[hout] at hfe
     rw[←hfe]
     simp only[hout]
     cases out with
     | nil=>
      have e1:nilT [] = .snil 1:=rfl
      (repeat' first|simp (disch:=omega) only[go_sem,List.length_map,e1]|(apply spl<;>intro h<;>try simp (disch:=omega) only[go_sem,h]))
      all_goals first | omega | skip
     | cons z zs=>
      have e2:nilT (z::zs) = .tsl 1 (AV.str z::zs.map .str):=rfl
      (repeat' first|simp (disch:=omega) only[go_sem,List.length_map,e2]|(apply spl<;>intro h<;>try simp (disch:=omega) only[go_sem,h]))
      all_goals first | omega | skip
   | false=>
    (repeat' first|simp (disch:=omega) only[go_sem,ac512,enter,List.length_map]|refine pure_of _ (hp) ?_|(apply spl<;>intro h<;>try simp (disch:=omega) only[go_sem,h]))
    all_goals first | omega | skip
    refine loop_of (α:=Nat) (fun k=>{ tmps:=slots 63 [(1,.int .i64 D),(2,.bool false),(7,nilT (F k)),(8,.tsl 15 (x.kids.map encSch)),(9,.int .i64 k)],heap:=[],base:=0 }) (fun k=>k≤x.kids.length) (fun k=>x.kids.length-k) 0 (by simp only[hn0]; rfl) (Nat.zero_le _) ?_
    rintro k hk
    obtain ⟨out,hout⟩ : ∃ out,F k=out:=⟨_,rfl⟩
    have hol:=hFl k hk
    rw[hout] at hol
    by_cases hlt:k<x.kids.length
    ·obtain ⟨y,hy⟩:=get_some hlt
     have hym:=List.mem_of_getElem? hy
     have hy2:=map_get (g:=encSch) hy
     have hyb:y.bulk≤2^24:=by have:=Sch.kids_bulk hym; omega
     have hr:=ih (D-1) (by omega) (by omega) y hyb
     have hFs:=hFs k y hy
     have hml:=names_len false d y
     have hcy:=cnt_le d y
     obtain ⟨m,hm⟩ : ∃ m,namesM false d y=m:=⟨_,rfl⟩
     rw[hm] at hr hml
     rw[hm,hout] at hFs
     rw[encSch_eq] at hy2 hr
     simp only[hout]
     (repeat' first|simp (disch:=omega) only[go_sem,hy2,List.length_map]|refine pure_of _ (hr) ?_|(apply spl<;>intro h<;>try simp (disch:=omega) only[go_sem,h]))
     all_goals first | omega | skip
     refine loop_of (α:=Nat) (fun j=>{ tmps:=slots 63 [(1,.int .i64 D),(2,.bool false),(7,nilT ((m.take j).foldl withM out)),(8,.tsl 15 (x.kids.map encSch)),(9,.int .i64 k),(10,.tsl 1 (m.map .str)),(11,.int .i64 j)],heap:=[],base:=0 }) (fun j=>j≤m.length) (fun j=>m.length-j) 0 (by
      have e:(m.take 0).foldl withM out=out:=by simp
      simp only[e,nilT]
      split<;>rfl) (Nat.zero_le _) ?_
     intro j hj
     have hfl:=fold_len (m.take j) out
     have htl:(m.take j).length≤m.length:=by simp only[List.length_take]; omega
     by_cases hlt2:j<m.length
     ·obtain ⟨s,hs⟩:=get_some hlt2
      have hs2:=map_get (g:=AV.str) hs
      have hfs:(m.take (j+1)).foldl withM out=withM ((m.take j).foldl withM out) s:=by
       rw[List.take_add_one,hs]
       simp
      obtain ⟨cur,hcur⟩ : ∃ cur,(m.take j).foldl withM out=cur:=⟨_,rfl⟩
      rw[hcur] at hfs hfl
      have hw:=with_run cur s (by omega)
      have hne:=withM_ne cur s
      have hnT:nilT ((m.take (j+1)).foldl withM out) = .tsl 1 ((withM cur s).map .str):=by
       rw[hfs]
       unfold nilT
       rw[if_neg hne]
      simp only[hcur]
      cases cur with
      | nil=>
       have e1:nilT [] = .snil 1:=rfl
       (repeat' first|simp (disch:=omega) only[go_sem,hs2,List.length_map,e1]|refine pure_of _ (hw) ?_|(apply spl<;>intro h<;>try simp (disch:=omega) only[go_sem,h]))
       all_goals first | omega | skip
       refine ⟨j+1,?_,hlt2,by omega⟩
       simp only[hnT]
       rfl
      | cons z zs=>
       have e1:nilT (z::zs) = .tsl 1 ((z::zs).map .str):=rfl
       rw[←e1] at hw
       have e2:nilT (z::zs) = .tsl 1 (AV.str z::zs.map .str):=rfl
       rw[e2] at hw
       (repeat' first|simp (disch:=omega) only[go_sem,hs2,List.length_map,e2]|refine pure_of _ (hw) ?_|(apply spl<;>intro h<;>try simp (disch:=omega) only[go_sem,h]))
       all_goals first | omega | skip
       refine ⟨j+1,?_,hlt2,by omega⟩
       simp only[hnT]
       rfl
     ·have hjl:m.take j=m:=List.take_of_length_le (by omega)
      simp only[hjl]
      (repeat' first|simp (disch:=omega) only[go_sem,List.length_map]|(apply spl<;>intro h<;>try simp (disch:=omega) only[go_sem,h]))
      all_goals first | omega | skip
      refine ⟨k+1,?_,hlt,by omega⟩
      simp only[hFs]
      unfold nilT
      split<;>rfl
    ·have hfe:=hFe k (by omega)
     rw[hout] at hfe
     rw[←hfe]
     simp only[hout]
     cases out with
     | nil=>
      have e1:nilT [] = .snil 1:=rfl
      (repeat' first|simp (disch:=omega) only[go_sem,List.length_map,e1]|(apply spl<;>intro h<;>try simp (disch:=omega) only[go_sem,h]))
      all_goals first | omega | skip
     | cons z zs=>
      have e2:nilT (z::zs) = .tsl 1 (AV.str z::zs.map .str):=rfl
      (repeat' first|simp (disch:=omega) only[go_sem,List.length_map,e2]|(apply spl<;>intro h<;>try simp (disch:=omega) only[go_sem,h]))
      all_goals first | omega | skip
end Ago
set_option maxRecDepth 100000
set_option maxHeartbeats 4000000
namespace Ago
open Go (IntKind)
def R1 (ss:List (List UInt8)):Blk:=.row 1 (ss.map .str) false true 1
end Ago
set_option maxRecDepth 100000
set_option maxHeartbeats 4000000
namespace Ago
open Go (IntKind)
open Go.Op (bytesLess)
theorem bl_iff : ∀ a b:List UInt8,bytesLess a b=true↔a<b
 | [],[]=>by simp [bytesLess]
 | [],_::_=>by simp [bytesLess]
 | _::_,[]=>by simp [bytesLess]
 | a::x,b::y=>by
  have:=bl_iff x y
  simp only[bytesLess,Bool.or_eq_true,decide_eq_true_eq,Bool.and_eq_true,beq_iff_eq,List.cons_lt_cons_iff,this]
theorem lt_trans' {a b c:List UInt8} (h1:a<b) (h2:b<c):a<c:=List.lt_trans h1 h2
theorem lt_irr (a:List UInt8) : ¬ a<a:=List.lt_irrefl a
theorem tri {a b:List UInt8} (h1 : ¬ a<b) (h2 : ¬ b<a):a=b:=List.le_antisymm (List.not_lt.1 h2) (List.not_lt.1 h1)
def Asc (l:List (List UInt8)):Prop:=l.Pairwise (· < ·)
theorem withM_mem (l:List (List UInt8)) (s x:List UInt8):x∈withM l s↔x=s∨x∈l:=by
 have hl:x∈l↔x∈l.takeWhile (fun y=>bytesLess y s)∨x∈l.dropWhile (fun y=>bytesLess y s):=by
  rw[←List.mem_append,List.takeWhile_append_dropWhile]
 unfold withM
 rw[hl]
 simp only[List.mem_append,List.mem_cons,List.mem_filter,Bool.not_eq_true',beq_eq_false_iff_ne]
 constructor
 ·rintro (h | h | ⟨h,_⟩)
  ·exact .inr (.inl h)
  ·exact .inl h
  ·exact .inr (.inr h)
 ·rintro (h | h | h)
  ·exact .inr (.inl h)
  ·exact .inl h
  ·by_cases e:x=s
   ·exact .inr (.inl e)
   ·exact .inr (.inr ⟨h,e⟩)
theorem mem_takeWhile {α:Type} {p:α→Bool} : ∀ {l:List α} {x:α},x∈l.takeWhile p→p x=true
 | y::l,x,h=>by
  by_cases hy:p y=true
  ·rw[List.takeWhile_cons_of_pos hy] at h
   rcases List.mem_cons.1 h with rfl | h
   ·exact hy
   ·exact mem_takeWhile h
  ·rw[List.takeWhile_cons_of_neg hy] at h
   cases h
theorem asc_drop {s:List UInt8} : ∀ {l:List (List UInt8)},Asc l→∀ x,x∈l.dropWhile (fun y=>bytesLess y s)→¬ x<s
 | y::l,ha,x,h=>by
  have ha':=List.pairwise_cons.1 ha
  by_cases hy:bytesLess y s=true
  ·rw[List.dropWhile_cons_of_pos (p:=fun y=>bytesLess y s) hy] at h
   exact asc_drop ha'.2 x h
  ·rw[List.dropWhile_cons_of_neg (p:=fun y=>bytesLess y s) hy] at h
   have hy2 : ¬ y<s:=fun e=>hy ((bl_iff _ _).2 e)
   rcases List.mem_cons.1 h with rfl | h
   ·exact hy2
   ·exact fun e=>hy2 (lt_trans' (ha'.1 x h) e)
theorem withM_asc {l:List (List UInt8)} {s:List UInt8} (h:Asc l):Asc (withM l s):=by
 unfold withM Asc
 rw[List.pairwise_append]
 refine ⟨List.Pairwise.sublist (List.takeWhile_sublist _) h,?_,fun a ha b hb=>?_⟩
 ·rw[List.pairwise_cons]
  refine ⟨fun b hb=>?_,?_⟩
  ·obtain ⟨h1,h2⟩:=List.mem_filter.1 hb
   have h3 : ¬ b=s:=by simpa using h2
   have h4:=asc_drop h b h1
   rcases Classical.em (s<b) with h5 | h5
   ·exact h5
   ·exact (h3 (tri h4 h5)).elim
  ·exact List.Pairwise.sublist (List.Sublist.trans List.filter_sublist (List.dropWhile_sublist _)) h
 ·have h1:a<s:=(bl_iff _ _).1 (mem_takeWhile (p:=fun x=>bytesLess x s) ha)
  rcases List.mem_cons.1 hb with rfl | hb
  ·exact h1
  ·obtain ⟨h2,h3⟩:=List.mem_filter.1 hb
   have h3 : ¬ b=s:=by simpa using h3
   have h4:=asc_drop h b h2
   rcases Classical.em (s<b) with h5 | h5
   ·exact lt_trans' h1 h5
   ·exact (h3 (tri h4 h5)).elim
theorem fold_with : ∀ (m out:List (List UInt8)),Asc out→Asc (m.foldl withM out)∧∀ x,x∈m.foldl withM out↔x∈out∨x∈m
 | [],out,h=>⟨h,fun x=>by simp⟩
 | s::m,out,h=>by
  obtain ⟨h1,h2⟩:=fold_with m (withM out s) (withM_asc h)
  refine ⟨h1,fun x=>?_⟩
  rw[List.foldl_cons,h2,withM_mem,List.mem_cons]
  constructor
  ·rintro ((h | h) | h)
   ·exact .inr (.inl h)
   ·exact .inl h
   ·exact .inr (.inr h)
  ·rintro (h | h | h)
   ·exact .inl (.inr h)
   ·exact .inl (.inl h)
   ·exact .inr h
theorem fold_kids {f g:Sch→List (List UInt8)} (h : ∀ y,Asc (f y)∧∀ x,x∈f y↔x∈g y) : ∀ (l:List Sch) (out:List (List UInt8)),Asc out→Asc (l.foldl (fun out y=>(f y).foldl withM out) out)∧∀ x,x∈l.foldl (fun out y=>(f y).foldl withM out) out↔x∈out∨x∈l.flatMap g
 | [],out,ho=>⟨ho,fun x=>by simp⟩
 | y::l,out,ho=>by
  obtain ⟨k1,k2⟩:=fold_with (f y) out ho
  obtain ⟨h1,h2⟩:=fold_kids h l ((f y).foldl withM out) k1
  refine ⟨h1,fun x=>?_⟩
  rw[List.foldl_cons,h2,k2,List.flatMap_cons,List.mem_append,(h y).2]
  constructor
  ·rintro ((h | h) | h)
   ·exact .inl h
   ·exact .inr (.inl h)
   ·exact .inr (.inr h)
  ·rintro (h | h | h)
   ·exact .inl (.inl h)
   ·exact .inl (.inr h)
   ·exact .inr h
theorem names_refs (o:Bool) : ∀ (d:Nat) (x:Sch),Asc (namesM o d x)∧∀ s,s∈namesM o d x↔s∈refsM o d x
 | 0,x=>by
  rw[namesM_zero,refsM_zero]
  exact ⟨List.Pairwise.nil,fun s=>Iff.rfl⟩
 | d+1,x=>by
  have hb:Asc (if x.s.op=14 then withM [] x.s.name else [])∧∀ s,s∈(if x.s.op=14 then withM [] x.s.name else [])↔s∈(if x.s.op=14 then [x.s.name] else []):=by
   split
   ·exact ⟨withM_asc .nil,fun s=>by rw[withM_mem]; simp⟩
   ·exact ⟨.nil,fun s=>Iff.rfl⟩
  rw[namesM_succ,refsM_succ]
  split
  ·refine ⟨hb.1,fun s=>?_⟩
   rw[hb.2,List.append_nil]
  ·obtain ⟨h1,h2⟩:=fold_kids (f:=namesM o d) (g:=refsM o d) (names_refs o d) x.kids _ hb.1
   refine ⟨h1,fun s=>?_⟩
   rw[h2,hb.2,List.mem_append]
end Ago
set_option maxRecDepth 100000
set_option maxHeartbeats 16000000
namespace Ago
open Go (IntKind)
def lkN (s:Schs) (n:List UInt8):List (List UInt8):=if (lkM s n).2=true then refsM true 48 (lkM s n).1 else []
def namN (s:Schs) (n:List UInt8):List (List UInt8):=if (lkM s n).2=true then namesM true 48 (lkM s n).1 else []
theorem namN_mem (s:Schs) (n x:List UInt8):x∈namN s n↔x∈lkN s n:=by
 unfold namN lkN
 split
 ·exact (names_refs true 48 _).2 x
 ·exact Iff.rfl
theorem lkN_def {s:Schs} {n x:List UInt8} (h:x∈lkN s n) : ∃ d,d∈s.defs∧d.1=n∧x∈refsM true 48 d.2:=by
 cases hf:s.defs.find? (fun d=>d.1 == n) with
 | none=>
  unfold lkN lkM at h
  rw[hf] at h
  simp at h
 | some d=>
  unfold lkN lkM at h
  rw[hf] at h
  simp only[if_true] at h
  exact ⟨d,List.mem_of_find?_eq_some hf,by have:=List.find?_some hf; simpa using this,h⟩
def foldN (s:Schs) (l all:List (List UInt8)):List (List UInt8):=l.foldl (fun all n=>(namN s n).foldl withM all) all
theorem foldN_mem (s:Schs) : ∀ (l all:List (List UInt8)),Asc all→Asc (foldN s l all)∧∀ x,x∈foldN s l all↔x∈all∨∃ n,n∈l∧x∈lkN s n
 | [],all,h=>⟨h,fun x=>by simp [foldN]⟩
 | n::l,all,h=>by
  obtain ⟨k1,k2⟩:=fold_with (namN s n) all h
  obtain ⟨h1,h2⟩:=foldN_mem s l _ k1
  refine ⟨h1,fun x=>?_⟩
  show x∈foldN s l ((namN s n).foldl withM all)↔_
  rw[h2,k2,namN_mem]
  constructor
  ·rintro ((h | h) | ⟨m,h3,h4⟩)
   ·exact .inl h
   ·exact .inr ⟨n,by simp,h⟩
   ·exact .inr ⟨m,by simp [h3],h4⟩
  ·rintro (h | ⟨m,h3,h4⟩)
   ·exact .inl (.inl h)
   ·rcases List.mem_cons.1 h3 with rfl | h3
    ·exact .inl (.inr h4)
    ·exact .inr ⟨m,h3,h4⟩
def iterN (s:Schs) (o:List (List UInt8)):Nat→List (List UInt8)
 | 0=>o
 | n+1=>foldN s (iterN s o n) (iterN s o n)
theorem iterN_asc (s:Schs) {o:List (List UInt8)} (h:Asc o) : ∀ n,Asc (iterN s o n)
 | 0=>h
 | n+1=>(foldN_mem s _ _ (iterN_asc s h n)).1
theorem iterN_mem (s:Schs) {o:List (List UInt8)} (h:Asc o) (n:Nat) (x:List UInt8):x∈iterN s o (n+1)↔x∈iterN s o n∨∃ m,m∈iterN s o n∧x∈lkN s m:=(foldN_mem s _ _ (iterN_asc s h n)).2 x
theorem iterN_le (s:Schs) {o:List (List UInt8)} (h:Asc o) {x:List UInt8} : ∀ {n m:Nat},n≤m→x∈iterN s o n→x∈iterN s o m:=by
 intro n m hnm hx
 obtain ⟨k,rfl⟩:=Nat.exists_eq_add_of_le hnm
 clear hnm
 induction k with
 | zero=>exact hx
 | succ k ih=>exact (iterN_mem s h _ x).2 (.inl ih)
inductive Rc (s:Schs) (o:List (List UInt8)):List UInt8→Prop where
 | base {x:List UInt8} (h:x∈o):Rc s o x
 | step {x y:List UInt8} (h:Rc s o x) (h2:y∈lkN s x):Rc s o y
theorem rc_iter {s:Schs} {o:List (List UInt8)} (h:Asc o) : ∀ (n:Nat) (x:List UInt8),x∈iterN s o n→Rc s o x
 | 0,x,hx=>.base hx
 | n+1,x,hx=>by
  rcases (iterN_mem s h n x).1 hx with h1 | ⟨m,h1,h2⟩
  ·exact rc_iter h n x h1
  ·exact .step (rc_iter h n m h1) h2
theorem count_eq {α:Type} {p q:α→Bool} : ∀ {l:List α},(∀ x,x∈l→p x=true→q x=true)→l.countP p≤l.countP q∧(l.countP p=l.countP q→∀ x,x∈l→q x=true→p x=true)
 | [],_=>⟨by simp,fun _ x h=>by cases h⟩
 | x::l,h=>by
  obtain ⟨h1,h2⟩:=count_eq (l:=l) fun y hy=>h y (List.mem_cons_of_mem _ hy)
  have h3:=h x (List.mem_cons_self ..)
  rw[List.countP_cons,List.countP_cons]
  cases hp:p x<;>cases hq:q x
  ·simp only[Bool.false_eq_true,if_false,Nat.add_zero]
   refine ⟨h1,fun e y hy hqy=>?_⟩
   rcases List.mem_cons.1 hy with rfl | hy
   ·rw[hq] at hqy
    cases hqy
   ·exact h2 e y hy hqy
  ·simp only[Bool.false_eq_true,if_false,if_true,Nat.add_zero]
   exact ⟨by omega,fun e=>by omega⟩
  ·have:=h3 hp
   rw[hq] at this
   cases this
  ·simp only[if_true]
   refine ⟨by omega,fun e y hy hqy=>?_⟩
   rcases List.mem_cons.1 hy with rfl | hy
   ·exact hp
   ·exact h2 (by omega) y hy hqy
theorem stand {f:Nat→Nat} {N:Nat} (hm : ∀ i,f i≤f (i+1)) (hb : ∀ i,f i≤N) : ∃ i,i≤N∧f i=f (i+1):=by
 rcases Classical.em (∃ i,i≤N∧f i=f (i+1)) with h | h
 ·exact h
 ·exfalso
  have key : ∀ i,i≤N+1→i≤f i:=by
   intro i
   induction i with
   | zero=>intro _; omega
   | succ i ih=>
    intro hi
    have h1:=ih (by omega)
    have h2:=hm i
    have h3:f i≠f (i+1):=fun e=>h ⟨i,by omega,e⟩
    omega
  have:=key (N+1) (Nat.le_refl _)
  have:=hb (N+1)
  omega
theorem iter_rc {s:Schs} {o:List (List UInt8)} (h:Asc o) {x:List UInt8} (hx:Rc s o x):x∈iterN s o (s.defs.length+1):=by
 obtain ⟨i,hi,he⟩:=stand (f:=fun i=>s.defs.countP fun d=>decide (d.1∈iterN s o i)) (N:=s.defs.length) (fun i=>(count_eq fun d _ hd=>by
  simp only[decide_eq_true_eq] at hd ⊢
  exact iterN_le s h (Nat.le_succ i) hd).1) (fun i=>List.countP_le_length)
 have hc:=(count_eq (l:=s.defs) (p:=fun d=>decide (d.1∈iterN s o i)) (q:=fun d=>decide (d.1∈iterN s o (i+1))) fun d _ hd=>by
  simp only[decide_eq_true_eq] at hd ⊢
  exact iterN_le s h (Nat.le_succ i) hd).2 he
 have hin : ∀ x,Rc s o x→x∈iterN s o (i+1):=by
  intro x hx
  induction hx with
  | base hb=>exact iterN_le s h (n:=0) (Nat.zero_le _) hb
  | step _ h2 ih=>
   obtain ⟨d,hd1,hd2,_⟩:=lkN_def h2
   have:=hc d hd1 (by simpa [hd2] using ih)
   rw[decide_eq_true_eq,hd2] at this
   exact (iterN_mem s h i _).2 (.inr ⟨_,this,h2⟩)
 exact iterN_le s h (by omega) (hin x hx)
def univN (s:Schs) (o:List (List UInt8)):List (List UInt8):=o++s.defs.flatMap fun d=>refsM true 48 d.2
theorem lkN_univ {s:Schs} {o:List (List UInt8)} {n x:List UInt8} (h:x∈lkN s n):x∈univN s o:=by
 obtain ⟨d,h1,_,h2⟩:=lkN_def h
 exact List.mem_append.2 (.inr (List.mem_flatMap.2 ⟨d,h1,h2⟩))
theorem nodup_le {α:Type} [DecidableEq α] : ∀ {l u:List α},l.Nodup→(∀ x,x∈l→x∈u)→l.length≤u.length
 | [],_,_,_=>Nat.zero_le _
 | x::l,u,hn,h=>by
  obtain ⟨h1,h2⟩:=List.nodup_cons.1 hn
  have hx:=h x (List.mem_cons_self ..)
  have:=nodup_le (l:=l) (u:=u.erase x) h2 fun y hy=>(List.mem_erase_of_ne (fun e=>h1 (by rw[←e]; exact hy))).2 (h y (List.mem_cons_of_mem _ hy))
  rw[List.length_erase_of_mem hx] at this
  have:0<u.length:=List.length_pos_of_mem hx
  simp only[List.length_cons]
  omega
theorem asc_nodup {l:List (List UInt8)} (h:Asc l):l.Nodup:=List.Pairwise.imp (S:=fun a b=>a≠b) (fun {a b} (hab:a<b) (e:a=b)=>lt_irr b (by rw[e] at hab; exact hab)) h
theorem univ_le (s:Schs) (o:List (List UInt8)):(univN s o).length≤o.length+s.bulk:=by
 unfold univN
 rw[List.length_append]
 have : ∀ l:List (List UInt8 × Sch),(l.flatMap fun d=>refsM true 48 d.2).length≤AV.bulks (l.map encDef):=by
  intro l
  induction l with
  | nil=>simp
  | cons d l ih=>
   have:=refs_len true 48 d.2
   have:=cnt_le 48 d.2
   have:=encDef_bulk d
   simp only[List.flatMap_cons,List.length_append,List.map_cons,AV.bulks]
   omega
 have:=this s.defs
 have:=s.bulk_eq
 omega
theorem asc_le {s:Schs} {o l:List (List UInt8)} (h:Asc l) (hl : ∀ x,x∈l→x∈univN s o):l.length≤o.length+s.bulk:=Nat.le_trans (nodup_le (asc_nodup h) hl) (univ_le s o)
def badM (s:Schs) (d:List UInt8 × Sch):Bool:=(iterN s (namesM true 48 (lkM s d.1).1) (s.defs.length+1)).any fun x=>x == d.1
theorem bad_iff (s:Schs) (d:List UInt8 × Sch):badM s d=true↔Rc s (refsM true 48 (lkM s d.1).1) d.1:=by
 have ha:=(names_refs true 48 (lkM s d.1).1).1
 have hm:=(names_refs true 48 (lkM s d.1).1).2
 have e1:badM s d=true↔d.1∈iterN s (namesM true 48 (lkM s d.1).1) (s.defs.length+1):=by
  unfold badM
  rw[List.any_eq_true]
  constructor
  ·rintro ⟨x,h1,h2⟩
   have:x=d.1:=by simpa using h2
   exact this▸h1
  ·exact fun h=>⟨_,h,by simp⟩
 rw[e1]
 have e2 : ∀ x,Rc s (namesM true 48 (lkM s d.1).1) x↔Rc s (refsM true 48 (lkM s d.1).1) x:=fun x=>by
  constructor
  ·intro h
   induction h with
   | base h=>exact .base ((hm _).1 h)
   | step _ h2 ih=>exact .step ih h2
  ·intro h
   induction h with
   | base h=>exact .base ((hm _).2 h)
   | step _ h2 ih=>exact .step ih h2
 rw[←e2]
 exact ⟨rc_iter ha _ _,iter_rc ha⟩
def guardM (s:Schs):List UInt8 × Bool:=match s.defs.find? (badM s) with
 | some d=>(d.1,false)
 | none=>([],true)
end Ago
set_option maxRecDepth 100000
set_option maxHeartbeats 16000000
namespace Ago
open Go (IntKind)
theorem fold_part {l all U:List (List UInt8)} (h:Asc all) (k:Nat):Asc ((l.take k).foldl withM all)∧∀ x,x∈(l.take k).foldl withM all→x∈all∨x∈l:=by
 obtain ⟨h1,h2⟩:=fold_with (l.take k) all h
 refine ⟨h1,fun x hx=>?_⟩
 rcases (h2 x).1 hx with h3 | h3
 ·exact .inl h3
 ·exact .inr (List.mem_of_mem_take h3)
theorem fold_snoc {α β:Type} (f:β→α→β) {l:List α} {k:Nat} {y:α} (b:β) (hy:l[k]?=some y):(l.take (k+1)).foldl f b=f ((l.take k).foldl f b) y:=by
 rw[List.take_add_one,hy]
 simp
theorem reached_run (s:Schs) (hs:s.bulk≤2^24) (x:Sch) (hx:x.bulk≤2^24):PRun CS 493 [encSchs s,encSch x] (.tsl 1 ((iterN s (namesM true 48 x) (s.defs.length+1)).map .str)):=by
 obtain ⟨hd1,hd2⟩:=Schs.dlen hs
 have hse:=encSchs_eq s
 obtain ⟨o,ho⟩ : ∃ o,namesM true 48 x=o:=⟨_,rfl⟩
 have hoa:Asc o:=by rw[←ho]; exact (names_refs true 48 x).1
 have hol:o.length≤2^24:=by
  rw[←ho]
  have:=names_len true 48 x
  have:=cnt_le 48 x
  omega
 have hU : ∀ {l:List (List UInt8)},Asc l→(∀ z,z∈l→z∈univN s o)→l.length≤2^25:=fun h1 h2=>by
  have:=asc_le h1 h2
  omega
 have hI : ∀ n,∀ z,z∈iterN s o n→z∈univN s o:=by
  intro n
  induction n with
  | zero=>exact fun z hz=>List.mem_append.2 (.inl hz)
  | succ n ih=>
   intro z hz
   rcases (iterN_mem s hoa n z).1 hz with h | ⟨m,_,h⟩
   ·exact ih z h
   ·exact lkN_univ h
 have hn:=names_run true 48 48 rfl (by decide) x hx
 rw[ho] at hn ⊢
 rw[encSch_eq] at hn
 refine prun_of ac493 rfl ?_
 rw[encSch_eq,encSchs_eq]
 (repeat' first|simp (disch:=omega) only[go_sem,ac493,enter,List.length_map]|refine pure_of _ (hn) ?_|(apply spl<;>intro h<;>try simp (disch:=omega) only[go_sem,h]))
 refine loop_of (α:=Nat) (fun n=>{ tmps:=slots 56 [(2,.ptr 16 0 0 0),(5,.tsl 1 ((iterN s o n).map .str)),(6,.int .i64 n)],heap:=[.row 16 [encSchs s] false true 0],base:=0 }) (fun n=>n≤s.defs.length+1) (fun n=>s.defs.length+1-n) 0 (by rw[hse]; rfl) (Nat.zero_le _) ?_
 intro n hnl
 rw[hse]
 obtain ⟨out,hout⟩ : ∃ out,iterN s o n=out:=⟨_,rfl⟩
 have houta:Asc out:=by rw[←hout]; exact iterN_asc s hoa n
 have houtU : ∀ z,z∈out→z∈univN s o:=by rw[←hout]; exact hI n
 have houtl:=hU houta houtU
 rw[hout]
 by_cases hlt:n<s.defs.length+1
 ·(repeat' first|simp (disch:=omega) only[go_sem,List.length_map]|(apply spl<;>intro h<;>try simp (disch:=omega) only[go_sem,h]))
  all_goals try omega
  refine loop_of (α:=Nat) (fun i=>{ tmps:=slots 56 [(2,.ptr 16 0 0 0),(5,.tsl 1 (out.map .str)),(6,.int .i64 n),(7,.tsl 1 ((foldN s (out.take i) out).map .str)),(8,.int .i64 i)],heap:=[.row 16 [encSchs s] false true 0],base:=0 }) (fun i=>i≤out.length) (fun i=>out.length-i) 0 (by rw[hse]; rfl) (Nat.zero_le _) ?_
  intro i hil
  rw[hse]
  obtain ⟨all,hall⟩ : ∃ all,foldN s (out.take i) out=all:=⟨_,rfl⟩
  have halla:Asc all:=by rw[←hall]; exact (foldN_mem s _ _ houta).1
  have hallU : ∀ z,z∈all→z∈univN s o:=by
   rw[←hall]
   intro z hz
   rcases ((foldN_mem s _ _ houta).2 z).1 hz with h | ⟨m,_,h⟩
   ·exact houtU z h
   ·exact lkN_univ h
  have halll:=hU halla hallU
  rw[hall]
  by_cases hilt:i<out.length
  ·obtain ⟨y,hy⟩:=get_some hilt
   have hy2:=map_get (g:=AV.str) hy
   have hl:=refLookup_run s y hs
   have hstep:foldN s (out.take (i+1)) out=(namN s y).foldl withM all:=by
    unfold foldN at hall ⊢
    rw[fold_snoc _ _ hy,hall]
   rw[encSchs_eq] at hl
   rw[encSch_eq] at hl
   have hnm:namN s y=if (lkM s y).2=true then namesM true 48 (lkM s y).1 else []:=rfl
   cases hb:(lkM s y).2 with
   | false=>
    rw[hb] at hl hnm
    rw[if_neg (by simp)] at hnm
    rw[hnm] at hstep
    (repeat' first|simp (disch:=omega) only[go_sem,hy2,List.length_map]|refine pure_of _ (hl) ?_|(apply spl<;>intro h<;>try simp (disch:=omega) only[go_sem,h]))
    all_goals try omega
    refine ⟨i+1,?_,hilt,by omega⟩
    simp only[hstep,List.foldl_nil]
    first | rfl | (rw[hse]; rfl)
   | true=>
    rw[hb] at hl hnm
    rw[if_pos rfl] at hnm
    have hyb:(lkM s y).1.bulk≤2^24:=by
     unfold lkM at hb ⊢
     split
     ·rename_i d hd
      have:=(hd2 d (List.mem_of_find?_eq_some hd)).1
      show d.2.bulk≤_
      omega
     ·rename_i hd
      rw[hd] at hb
      cases hb
    have hn2:=names_run true 48 48 rfl (by decide) (lkM s y).1 hyb
    rw[←hnm] at hn2
    rw[encSch_eq] at hn2
    have hml:(namN s y).length≤2^24:=by
     rw[hnm]
     have:=names_len true 48 (lkM s y).1
     have:=cnt_le 48 (lkM s y).1
     omega
    (repeat' first|simp (disch:=omega) only[go_sem,hy2,List.length_map]|refine pure_of _ (hl) ?_|refine pure_of _ (hn2) ?_|(apply spl<;>intro h<;>try simp (disch:=omega) only[go_sem,h]))
    all_goals try omega
    refine loop_of (α:=Nat) (fun k=>{ tmps:=slots 56 [(2,.ptr 16 0 0 0),(5,.tsl 1 (out.map .str)),(6,.int .i64 n),(7,.tsl 1 ((((namN s y).take k).foldl withM all).map .str)),(8,.int .i64 i),(11,.tsl 1 ((namN s y).map .str)),(12,.int .i64 k)],heap:=[.row 16 [encSchs s] false true 0],base:=0 }) (fun k=>k≤(namN s y).length) (fun k=>(namN s y).length-k) 0 (by rw[hse]; rfl) (Nat.zero_le _) ?_
    intro k hkl
    rw[hse]
    by_cases hkt:k<(namN s y).length
    ·obtain ⟨z,hz⟩:=get_some hkt
     have hz2:=map_get (g:=AV.str) hz
     obtain ⟨p1,p2⟩:=fold_part (l:=namN s y) (U:=[]) halla k
     have hpl:=hU p1 fun w hw=>(p2 w hw).elim (hallU w) fun h=>lkN_univ ((namN_mem s y w).1 h)
     have hw:=with_run (((namN s y).take k).foldl withM all) z (by omega)
     have hst:=fold_snoc withM all hz
     (repeat' first|simp (disch:=omega) only[go_sem,hz2,List.length_map]|refine pure_of _ (hw) ?_|(apply spl<;>intro h<;>try simp (disch:=omega) only[go_sem,h]))
     all_goals try omega
     refine ⟨k+1,?_,hkt,by omega⟩
     simp only[hst]
     first | rfl | (rw[hse]; rfl)
    ·rw[take_len hkt hkl,←hstep]
     (repeat' first|simp (disch:=omega) only[go_sem,List.length_map]|(apply spl<;>intro h<;>try simp (disch:=omega) only[go_sem,h]))
     all_goals try omega
     refine ⟨i+1,?_,hilt,by omega⟩
     first | rfl | (rw[hse]; rfl)
  ·rw[take_len hilt hil] at hall
   have hnx:all=iterN s o (n+1):=by rw[←hall,←hout]; rfl
   rw[hnx]
   (repeat' first|simp (disch:=omega) only[go_sem,List.length_map]|(apply spl<;>intro h<;>try simp (disch:=omega) only[go_sem,h]))
   all_goals try omega
   refine ⟨n+1,?_,by omega,by omega⟩
   first | rfl | (rw[hse]; rfl)
 ·have hn2:n=s.defs.length+1:=by omega
  rw[←hout,hn2]
  (repeat' first|simp (disch:=omega) only[go_sem,List.length_map]|(apply spl<;>intro h<;>try simp (disch:=omega) only[go_sem,h]))
  all_goals omega
theorem refGuarded_run (s:Schs) (hs:s.bulk≤2^24):PRun CS 460 [encSchs s] (.tup [.str (guardM s).1,.bool (guardM s).2]):=by
 obtain ⟨hd1,hd2⟩:=Schs.dlen hs
 have hse:=encSchs_eq s
 refine prun_of ac460 rfl ?_
 rw[encSchs_eq]
 (repeat' first|simp (disch:=omega) only[go_sem,ac460,enter,List.length_map]|(apply spl<;>intro h<;>try simp (disch:=omega) only[go_sem,h]))
 refine loop_of (α:=Nat) (fun k=>{ tmps:=slots 41 [(1,.ptr 16 0 0 0),(4,.int .i64 k)],heap:=[.row 16 [encSchs s] false true 0],base:=0 }) (fun k=>k≤s.defs.length∧(s.defs.take k).any (badM s)=false) (fun k=>s.defs.length-k) 0 (by rw[hse]; rfl) ⟨Nat.zero_le _,rfl⟩ ?_
 rintro k ⟨hk,ha⟩
 rw[hse]
 by_cases hlt:k<s.defs.length
 ·obtain ⟨d,hdk⟩:=get_some hlt
  have hdm:=List.mem_of_getElem? hdk
  have hde:=map_get (g:=encDef) hdk
  obtain ⟨hdb,hdn⟩:=hd2 d hdm
  have hl:=refLookup_run s d.1 hs
  have hxb:(lkM s d.1).1.bulk≤2^24:=by
   unfold lkM
   split
   ·rename_i e he
    have:=(hd2 e (List.mem_of_find?_eq_some he)).1
    show e.2.bulk≤_
    omega
   ·decide
  have hr:=reached_run s hs (lkM s d.1).1 hxb
  have hbd:badM s d=(iterN s (namesM true 48 (lkM s d.1).1) (s.defs.length+1)).any fun x=>x == d.1:=rfl
  have hih:(iterN s (namesM true 48 (lkM s d.1).1) (s.defs.length+1)).length<2^30:=by
   have hoa:=(names_refs true 48 (lkM s d.1).1).1
   have h1:=asc_le (s:=s) (o:=namesM true 48 (lkM s d.1).1) (iterN_asc s hoa (s.defs.length+1)) (fun z hz=>by
    have:=rc_iter hoa _ z hz
    induction this with
    | base h=>exact List.mem_append.2 (.inl h)
    | step _ h _=>exact lkN_univ h)
   have:=names_len true 48 (lkM s d.1).1
   have:=cnt_le 48 (lkM s d.1).1
   omega
  have hh:=has_run _ d.1 hih
  rw[←hbd] at hh
  rw[encSchs_eq] at hl hr
  rw[encSch_eq] at hl hr
  rw[encDef_eq] at hde
  cases hb:badM s d with
  | true=>
   have hg:guardM s=(d.1,false):=by unfold guardM; rw[find_at hdk ha hb]
   rw[hg]
   rw[hb] at hh
   (repeat' first|simp (disch:=omega) only[go_sem,hde,List.length_map]|refine pure_of _ (hl) ?_|refine pure_of _ (hr) ?_|refine pure_of _ (hh) ?_|(apply spl<;>intro h<;>try simp (disch:=omega) only[go_sem,h]))
  | false=>
   rw[hb] at hh
   (repeat' first|simp (disch:=omega) only[go_sem,hde,List.length_map]|refine pure_of _ (hl) ?_|refine pure_of _ (hr) ?_|refine pure_of _ (hh) ?_|(apply spl<;>intro h<;>try simp (disch:=omega) only[go_sem,h]))
   all_goals try omega
   refine ⟨k+1,?_,⟨hlt,take_any hdk ha hb⟩,by omega⟩
   first | rfl | (rw[hse]; rfl)
 ·rw[take_len hlt hk] at ha
  have hg:guardM s=([],true):=by unfold guardM; rw[find_none ha]
  rw[hg]
  (repeat' first|simp (disch:=omega) only[go_sem,List.length_map]|(apply spl<;>intro h<;>try simp (disch:=omega) only[go_sem,h]))
end Ago
