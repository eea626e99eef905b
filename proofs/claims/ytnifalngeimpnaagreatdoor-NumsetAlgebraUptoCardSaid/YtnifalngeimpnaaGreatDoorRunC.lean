/- numset: cuts,covers,parts of regions. -/
import Derived.Test.YtnifalngeimpnaaGreatDoorRunB
import Derived.Test.YtnifalngeimpnaaGreatDoorRunA
import Derived.Test.YtnifalngeimpnaaGreatDoorMachH
set_option linter.unusedSimpArgs false
set_option linter.unusedVariables false
set_option maxRecDepth 100000
set_option maxHeartbeats 4000000
namespace Ago
open Go (IntKind)
theorem cut_fin {c:Cut} (h:cutOk c) : -1≤c.fin∧c.fin≤1:=by
 rcases h with ⟨h,_⟩ | ⟨h | h,_⟩<;>omega
theorem compare_cut (a b:Cut) (ha:cutOk a) (hb:cutOk b):PRun CN 710 [encCut a,encCut b] (.int .i64 (cmpC a b)):=by
 have hc:=CmpI_run a.num b.num (cut_dec ha) (cut_dec hb)
 have fa:=cut_fin ha
 have fb:=cut_fin hb
 clear ha hb
 refine prun_of ac710 rfl ?_
 unfold cmpC
 generalize cmpM a.num b.num=c at *
 obtain ⟨f,⟨n,ds,e⟩,t⟩:=a
 obtain ⟨f',⟨n',ds',e'⟩,t'⟩:=b
 simp only[encCut,encDec] at *
 by_cases hf:f=f'
 ·subst hf
  by_cases h0:c=0
  ·subst h0
   cases t<;>cases t'
   all_goals
    (repeat' first|simp (disch:=omega) only[go_sem,ac710,enter]|refine pure_of _ (hc) ?_|(apply spl<;>intro h<;>try simp (disch:=omega) only[go_sem,h]))
    all_goals first | (simp; done) | (simp; omega) | omega | skip
  ·cases t<;>cases t'
   all_goals
    (repeat' first|simp (disch:=omega) only[go_sem,ac710,enter,h0]|refine pure_of _ (hc) ?_|(apply spl<;>intro h<;>try simp (disch:=omega) only[go_sem,h]))
    all_goals first | (simp [h0]; done) | (simp [h0]; omega) | omega | skip
 ·(repeat' first|simp (disch:=omega) only[go_sem,ac710,enter,hf]|refine pure_of _ (hc) ?_|(apply spl<;>intro h<;>try simp (disch:=omega) only[go_sem,h]))
  all_goals first | (simp [hf]; done) | (simp [hf]; omega) | omega | skip
theorem lower_run (b:Bnd):PRun CN 711 [encBnd b] (encCut (lowC b)):=by
 refine prun_of ac711 rfl ?_
 obtain ⟨s,⟨n,ds,e⟩,t⟩:=b
 unfold lowC
 cases s
 ·simp only[Bool.false_eq_true,if_false,encBnd,encCut,zeroD]
  (repeat' first|simp (disch:=omega) only[go_sem,ac711,enter]|(apply spl<;>intro h<;>try simp (disch:=omega) only[go_sem,h]))
  all_goals rfl
 ·simp only[if_true,encBnd,encCut]
  (repeat' first|simp (disch:=omega) only[go_sem,ac711,enter]|(apply spl<;>intro h<;>try simp (disch:=omega) only[go_sem,h]))
  all_goals rfl
theorem upper_run (b:Bnd):PRun CN 712 [encBnd b] (encCut (uppC b)):=by
 refine prun_of ac712 rfl ?_
 obtain ⟨s,⟨n,ds,e⟩,t⟩:=b
 unfold uppC
 cases s
 ·simp only[Bool.false_eq_true,if_false,encBnd,encCut,zeroD]
  (repeat' first|simp (disch:=omega) only[go_sem,ac712,enter]|(apply spl<;>intro h<;>try simp (disch:=omega) only[go_sem,h]))
  all_goals rfl
 ·simp only[if_true,encBnd,encCut]
  (repeat' first|simp (disch:=omega) only[go_sem,ac712,enter]|(apply spl<;>intro h<;>try simp (disch:=omega) only[go_sem,h]))
  all_goals rfl
theorem part_run (r:Reg):PRun CN 705 [encReg r] (.tup [encPrt (if liveR r=true then prtR r else ⟨⟨false,zeroD,false⟩,⟨false,zeroD,false⟩,0⟩),.bool (liveR r)]):=by
 refine prun_of ac705 rfl ?_
 obtain ⟨⟨f,⟨n,ds,e⟩,t⟩,⟨f',⟨n',ds',e'⟩,t'⟩,w,fr⟩:=r
 unfold liveR prtR bndLo bndHi srtR
 by_cases h1:f=0<;>by_cases h2:f'=0<;>cases w<;>cases fr<;>simp only[h1,h2,encReg,encPrt,zeroD,Bool.or_true,Bool.true_or,Bool.or_false,Bool.false_eq_true,if_true,if_false]
 all_goals
  (repeat' first|simp (disch:=omega) only[go_sem,ac705,enter,h1,h2]|(apply spl<;>intro h<;>try simp (disch:=omega) only[go_sem,h]))
  all_goals first | rfl | omega | skip
theorem covers_run (l:List Prt) (lo hi:Cut) (t:Int) (hl : ∀ p,p∈l→prtOk p=true) (hn:l.length<2^24) (h1:cutOk lo) (h2:cutOk hi):PRun CN 702 [encNS l,encCut lo,encCut hi,.int .i64 t] (.bool (covM l lo hi t)):=by
 refine prun_of ac702 rfl ?_
 unfold encNS covM
 have elo:=encCut.eq_1 lo
 have ehi:=encCut.eq_1 hi
 rw[elo,ehi]
 (repeat' first|simp (disch:=omega) only[go_sem,ac702,enter,List.length_map]|(apply spl<;>intro h<;>try simp (disch:=omega) only[go_sem,h]))
 refine loop_of (α:=Nat) (fun k=>{ tmps:=slots 44 [(3,.int .i64 t),(5,.ptr 5 0 0 0),(6,.ptr 5 1 0 0),(12,.tsl 11 (l.map encPrt)),(13,.int .i64 l.length),(14,.int .i64 k)],heap:=[.row 5 [.agg [.int .i64 lo.fin,.bool lo.num.neg,.str lo.num.digits,.int .i64 lo.num.exp,.bool lo.aft]] false true 0,.row 5 [.agg [.int .i64 hi.fin,.bool hi.num.neg,.str hi.num.digits,.int .i64 hi.num.exp,.bool hi.aft]] false true 1],base:=0 }) (fun k=>k≤l.length∧(l.take k).any (covP lo hi t)=false) (fun k=>l.length-k) 0 rfl ⟨Nat.zero_le _,rfl⟩ ?_
 rintro k ⟨hk,hd⟩
 by_cases hlt:k<l.length
 ·obtain ⟨p,hp⟩:=get_some hlt
  have hok:=hl p (List.mem_of_getElem? hp)
  obtain ⟨b1,b2,s1,s2⟩:=prt_bnds hok
  have hp2:=map_get (g:=encPrt) hp
  have r1:=lower_run p.lo
  have r2:=upper_run p.hi
  have c1:=compare_cut _ _ (low_ok b1) h1
  have c2:=compare_cut _ _ h2 (upp_ok b2)
  have hc:covP lo hi t p=(sortIn p.sort t && decide (cmpC (lowC p.lo) lo≤0) && decide (cmpC hi (uppC p.hi)≤0)):=rfl
  have htn:=fun h=>take_succ_none (f:=covP lo hi t) hp hd h
  have hta:=fun h=>any_at (f:=covP lo hi t) hp h
  rw[hc] at htn hta
  clear hc
  generalize cmpC (lowC p.lo) lo=x1 at *
  generalize cmpC hi (uppC p.hi)=x2 at *
  rw[elo] at c1
  rw[ehi] at c2
  generalize lowC p.lo=u1 at *
  generalize uppC p.hi=u2 at *
  simp only[encPrt,encBnd,encCut] at hp2 r1 r2 c1 c2
  unfold sortIn at htn hta
  clear hok b1 b2 s1 s2 h1 h2 hl
  have no : ∀ (h:(decide (p.sort=0∨p.sort=t) && decide (x1≤0) && decide (x2≤0))=false),True:=fun _=>trivial
  by_cases k0:p.sort=0∨p.sort=t
  ·have k00:p.sort=0∨(p.sort=t∧¬ t=0):=by omega
   by_cases k1:x1≤0
   ·by_cases k2:x2≤0
    ·rw[hta (by simp [k0,k1,k2])]
     rcases k00 with k0 | ⟨k0,kt⟩
     ·(repeat' first|simp (disch:=omega) only[go_sem,hp2,List.length_map,k0,k1,k2]|refine pure_of _ (r1) ?_|refine pure_of _ (r2) ?_|refine pure_of _ (c1) ?_|refine pure_of _ (c2) ?_|(apply spl<;>intro h<;>try simp (disch:=omega) only[go_sem,h]))
      all_goals try omega
     ·(repeat' first|simp (disch:=omega) only[go_sem,hp2,List.length_map,k0,kt,k1,k2]|refine pure_of _ (r1) ?_|refine pure_of _ (r2) ?_|refine pure_of _ (c1) ?_|refine pure_of _ (c2) ?_|(apply spl<;>intro h<;>try simp (disch:=omega) only[go_sem,h]))
      all_goals try omega
    ·have hx:=htn (by simp [k2])
     rcases k00 with k0 | ⟨k0,kt⟩
     ·(repeat' first|simp (disch:=omega) only[go_sem,hp2,List.length_map,k0,k1,k2]|refine pure_of _ (r1) ?_|refine pure_of _ (r2) ?_|refine pure_of _ (c1) ?_|refine pure_of _ (c2) ?_|(apply spl<;>intro h<;>try simp (disch:=omega) only[go_sem,h]))
      all_goals try omega
      all_goals exact ⟨k+1,rfl,⟨hlt,hx⟩,by omega⟩
     ·(repeat' first|simp (disch:=omega) only[go_sem,hp2,List.length_map,k0,kt,k1,k2]|refine pure_of _ (r1) ?_|refine pure_of _ (r2) ?_|refine pure_of _ (c1) ?_|refine pure_of _ (c2) ?_|(apply spl<;>intro h<;>try simp (disch:=omega) only[go_sem,h]))
      all_goals try omega
      all_goals exact ⟨k+1,rfl,⟨hlt,hx⟩,by omega⟩
   ·have hx:=htn (by simp [k1])
    rcases k00 with k0 | ⟨k0,kt⟩
    ·(repeat' first|simp (disch:=omega) only[go_sem,hp2,List.length_map,k0,k1]|refine pure_of _ (r1) ?_|refine pure_of _ (r2) ?_|refine pure_of _ (c1) ?_|refine pure_of _ (c2) ?_|(apply spl<;>intro h<;>try simp (disch:=omega) only[go_sem,h]))
     all_goals try omega
     all_goals exact ⟨k+1,rfl,⟨hlt,hx⟩,by omega⟩
    ·(repeat' first|simp (disch:=omega) only[go_sem,hp2,List.length_map,k0,kt,k1]|refine pure_of _ (r1) ?_|refine pure_of _ (r2) ?_|refine pure_of _ (c1) ?_|refine pure_of _ (c2) ?_|(apply spl<;>intro h<;>try simp (disch:=omega) only[go_sem,h]))
     all_goals try omega
     all_goals exact ⟨k+1,rfl,⟨hlt,hx⟩,by omega⟩
  ·have hx:=htn (by simp [k0])
   have k3 : ¬ p.sort=0:=fun h=>k0 (.inl h)
   have k4 : ¬ p.sort=t:=fun h=>k0 (.inr h)
   (repeat' first|simp (disch:=omega) only[go_sem,hp2,List.length_map,k3,k4]|refine pure_of _ (r1) ?_|refine pure_of _ (r2) ?_|refine pure_of _ (c1) ?_|refine pure_of _ (c2) ?_|(apply spl<;>intro h<;>try simp (disch:=omega) only[go_sem,h]))
   all_goals try omega
   all_goals exact ⟨k+1,rfl,⟨hlt,hx⟩,by omega⟩
 ·rw[take_len hlt hk] at hd
  rw[hd]
  (repeat' first|simp (disch:=omega) only[go_sem,List.length_map]|(apply spl<;>intro h<;>try simp (disch:=omega) only[go_sem,h]))
  all_goals omega
end Ago
set_option maxRecDepth 100000
set_option maxHeartbeats 4000000
namespace Ago
open Go (IntKind)
def soN:Nat→Option Nat
 | 713=>some 5
 | _=>none
def CKN:Ctx:=sortKCtx CN soN
theorem upK {f:Nat} {ts:List AV} {v:AV} (h:PRun CN f ts v):PRun CKN f ts v:=sortKCtx_up h
def zC:AV:=.agg [.int .i64 0,.bool false,.str [],.int .i64 0,.bool false]
theorem eqCut_run (x y:Cut) (hx:cutOk x) (hy:cutOk y) (els:List AV):RunOf CKN 715 [encCut x,encCut y] [.row 5 els false true 0] (.bool (decide (cmpC x y=0))) [.row 5 els false true 0]:=by
 have hc:=upK (compare_cut x y hx hy)
 generalize cmpC x y=c at *
 obtain ⟨f,⟨n,ds,e⟩,t⟩:=x
 obtain ⟨f',⟨n',ds',e'⟩,t'⟩:=y
 simp only[encCut] at *
 by_cases h0:c=0
 ·rw[decide_eq_true h0]
  refine runR_of ac715 rfl ?_
  (repeat' first|simp (disch:=omega) only[go_sem,ac715,enter,h0]|refine pure_of _ (hc) ?_|(apply spl<;>intro h<;>try simp (disch:=omega) only[go_sem,h]))
  exact postR_of (.inr rfl) (.bool true) rfl rfl rfl
 ·rw[decide_eq_false h0]
  refine runR_of ac715 rfl ?_
  (repeat' first|simp (disch:=omega) only[go_sem,ac715,enter,h0]|refine pure_of _ (hc) ?_|(apply spl<;>intro h<;>try simp (disch:=omega) only[go_sem,h]))
  exact postR_of (.inr rfl) (.bool false) rfl rfl rfl
def ddN (l:List Cut):Nat→List Cut
 | 0=>[]
 | j+1=>match l[j]? with
  | some x=>match (if j=0 then none else l[j-1]?) with
   | some y=>if cmpC x y=0 then ddN l j else ddN l j++[x]
   | none=>ddN l j++[x]
  | none=>ddN l j
theorem ddN_eq {l:List Cut} {j:Nat} {x y:Cut} (hj:j≠0) (hx:l[j]?=some x) (hy:l[j-1]?=some y) (h:cmpC x y=0):ddN l (j+1)=ddN l j:=by
 rw[ddN,hx,if_neg hj,hy]
 simp only[if_pos h]
theorem ddN_ne {l:List Cut} {j:Nat} {x y:Cut} (hj:j≠0) (hx:l[j]?=some x) (hy:l[j-1]?=some y) (h : ¬ cmpC x y=0):ddN l (j+1)=ddN l j++[x]:=by
 rw[ddN,hx,if_neg hj,hy]
 simp only[if_neg h]
theorem ddN_one {l:List Cut} (h:1≤l.length):ddN l 1=l.take 1:=by
 obtain ⟨x,hx⟩:=get_some (s:=l) (k:=0) (by omega)
 rw[ddN,hx,if_pos rfl,List.take_add_one,hx]
 rfl
def ddRow (l:List Cut) (j:Nat):List AV:=(ddN l j).map encCut++(l.drop (ddN l j).length).map encCut
theorem ddRow_get {l:List Cut} {j i:Nat} {x:Cut} (h:(ddN l j).length≤i) (hx:l[i]?=some x):(ddRow l j)[i]?=some (encCut x):=by
 unfold ddRow
 rw[List.getElem?_append_right (by simpa using h),List.length_map,List.getElem?_map,List.getElem?_drop,show (ddN l j).length+(i-(ddN l j).length)=i by omega,hx]
 rfl
theorem ddRow_len {l:List Cut} {j:Nat} (h:(ddN l j).length≤l.length):(ddRow l j).length=l.length:=by
 unfold ddRow
 simp
 omega
theorem ddRow_set {l:List Cut} {j:Nat} {x:Cut} (h:(ddN l j).length<l.length):(ddRow l j).set (ddN l j).length (encCut x)=((ddN l j++[x]).map encCut)++(l.drop (ddN l j++[x]).length).map encCut:=by
 unfold ddRow
 rw[List.set_append_right _ _ (by simp),List.length_map,Nat.sub_self]
 have:(l.drop (ddN l j).length).map encCut=((l.drop (ddN l j).length).map encCut):=rfl
 obtain ⟨z,hz⟩:=get_some h
 rw[show l.drop (ddN l j).length=z::l.drop ((ddN l j).length+1) from by obtain ⟨h3,h4⟩:=List.getElem?_eq_some_iff.1 hz; rw[List.drop_eq_getElem_cons h3,h4]]
 simp
theorem getN {l:List Cut} {i:Nat} {x:Cut} (h:l[i]?=some x):(l.map encCut)[i]?=some (encCut x):=by rw[List.getElem?_map,h]; rfl
theorem toNatK (k:Nat):((k:Int)).toNat=k:=Int.toNat_natCast k
theorem compact_run (l:List Cut) (h2:2≤l.length) (hl:l.length<2^24) (hok : ∀ c,c∈l→cutOk c) : ∃ z,RunOf CKN 714 [.sref 5 0 0 l.length,.fn 715 []] [.row 5 (l.map encCut) false true 0] (.sref 5 0 0 (ddN l l.length).length) [.row 5 ((ddN l l.length).map encCut++z) false true 0]:=by
 refine ⟨List.replicate (l.length-(ddN l l.length).length) zC,?_⟩
 have hd1:=ddN_one (l:=l) (by omega)
 refine runR_of ac714 rfl ?_
 (repeat' first|simp (disch:=omega) only[go_sem,ac714,enter,List.length_map]|(apply spl<;>intro h<;>try simp (disch:=omega) only[go_sem,h]))
 all_goals first | omega | skip
 refine loop_of (α:=Nat) (fun k=>{ tmps:=slots 66 [(0,.sref 5 0 0 (l.length)),(1,.fn 715 []),(5,.int .i64 k)],heap:=[.row 5 (l.map encCut) false true 0],base:=1 }) (fun k=>1≤k∧k≤l.length∧ddN l k=l.take k) (fun k=>l.length-k) 1 rfl ⟨Nat.le_refl _,by omega,hd1⟩ ?_
 rintro k ⟨hk1,hk,hd⟩
 by_cases hlt:k<l.length
 ·obtain ⟨x,hx⟩:=get_some hlt
  obtain ⟨y,hy⟩:=get_some (s:=l) (k:=k-1) (by omega)
  have hx2:=getN hx
  have hy2:=getN hy
  have he:=eqCut_run x y (hok x (List.mem_of_getElem? hx)) (hok y (List.mem_of_getElem? hy)) (l.map encCut)
  have e1:(k:Int)-1=((k-1:Nat):Int):=by omega
  by_cases h0:cmpC x y=0
  ·rw[decide_eq_true h0] at he
   have hdd:=ddN_eq (by omega) hx hy h0
   have hxe:=encCut.eq_1 x
   have hye:=encCut.eq_1 y
   rw[hxe] at hx2 he
   rw[hye] at hy2 he
   (repeat' first|simp (disch:=omega) only[go_sem,List.length_map,hx2,hy2,e1,toNatK]|(refine call_of _ _ he ?_)|(apply spl<;>intro h<;>try simp (disch:=omega) only[go_sem,h]))
   all_goals first | omega | skip
   have hdk:(ddN l k).length=k:=by rw[hd,List.length_take]; omega
   have hlk:(ddN l (k+1)).length=k:=by rw[hdd,hdk]
   have hrow:ddRow l (k+1)=l.map encCut:=by
    unfold ddRow
    rw[hlk,hdd,hd,←List.map_append,List.take_append_drop]
   refine loop_of (α:=Nat) (fun k2=>{ tmps:=slots 66 [(0,.sref 5 0 0 (l.length)),(1,.fn 715 []),(5,.int .i64 (ddN l (k+k2)).length),(6,.sref 5 0 k (l.length-k)),(7,.int .i64 k2)],heap:=[.row 5 (ddRow l (k+k2)) false true 0],base:=1 }) (fun k2=>1≤k2∧k+k2≤l.length∧(ddN l (k+k2)).length+1≤k+k2) (fun k2=>l.length-k2) 1 (by rw[hlk,hrow]; rfl) ⟨Nat.le_refl _,by omega,by omega⟩ ?_
   rintro k2 ⟨hk21,hk2,hdl⟩
   clear hx2 hy2 he hxe hye hx hy h0
   have hrl:(ddRow l (k+k2)).length=l.length:=ddRow_len (by omega)
   by_cases hlt2:k2<l.length-k
   ·obtain ⟨x,hx⟩:=get_some (s:=l) (k:=k+k2) (by omega)
    obtain ⟨y,hy⟩:=get_some (s:=l) (k:=k+(k2-1)) (by omega)
    obtain ⟨z,hz⟩:=get_some (s:=l) (k:=(ddN l (k+k2)).length) (by omega)
    have hx2:=ddRow_get (j:=k+k2) (by omega) hx
    have hy2:=ddRow_get (j:=k+k2) (by omega) hy
    have hz2:=ddRow_get (j:=k+k2) (Nat.le_refl _) hz
    have hset:=ddRow_set (l:=l) (j:=k+k2) (x:=x) (by omega)
    have he:=eqCut_run x y (hok x (List.mem_of_getElem? hx)) (hok y (List.mem_of_getElem? hy)) (ddRow l (k+k2))
    have e2:(k2:Int)-1=((k2-1:Nat):Int):=by omega
    have ey:k+(k2-1)=k+k2-1:=by omega
    have hxe:=encCut.eq_1 x
    have hye:=encCut.eq_1 y
    have hze:=encCut.eq_1 z
    by_cases h0:cmpC x y=0
    ·have hdd2:=ddN_eq (l:=l) (j:=k+k2) (by omega) hx (by rw[←ey]; exact hy) h0
     rw[decide_eq_true h0] at he
     rw[hxe] at hx2 he
     rw[hye] at hy2 he
     generalize hR:ddRow l (k+k2)=R at *
     (repeat' first|simp (disch:=omega) only[go_sem,List.length_map,hx2,hy2,e2,toNatK,hrl]|(refine call_of _ _ he ?_)|(apply spl<;>intro h<;>try simp (disch:=omega) only[go_sem,h]))
     all_goals first | omega | skip
     refine ⟨k2+1,?_,⟨by omega,by omega,by rw[←Nat.add_assoc,hdd2]; omega⟩,by omega⟩
     have er:ddRow l (k+(k2+1))=R:=by
      rw[←hR]
      unfold ddRow
      rw[←Nat.add_assoc,hdd2]
     rw[er,←Nat.add_assoc,hdd2]
     rfl
    ·have hdd2:=ddN_ne (l:=l) (j:=k+k2) (by omega) hx (by rw[←ey]; exact hy) h0
     rw[decide_eq_false h0] at he
     have er:ddRow l (k+(k2+1))=(ddRow l (k+k2)).set (ddN l (k+k2)).length (encCut x):=by
      rw[hset]
      unfold ddRow
      rw[←Nat.add_assoc,hdd2]
     have el:(ddN l (k+(k2+1))).length=(ddN l (k+k2)).length+1:=by
      rw[←Nat.add_assoc,hdd2]
      simp
     rw[hxe] at hx2 he er
     rw[hye] at hy2 he
     rw[hze] at hz2
     generalize hR:ddRow l (k+k2)=R at *
     generalize hL:(ddN l (k+k2)).length=L at *
     (repeat' first|simp (disch:=omega) only[go_sem,List.length_map,hx2,hy2,hz2,e2,toNatK,hrl]|(refine call_of _ _ he ?_)|(apply spl<;>intro h<;>try simp (disch:=omega) only[go_sem,h]))
     all_goals first | omega | skip
     refine ⟨k2+1,?_,⟨by omega,by omega,by rw[el]; omega⟩,by omega⟩
     rw[er,el]
     rfl
   ·have hkk:k+k2=l.length:=by omega
    rw[hkk] at hdl hrl ⊢
    have hR:ddRow l l.length=(ddN l l.length).map encCut++(l.drop (ddN l l.length).length).map encCut:=rfl
    have ht:(ddRow l l.length).take (ddN l l.length).length=(ddN l l.length).map encCut:=by rw[hR,List.take_left' (by simp)]
    have hdr:(ddRow l l.length).drop l.length=[]:=List.drop_of_length_le (by omega)
    generalize ddRow l l.length=R at *
    generalize ddN l l.length=D at *
    have e3:D.length+(l.length-D.length)=l.length:=by omega
    (repeat' first|simp (disch:=omega) only[go_sem,List.length_map,hrl,toNatK,ht,hdr,e3]|(apply spl<;>intro h<;>try simp (disch:=omega) only[go_sem,h]))
    all_goals first | omega | skip
    exact postR_of (.inr rfl) (.sref 5 0 0 D.length) rfl rfl rfl
  ·rw[decide_eq_false h0] at he
   have hdd:=ddN_ne (by omega) hx hy h0
   have hxe:=encCut.eq_1 x
   have hye:=encCut.eq_1 y
   rw[hxe] at hx2 he
   rw[hye] at hy2 he
   (repeat' first|simp (disch:=omega) only[go_sem,List.length_map,hx2,hy2,e1,toNatK]|(refine call_of _ _ he ?_)|(apply spl<;>intro h<;>try simp (disch:=omega) only[go_sem,h]))
   all_goals first | omega | skip
   exact ⟨k+1,rfl,⟨by omega,hlt,by rw[hdd,hd,List.take_add_one,hx]; rfl⟩,by omega⟩
 ·have hkk:k=l.length:=by omega
  subst hkk
  rw[hd,List.take_length,Nat.sub_self,List.replicate_zero,List.append_nil]
  (repeat' first|simp (disch:=omega) only[go_sem,List.length_map]|(apply spl<;>intro h<;>try simp (disch:=omega) only[go_sem,h]))
  all_goals first | omega | skip
  exact postR_of (.inr rfl) (.sref 5 0 0 l.length) rfl rfl rfl
end Ago
set_option maxRecDepth 100000
set_option maxHeartbeats 4000000
namespace Ago
open Go (IntKind)
theorem ddN_law {l:List Cut} (hok : ∀ c,c∈l→cutOk c) (hs:l.Pairwise fun a b=>keyC a≤keyC b) : ∀ j,j≤l.length→(∀ c,c∈ddN l j↔c∈l.take j)∧(ddN l j).Pairwise (fun a b=>keyC a<keyC b)∧(j≠0→(ddN l j).getLast?=l[j-1]?)
 | 0,_=>by simp [ddN]
 | j+1,hj=>by
  obtain ⟨h1,h2,h3⟩:=ddN_law hok hs j (by omega)
  obtain ⟨x,hx⟩:=get_some (s:=l) (k:=j) (by omega)
  have ht:l.take (j+1)=l.take j++[x]:=by rw[List.take_add_one,hx]; rfl
  have hxm:=List.mem_of_getElem? hx
  by_cases h0:j=0
  ·subst h0
   have e:ddN l 1=[x]:=by
    rw[ddN_one (by omega),ht]
    rfl
   rw[e,ht]
   simp [hx]
  ·obtain ⟨y,hy⟩:=get_some (s:=l) (k:=j-1) (by omega)
   have hym:=List.mem_of_getElem? hy
   have hl:=h3 h0
   rw[hy] at hl
   obtain ⟨t,htl⟩:=snoc_of hl
   have hc:=cmpC_key (hok x hxm) (hok y hym)
   rw[ht]
   have hle : ∀ c,c∈l.take j→keyC c≤keyC x:=by
    intro c hc
    rw[List.pairwise_iff_getElem] at hs
    obtain ⟨i,hi,rfl⟩:=List.getElem_of_mem hc
    rw[List.length_take] at hi
    have:=hs i j (by omega) (by omega) (by omega)
    rw[List.getElem_take]
    rw[List.getElem?_eq_getElem (by omega)] at hx
    cases hx
    exact this
   by_cases he:cmpC x y=0
   ·rw[ddN_eq h0 hx hy he]
    have exy:x=y:=hc.2.2 (hc.2.1.1 he)
    refine ⟨fun c=>?_,h2,fun _=>?_⟩
    ·rw[h1 c,List.mem_append,List.mem_singleton]
     constructor
     ·exact .inl
     ·rintro (h | rfl)
      ·exact h
      ·rw[exy]
       exact (h1 y).1 (by rw[htl]; simp)
    ·rw[hl,show j+1-1=j by omega,hx,exy]
   ·rw[ddN_ne h0 hx hy he]
    refine ⟨fun c=>?_,?_,fun _=>?_⟩
    ·rw[List.mem_append,List.mem_append,h1 c]
    ·rw[List.pairwise_append]
     refine ⟨h2,by simp,fun a ha b hb=>?_⟩
     rw[List.mem_singleton.1 hb]
     have hne:keyC x≠keyC y:=fun h=>he (hc.2.1.2 h)
     have hya:keyC y≤keyC x:=hle y ((h1 y).1 (by rw[htl]; simp))
     rw[htl] at ha h2
     rcases List.mem_append.1 ha with ha | ha
     ·have:=(List.pairwise_append.1 h2).2.2 a ha y (by simp)
      omega
     ·rw[List.mem_singleton.1 ha]
      omega
    ·rw[List.getLast?_append]
     simp [hx]
def rawP (p:Prt):List Cut:=[lowC p.lo,uppC p.hi]
def rawS (s:List Prt):List Cut:=s.flatMap rawP
def rawC (sets:Sets):List Cut:=⟨-1,zeroD,false⟩::⟨1,zeroD,false⟩::sets.flatMap rawS
def srtC (l:List Cut):List Cut:=l.mergeSort fun a b=>decide (keyC a≤keyC b)
theorem srtC_law (l:List Cut):l.Perm (srtC l)∧(srtC l).Pairwise fun a b=>keyC a≤keyC b:=by
 refine ⟨(List.mergeSort_perm l _).symm,?_⟩
 have:=List.pairwise_mergeSort (le:=fun a b:Cut=>decide (keyC a≤keyC b)) (by
  intro a b c h1 h2
  simp only[decide_eq_true_eq] at *
  omega) (by
  intro a b
  simp only[Bool.or_eq_true,decide_eq_true_eq]
  omega) l
 exact this.imp fun h=>of_decide_eq_true h
def cutsM (sets:Sets):List Cut:=ddN (srtC (rawC sets)) (srtC (rawC sets)).length
theorem raw_mem (sets:Sets) (c:Cut):c∈rawC sets↔(c=⟨-1,zeroD,false⟩∨c=⟨1,zeroD,false⟩∨∃ s,s∈sets∧∃ p,p∈s∧(c=lowC p.lo∨c=uppC p.hi)):=by
 simp only[rawC,List.mem_cons,List.mem_flatMap,rawS,rawP,List.not_mem_nil,or_false]
theorem raw_ok {sets:Sets} (hs : ∀ s,s∈sets→∀ p,p∈s→prtOk p=true) : ∀ c,c∈rawC sets→cutOk c:=by
 intro c hc
 rcases (raw_mem sets c).1 hc with rfl | rfl | ⟨s,h1,p,h2,rfl | rfl⟩
 ·exact .inr ⟨.inl rfl,rfl,rfl⟩
 ·exact .inr ⟨.inr rfl,rfl,rfl⟩
 ·exact low_ok (prt_bnds (hs s h1 p h2)).1
 ·exact upp_ok (prt_bnds (hs s h1 p h2)).2.1
theorem cutsM_law {sets:Sets} (hs : ∀ s,s∈sets→∀ p,p∈s→prtOk p=true):CutsOf sets (cutsM sets):=by
 obtain ⟨h1,h2⟩:=srtC_law (rawC sets)
 have hok : ∀ c,c∈srtC (rawC sets)→cutOk c:=fun c hc=>raw_ok hs c (h1.mem_iff.2 hc)
 obtain ⟨k1,k2,_⟩:=ddN_law hok h2 _ (Nat.le_refl _)
 refine ⟨fun c=>?_,k2⟩
 unfold cutsM
 rw[k1 c,List.take_length,←h1.mem_iff]
 exact raw_mem sets c
def decCut:AV→Cut
 | .agg [.int .i64 f,.bool n,.str ds,.int .i64 e,.bool t]=>⟨f,⟨n,ds,e⟩,t⟩
 | _=>⟨0,zeroD,false⟩
theorem decCut_enc (c:Cut):decCut (encCut c)=c:=rfl
def cmpA (x y:AV):Int:=cmpC (decCut x) (decCut y)
theorem ord_cuts {l:List Cut} (hok : ∀ c,c∈l→cutOk c):OrdOn cmpA (l.map encCut):=by
 have key : ∀ x,x∈l.map encCut→∃ c,c∈l∧x=encCut c:=fun x hx=>by
  obtain ⟨c,h,rfl⟩:=List.mem_map.1 hx
  exact ⟨c,h,rfl⟩
 refine ⟨fun x hx=>?_,fun x y z hx hy hz=>?_,fun x y hx hy=>?_⟩
 ·obtain ⟨a,ha,rfl⟩:=key x hx
  unfold cmpA
  rw[decCut_enc]
  have:=cmpC_key (hok a ha) (hok a ha)
  omega
 ·obtain ⟨a,ha,rfl⟩:=key x hx
  obtain ⟨b,hb,rfl⟩:=key y hy
  obtain ⟨c,hc,rfl⟩:=key z hz
  unfold cmpA
  rw[decCut_enc,decCut_enc,decCut_enc]
  have h1:=cmpC_key (hok a ha) (hok b hb)
  have h2:=cmpC_key (hok b hb) (hok c hc)
  have h3:=cmpC_key (hok a ha) (hok c hc)
  omega
 ·obtain ⟨a,ha,rfl⟩:=key x hx
  obtain ⟨b,hb,rfl⟩:=key y hy
  unfold cmpA
  rw[decCut_enc,decCut_enc]
  have h1:=cmpC_key (hok a ha) (hok b hb)
  have h2:=cmpC_key (hok b hb) (hok a ha)
  intro h3 h4
  rw[h1.2.2 (by omega)]
theorem sortC_run (l:List Cut) (hne:l≠[]) (hl:l.length<2^24) (hok : ∀ c,c∈l→cutOk c):RunOf CKN 713 [.sref 5 0 0 l.length,.fn 710 []] [.row 5 (l.map encCut) false true 0] (.tup []) [.row 5 ((srtC l).map encCut) false true 0]:=by
 obtain ⟨h1,h2⟩:=srtC_law l
 have hok2 : ∀ c,c∈srtC l→cutOk c:=fun c hc=>hok c (h1.mem_iff.2 hc)
 have h:=sortK_row (C:=CN) (so:=soN) (f:=713) (r:=0) (g:=710) (fam:=0) (k:=5) (els:=l.map encCut) (els':=(srtC l).map encCut) (H:=[.row 5 (l.map encCut) false true 0]) (H1:=[.row 5 (l.map encCut) false true 0]) cmpA rfl (by simpa using hne) (by simp only[List.length_map,lim]; omega) rfl (by simp [Heap.strike,strikeGo]) (ord_cuts hok)
  (fun x hx=>by
   obtain ⟨c,hc,rfl⟩:=List.mem_map.1 hx
   exact ⟨_,rfl,rfl,rfl⟩) (fun x y hx hy=>by
   obtain ⟨a,ha,rfl⟩:=List.mem_map.1 hx
   obtain ⟨b,hb,rfl⟩:=List.mem_map.1 hy
   unfold cmpA
   rw[decCut_enc,decCut_enc]
   exact compare_cut a b (hok a ha) (hok b hb)) (h1.map _) (by
   rw[List.pairwise_map]
   refine h2.imp_of_mem fun {a b} ha hb h=>?_
   unfold cmpA
   rw[decCut_enc,decCut_enc]
   have:=cmpC_key (hok2 b hb) (hok2 a ha)
   omega) (n:=l.length) (by simp)
 exact h
end Ago
set_option maxRecDepth 100000
set_option maxHeartbeats 4000000
namespace Ago
open Go (IntKind)
theorem encCut_flat (c:Cut):encCut c = .agg [.int .i64 c.fin,.bool c.num.neg,.str c.num.digits,.int .i64 c.num.exp,.bool c.aft]:=rfl
theorem flat_take {s:List Prt} {j:Nat} {p:Prt} (h:s[j]?=some p):(s.take (j+1)).flatMap rawP=(s.take j).flatMap rawP++[lowC p.lo,uppC p.hi]:=by
 rw[List.take_add_one,h,List.flatMap_append]
 simp [rawP]
theorem raw_take {sets:Sets} {i:Nat} {s:List Prt} (h:sets[i]?=some s):rawC (sets.take (i+1))=rawC (sets.take i)++rawS s:=by
 unfold rawC
 rw[List.take_add_one,h,List.flatMap_append]
 simp
theorem rawS_len (s:List Prt):(rawS s).length=2 * s.length:=by
 induction s with
 | nil=>rfl
 | cons p s ih=>
  unfold rawS at *
  rw[List.flatMap_cons,List.length_append,ih]
  simp [rawP]
  omega
theorem rawC_len (sets:Sets):(rawC sets).length=2+2 * (sets.map List.length).sum:=by
 unfold rawC
 simp only[List.length_cons]
 have:(sets.flatMap rawS).length=2 * (sets.map List.length).sum:=by
  induction sets with
  | nil=>rfl
  | cons s ss ih=>rw[List.flatMap_cons,List.length_append,ih,rawS_len,List.map_cons,List.sum_cons]; omega
 omega
theorem sum_take_le (l:List Nat) (i:Nat):(l.take i).sum≤l.sum:=by
 have h:=List.take_append_drop i l
 have h2:=congrArg List.sum h
 rw[List.sum_append] at h2
 omega
theorem sum_mem_le {l:List Nat} {x:Nat} (h:x∈l):x≤l.sum:=by
 obtain ⟨u,v,rfl⟩:=List.append_of_mem h
 rw[List.sum_append,List.sum_cons]
 omega
theorem cuts_run (sets:Sets) (hs : ∀ s,s∈sets→∀ p,p∈s→prtOk p=true) (hn:(rawC sets).length<2^20) (hl:sets.length<2^20):PRun CKN 704 [.tsl 1 (sets.map encNS)] (.tsl 5 ((cutsM sets).map encCut)):=by
 refine prun_of ac704 rfl ?_
 (repeat' first|simp (disch:=omega) only[go_sem,ac704,enter,List.length_map]|(apply spl<;>intro h<;>try simp (disch:=omega) only[go_sem,h]))
 all_goals first | omega | skip
 refine loop_of (α:=Nat × List AV) (fun a=>{ tmps:=slots 39 [(3,.sref 5 0 0 a.2.length),(11,.tsl 1 (sets.map encNS)),(12,.int .i64 sets.length),(13,.int .i64 a.1)],heap:=[.row 5 a.2 false true 0],base:=0 }) (fun a=>a.1≤sets.length∧a.2=(rawC (sets.take a.1)).map encCut) (fun a=>sets.length-a.1) (0,[.agg [.int .i64 (-1),.bool false,.str [],.int .i64 0,.bool false],.agg [.int .i64 1,.bool false,.str [],.int .i64 0,.bool false]]) rfl ⟨Nat.zero_le _,by rw[List.take_zero]; rfl⟩ ?_
 rintro ⟨i,els⟩ ⟨hi,hels⟩
 simp only at hi hels
 by_cases hlt:i<sets.length
 ·obtain ⟨s,hsi⟩:=get_some hlt
  have hsm:=List.mem_of_getElem? hsi
  have hs2:(sets.map encNS)[i]?=some (.agg [.tsl 11 (s.map encPrt)]):=map_get (g:=encNS) hsi
  have hbig:(rawC (sets.take i)).length≤(rawC sets).length:=by
   rw[rawC_len,rawC_len,List.map_take]
   have:=sum_take_le (sets.map List.length) i
   omega
  have hsl:2 * s.length≤(rawC sets).length:=by
   rw[rawC_len]
   have:=sum_mem_le (List.mem_map_of_mem (f:=List.length) hsm)
   omega
  have hel:els.length≤2^20:=by rw[hels,List.length_map]; omega
  (repeat' first|simp (disch:=omega) only[go_sem,hs2,List.length_map]|(apply spl<;>intro h<;>try simp (disch:=omega) only[go_sem,h]))
  all_goals first | omega | skip
  refine loop_of (α:=Nat × List AV) (fun a=>{ tmps:=slots 39 [(3,.sref 5 0 0 a.2.length),(11,.tsl 1 (sets.map encNS)),(12,.int .i64 sets.length),(13,.int .i64 i),(18,.tsl 11 (s.map encPrt)),(19,.int .i64 s.length),(20,.int .i64 a.1)],heap:=[.row 5 a.2 false true 0],base:=0 }) (fun a=>a.1≤s.length∧a.2=(rawC (sets.take i)++(s.take a.1).flatMap rawP).map encCut) (fun a=>s.length-a.1) (0,els) rfl ⟨Nat.zero_le _,by rw[hels]; simp⟩ ?_
  rintro ⟨j,els2⟩ ⟨hj,hels2⟩
  simp only at hj hels2
  have hel2:els2.length≤2^22:=by
   rw[hels2,List.length_map,List.length_append]
   have h1:((s.take j).flatMap rawP).length=2 * (s.take j).length:=rawS_len _
   rw[h1,List.length_take]
   omega
  by_cases hlt2:j<s.length
  ·obtain ⟨p,hp⟩:=get_some hlt2
   have hp2:=map_get (g:=encPrt) hp
   have r1:=upK (lower_run p.lo)
   have r2:=upK (upper_run p.hi)
   have hnew:els2++[encCut (lowC p.lo),encCut (uppC p.hi)]=(rawC (sets.take i)++(s.take (j+1)).flatMap rawP).map encCut:=by
    rw[hels2,flat_take hp]
    simp
   generalize lowC p.lo=u1 at *
   generalize uppC p.hi=u2 at *
   rw[encCut_flat u1,encCut_flat u2] at hnew
   simp only[encPrt,encBnd,encCut] at hp2 r1 r2
   (repeat' first|simp (disch:=omega) only[go_sem,hp2,List.length_map,keep_mk]|refine pure_of _ (r1) ?_|refine pure_of _ (r2) ?_|(apply spl<;>intro h<;>try simp (disch:=omega) only[go_sem,h]))
   all_goals first | omega | skip
   refine ⟨(j+1,_),?_,⟨hlt2,hnew⟩,by simp only; omega⟩
   simp only[List.length_append,List.length_cons,List.length_nil]
   rfl
  ·rw[take_len hlt2 hj] at hels2
   (repeat' first|simp (disch:=omega) only[go_sem,List.length_map]|(apply spl<;>intro h<;>try simp (disch:=omega) only[go_sem,h]))
   all_goals first | omega | skip
   exact ⟨(i+1,els2),rfl,⟨hlt,by rw[hels2,raw_take hsi]; rfl⟩,by simp only; omega⟩
 ·rw[take_len hlt hi] at hels
  subst hels
  have hne:rawC sets≠[]:=by simp [rawC]
  have hlen2:2≤(rawC sets).length:=by rw[rawC_len]; omega
  have h1:=sortC_run (rawC sets) hne (by omega) (raw_ok hs)
  obtain ⟨g1,g2⟩:=srtC_law (rawC sets)
  obtain ⟨z,h2⟩:=compact_run (srtC (rawC sets)) (by rw[←g1.length_eq]; omega) (by rw[←g1.length_eq]; omega) (fun c hc=>raw_ok hs c (g1.mem_iff.2 hc))
  rw[←g1.length_eq] at h2
  have hd:ddN (srtC (rawC sets)) (rawC sets).length=cutsM sets:=by unfold cutsM; rw[←g1.length_eq]
  rw[hd] at h2
  (repeat' first|simp (disch:=omega) only[go_sem,List.length_map]|(refine call_of _ _ h1 ?_)|(refine call_of _ _ h2 ?_)|(apply spl<;>intro h<;>try simp (disch:=omega) only[go_sem,h]))
  all_goals first | omega | skip
  rw[if_pos (by simp),List.take_left' (by simp)]
end Ago
