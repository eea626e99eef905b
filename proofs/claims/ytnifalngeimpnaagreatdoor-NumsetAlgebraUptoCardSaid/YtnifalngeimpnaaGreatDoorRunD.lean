/- numset.combine: its closures. -/
import Derived.Test.YtnifalngeimpnaaGreatDoorRunC
import Derived.Test.YtnifalngeimpnaaGreatDoorRunA
set_option linter.unusedSimpArgs false
set_option linter.unusedVariables false
set_option maxRecDepth 100000
set_option maxHeartbeats 4000000
namespace Ago
open Go (IntKind)
def bools (bs:List Bool):List AV:=bs.map AV.bool
def cH (sets:Sets) (g:Nat) (bs:List Bool) (rs:List AV):Heap:=[.row 1 [.tsl 1 (sets.map encNS)] false true 0,.row 1 [.sref 1 2 0 sets.length] false false 1,.row 1 (bools bs) false true 2,.row 1 [.fn g []] false true 3,.row 1 [outSl 12 5 rs] false rs.isEmpty 4]++outHp 12 5 rs
def mixB (sets:Sets) (bs:List Bool) (lo hi:Cut) (t:Int) (k:Nat):List Bool:=(sets.take k).map (fun s=>covM s lo hi t)++bs.drop k
theorem mixB_len {sets:Sets} {bs:List Bool} {lo hi:Cut} {t:Int} {k:Nat} (h:bs.length=sets.length) (hk:k≤sets.length):(mixB sets bs lo hi t k).length=sets.length:=by
 simp [mixB]
 omega
theorem mixB_set {sets:Sets} {bs:List Bool} {lo hi:Cut} {t:Int} {k:Nat} {s:List Prt} (h:bs.length=sets.length) (hs:sets[k]?=some s):(bools (mixB sets bs lo hi t k)).set k (.bool (covM s lo hi t))=bools (mixB sets bs lo hi t (k+1)):=by
 obtain ⟨h1,h2⟩:=List.getElem?_eq_some_iff.1 hs
 have hd:bs.drop k=bs[k]::bs.drop (k+1):=List.drop_eq_getElem_cons (by omega)
 unfold bools mixB
 rw[hd,List.map_append,List.map_cons,List.set_append_right _ _ (by simp; omega)]
 have e:k-(List.map AV.bool (List.map (fun s=>covM s lo hi t) (List.take k sets))).length=0:=by simp; omega
 rw[e,List.set_cons_zero,List.take_add_one,hs]
 simp
theorem mixB_get {sets:Sets} {bs:List Bool} {lo hi:Cut} {t:Int} {k:Nat} (h:bs.length=sets.length) (hk:k<sets.length) : ∃ b,(bools (mixB sets bs lo hi t k))[k]?=some (.bool b):=by
 obtain ⟨b,hb⟩:=get_some (s:=mixB sets bs lo hi t k) (k:=k) (by rw[mixB_len h (by omega)]; exact hk)
 exact ⟨b,by unfold bools; rw[List.getElem?_map,hb]; rfl⟩
theorem mixB_zero {sets:Sets} {bs:List Bool} {lo hi:Cut} {t:Int}:mixB sets bs lo hi t 0=bs:=by simp [mixB]
theorem mixB_all {sets:Sets} {bs:List Bool} {lo hi:Cut} {t:Int} (h:bs.length=sets.length):mixB sets bs lo hi t sets.length=sets.map fun s=>covM s lo hi t:=by
 unfold mixB
 rw[List.take_length,List.drop_of_length_le (by omega),List.append_nil]
def FunOk (sets:Sets) (g:Nat) (F:List Bool→Bool):Prop:=∀ (bs:List Bool) (rs:List AV) (A B:AV),bs.length=sets.length →
 RunOf CKN g [.sref 1 2 0 sets.length] (cH sets g bs rs++[.row 5 [A] false true (cH sets g bs rs).length,.row 5 [B] false true ((cH sets g bs rs).length+1)]) (.bool (F bs)) (cH sets g bs rs++[.row 5 [A] false true (cH sets g bs rs).length,.row 5 [B] false true ((cH sets g bs rs).length+1)])
def cellsC (c:Cut):AV:=.agg [.int .i64 c.fin,.bool c.num.neg,.str c.num.digits,.int .i64 c.num.exp,.bool c.aft]
theorem has_run (sets:Sets) (g:Nat) (F:List Bool→Bool) (hF:FunOk sets g F) (hs : ∀ s,s∈sets→∀ p,p∈s→prtOk p=true) (hn : ∀ s,s∈sets→s.length<2^20) (hl:sets.length<2^20) (lo hi:Cut) (hlo:cutOk lo) (hhi:cutOk hi) (t:Int) (bs:List Bool) (hb:bs.length=sets.length) (rs:List AV) :
  RunOf CKN 701 [encCut lo,encCut hi,.int .i64 t,.ptr 1 0 0 0,.ptr 1 1 0 0,.ptr 1 3 0 0] (cH sets g bs rs) (.bool (hasF F sets lo hi t)) (cH sets g (sets.map fun s=>covM s lo hi t) rs):=by
 have hf:=fun A B=>hF (sets.map fun s=>covM s lo hi t) rs A B (by simp)
 refine runR_of ac701 rfl ?_
 have elo:=encCut_flat lo
 have ehi:=encCut_flat hi
 unfold cH at *
 cases rs with
 | nil=>
  simp only[outSl,outHp,List.append_nil,List.isEmpty_nil,List.length_cons,List.length_nil] at hf ⊢
  rw[elo,ehi]
  (repeat' first|simp (disch:=omega) only[go_sem,ac701,enter,List.length_map]|(apply spl<;>intro h<;>try simp (disch:=omega) only[go_sem,h]))
  all_goals first | omega | skip
  refine loop_of (α:=Nat) (fun k=>{ tmps:=slots 31 [(2,.int .i64 t),(4,.ptr 1 1 0 0),(5,.ptr 1 3 0 0),(6,.ptr 5 5 0 0),(7,.ptr 5 6 0 0),(12,.tsl 1 (sets.map encNS)),(13,.int .i64 sets.length),(14,.int .i64 k)],heap:=[.row 1 [.tsl 1 (sets.map encNS)] false true 0,.row 1 [.sref 1 2 0 sets.length] false false 1,.row 1 (bools (mixB sets bs lo hi t k)) false true 2,.row 1 [.fn g []] false true 3,.row 1 [.snil 12] false true 4,.row 5 [cellsC lo] false true 5,.row 5 [cellsC hi] false true 6],base:=5 }) (fun k=>k≤sets.length) (fun k=>sets.length-k) 0 (by rw[mixB_zero]; rfl) (Nat.zero_le _) ?_
  unfold cellsC
  rintro k hk
  by_cases hlt:k<sets.length
  ·obtain ⟨s,hsi⟩:=get_some hlt
   have hsm:=List.mem_of_getElem? hsi
   have hs2:(sets.map encNS)[k]?=some (.agg [.tsl 11 (s.map encPrt)]):=map_get (g:=encNS) hsi
   have hr:=upK (covers_run s lo hi t (hs s hsm) (by have:=hn s hsm; omega) hlo hhi)
   obtain ⟨b0,hb0⟩:=mixB_get (lo:=lo) (hi:=hi) (t:=t) hb hlt
   have hset:=mixB_set (lo:=lo) (hi:=hi) (t:=t) hb hsi
   have hbl:(bools (mixB sets bs lo hi t k)).length=sets.length:=by unfold bools; rw[List.length_map,mixB_len hb hk]
   simp only[encNS,encCut] at hr
   generalize covM s lo hi t=c at hr hset
   generalize hR:bools (mixB sets bs lo hi t k)=R at *
   (repeat' first|simp (disch:=omega) only[go_sem,List.length_map,hs2,hb0,hbl]|refine pure_of _ (hr) ?_|(apply spl<;>intro h<;>try simp (disch:=omega) only[go_sem,h]))
   all_goals first | omega | skip
   refine ⟨k+1,?_,hlt,by omega⟩
   rw[←hset]
   rfl
  ·have hkk:k=sets.length:=by omega
   subst hkk
   rw[mixB_all hb]
   (repeat' first|simp (disch:=omega) only[go_sem,List.length_map]|(refine call_of _ _ (hf _ _) ?_)|(apply spl<;>intro h<;>try simp (disch:=omega) only[go_sem,h]))
   all_goals first | omega | skip
   exact postR_of (.inr rfl) (.bool (hasF F sets lo hi t)) rfl rfl rfl
 | cons z rs=>
  simp only[outSl,outHp,List.isEmpty_cons,List.cons_append,List.nil_append,List.length_cons,List.length_nil] at hf ⊢
  rw[elo,ehi]
  (repeat' first|simp (disch:=omega) only[go_sem,ac701,enter,List.length_map]|(apply spl<;>intro h<;>try simp (disch:=omega) only[go_sem,h]))
  all_goals first | omega | skip
  refine loop_of (α:=Nat) (fun k=>{ tmps:=slots 31 [(2,.int .i64 t),(4,.ptr 1 1 0 0),(5,.ptr 1 3 0 0),(6,.ptr 5 6 0 0),(7,.ptr 5 7 0 0),(12,.tsl 1 (sets.map encNS)),(13,.int .i64 sets.length),(14,.int .i64 k)],heap:=[.row 1 [.tsl 1 (sets.map encNS)] false true 0,.row 1 [.sref 1 2 0 sets.length] false false 1,.row 1 (bools (mixB sets bs lo hi t k)) false true 2,.row 1 [.fn g []] false true 3,.row 1 [.sref 12 5 0 (rs.length+1)] false false 4,.row 12 (z::rs) false true 5,.row 5 [cellsC lo] false true 6,.row 5 [cellsC hi] false true 7],base:=6 }) (fun k=>k≤sets.length) (fun k=>sets.length-k) 0 (by rw[mixB_zero]; rfl) (Nat.zero_le _) ?_
  unfold cellsC
  rintro k hk
  by_cases hlt:k<sets.length
  ·obtain ⟨s,hsi⟩:=get_some hlt
   have hsm:=List.mem_of_getElem? hsi
   have hs2:(sets.map encNS)[k]?=some (.agg [.tsl 11 (s.map encPrt)]):=map_get (g:=encNS) hsi
   have hr:=upK (covers_run s lo hi t (hs s hsm) (by have:=hn s hsm; omega) hlo hhi)
   obtain ⟨b0,hb0⟩:=mixB_get (lo:=lo) (hi:=hi) (t:=t) hb hlt
   have hset:=mixB_set (lo:=lo) (hi:=hi) (t:=t) hb hsi
   have hbl:(bools (mixB sets bs lo hi t k)).length=sets.length:=by unfold bools; rw[List.length_map,mixB_len hb hk]
   simp only[encNS,encCut] at hr
   generalize covM s lo hi t=c at hr hset
   generalize hR:bools (mixB sets bs lo hi t k)=R at *
   (repeat' first|simp (disch:=omega) only[go_sem,List.length_map,hs2,hb0,hbl]|refine pure_of _ (hr) ?_|(apply spl<;>intro h<;>try simp (disch:=omega) only[go_sem,h]))
   all_goals first | omega | skip
   refine ⟨k+1,?_,hlt,by omega⟩
   rw[←hset]
   rfl
  ·have hkk:k=sets.length:=by omega
   subst hkk
   rw[mixB_all hb]
   (repeat' first|simp (disch:=omega) only[go_sem,List.length_map]|(refine call_of _ _ (hf _ _) ?_)|(apply spl<;>intro h<;>try simp (disch:=omega) only[go_sem,h]))
   all_goals first | omega | skip
   exact postR_of (.inr rfl) (.bool (hasF F sets lo hi t)) rfl rfl rfl
end Ago
set_option maxRecDepth 100000
set_option maxHeartbeats 4000000
namespace Ago
open Go (IntKind)
def cH2 (sets:Sets) (g:Nat) (bs:List Bool) (old new:List AV):Heap:=[.row 1 [.tsl 1 (sets.map encNS)] false true 0,.row 1 [.sref 1 2 0 sets.length] false false 1,.row 1 (bools bs) false true 2,.row 1 [.fn g []] false true 3,.row 1 [.sref 12 6 0 new.length] false false 4,.row 12 old false true 5,.row 12 new false true 5]
theorem encReg_flat (r:Reg):encReg r = .agg [.int .i64 r.lo.fin,.bool r.lo.num.neg,.str r.lo.num.digits,.int .i64 r.lo.num.exp,.bool r.lo.aft,.int .i64 r.hi.fin,.bool r.hi.num.neg,.str r.hi.num.digits,.int .i64 r.hi.num.exp,.bool r.hi.aft,.bool r.wh,.bool r.fr]:=rfl
theorem addR_nil (r:Reg):addR [] r=[r]:=rfl
theorem addR_same {t:List Reg} {y r:Reg} (h:y.wh=r.wh∧y.fr=r.fr):addR (t++[y]) r=t++[⟨y.lo,r.hi,y.wh,y.fr⟩]:=by
 unfold addR
 simp [h]
theorem addR_new {t:List Reg} {y r:Reg} (h : ¬ (y.wh=r.wh∧y.fr=r.fr)):addR (t++[y]) r=t++[y]++[r]:=by
 unfold addR
 simp [h]
theorem add_run (sets:Sets) (g:Nat) (bs:List Bool) (regs:List Reg) (hl:regs.length<2^22) (r:Reg) :
  RunOf CKN 703 [encReg r,.ptr 1 4 0 0] (cH sets g bs (regs.map encReg)) (.tup []) (cH sets g bs ((addR regs r).map encReg))∨(regs≠[]∧RunOf CKN 703 [encReg r,.ptr 1 4 0 0] (cH sets g bs (regs.map encReg)) (.tup []) (cH2 sets g bs (regs.map encReg) ((addR regs r).map encReg))):=by
 rcases List.eq_nil_or_concat regs with rfl | ⟨t,y,rfl⟩
 ·left
  rw[addR_nil,List.map_nil,List.map_cons,List.map_nil,encReg_flat r]
  refine runR_of ac703 rfl ?_
  unfold cH
  simp only[outSl,outHp,List.append_nil,List.isEmpty_nil,List.isEmpty_cons,List.cons_append,List.nil_append,List.length_cons,List.length_nil]
  (repeat' first|simp (disch:=omega) only[go_sem,ac703,enter]|(apply spl<;>intro h<;>try simp (disch:=omega) only[go_sem,h]))
  all_goals first | omega | skip
  exact postR_of (.inl rfl) (.tup []) rfl rfl rfl
 ·simp only[List.concat_eq_append] at hl ⊢
  simp only[List.length_append,List.length_cons,List.length_nil] at hl
  obtain ⟨z,zs,hz⟩ : ∃ z zs,(t++[y]).map encReg=z::zs:=by cases t<;>exact ⟨_,_,rfl⟩
  have hzl:zs.length=t.length:=by have:=congrArg List.length hz; simp at this; omega
  have hget:(z::zs)[zs.length]?=some (encReg y):=by
   rw[←hz,hzl,List.map_append,List.getElem?_append_right (by simp)]
   simp
  have hset : ∀ x,(z::zs).set zs.length x=t.map encReg++[x]:=fun x=>by
   rw[←hz,hzl,List.map_append,List.set_append_right _ _ (by simp)]
   simp
  have e1:((zs.length+1:Nat):Int)-1=(zs.length:Int):=by omega
  rw[encReg_flat y] at hget
  by_cases hc:y.wh=r.wh∧y.fr=r.fr
  ·left
   rw[addR_same hc,show (t++[(⟨y.lo,r.hi,y.wh,y.fr⟩:Reg)]).map encReg=t.map encReg++[encReg ⟨y.lo,r.hi,y.wh,y.fr⟩] by simp,encReg_flat r]
   have hs:=hset (encReg ⟨y.lo,r.hi,y.wh,y.fr⟩)
   rw[←hs,hz]
   obtain ⟨a,as1,has⟩ : ∃ a as1,(z::zs).set zs.length (encReg ⟨y.lo,r.hi,y.wh,y.fr⟩)=a::as1:=by
    rw[hs]
    cases t<;>exact ⟨_,_,rfl⟩
   have hal:as1.length=zs.length:=by have:=congrArg List.length has; simp at this; omega
   rw[has]
   rw[encReg_flat] at has
   obtain ⟨k1,k2⟩:=hc
   refine runR_of ac703 rfl ?_
   unfold cH
   simp only[outSl,outHp,List.append_nil,List.isEmpty_nil,List.isEmpty_cons,List.cons_append,List.nil_append,List.length_cons,List.length_nil,hal]
   simp only[k1,k2] at hget has ⊢
   generalize r.wh=w at *
   generalize r.fr=f at *
   cases w<;>cases f
   all_goals
    (repeat' first|simp (disch:=omega) only[go_sem,ac703,enter,hget,e1,has,toNatK]|(apply spl<;>intro h<;>try simp (disch:=omega) only[go_sem,h]))
    all_goals first | omega | skip
    refine postR_of (.inr rfl) (.tup []) rfl rfl ?_
    simp only[outSl,outHp,hal]
    rfl
  ·right
   refine ⟨by simp,?_⟩
   rw[addR_new hc,show (t++[y]++[r]).map encReg=(t++[y]).map encReg++[encReg r] by simp,hz,encReg_flat r]
   refine runR_of ac703 rfl ?_
   unfold cH cH2
   simp only[outSl,outHp,List.append_nil,List.isEmpty_nil,List.isEmpty_cons,List.cons_append,List.nil_append,List.length_cons,List.length_nil,List.length_append]
   generalize r.wh=w at *
   generalize r.fr=f at *
   generalize y.wh=w' at *
   generalize y.fr=f' at *
   cases w<;>cases f<;>cases w'<;>cases f'
   all_goals first | (exfalso; exact hc ⟨rfl,rfl⟩) | skip
   all_goals
    (repeat' first|simp (disch:=omega) only[go_sem,ac703,enter,hget,e1,toNatK]|(apply spl<;>intro h<;>try simp (disch:=omega) only[go_sem,h]))
    all_goals first | omega | skip
    refine postR_of (.inl rfl) (.tup []) rfl rfl ?_
    simp only[outSl,outHp,List.length_append,List.length_cons,List.length_nil]
    rfl
end Ago
