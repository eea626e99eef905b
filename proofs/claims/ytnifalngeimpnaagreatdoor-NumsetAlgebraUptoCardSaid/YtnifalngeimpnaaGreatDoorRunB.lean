/- The number that a decimal is; decimals are compared like their numbers. -/
import Derived.Test.YtnifalngeimpnaaGreatDoorRunA
set_option linter.unusedSimpArgs false
set_option linter.unusedVariables false
set_option maxRecDepth 100000
namespace Ago
open Go (IntKind)
open Go.Lib (compareBytes repeatL)
theorem pow10_pos (n:Nat):(0:Int)<10^n:=Int.pow_pos (by decide)
def magD (d:Dec):Int:=fold10 d.digits * 10^(d.exp+400).toNat
def valD (d:Dec):Int:=if d.neg=true then-magD d else magD d
theorem fold10_rep : ∀ n,fold10 (List.replicate n 48)=0
 | 0=>rfl
 | n+1=>by
  rw[List.replicate_succ,fold10_cons,fold10_rep n]
  simp
theorem fold10_pad (s:List UInt8) (n:Nat):fold10 (pad s n)=fold10 s * 10^n:=by
 unfold pad
 rw[fold10_append,fold10_rep,List.length_replicate]
 omega
structure Num (s:List UInt8):Prop where
 dig:digits s=true
 head:s[0]?≠some 48
 ne:s≠[]
theorem Num.low {s:List UInt8} (h:Num s):(10:Int)^(s.length-1)≤fold10 s:=by
 cases s with
 | nil=>exact absurd rfl h.ne
 | cons c s=>
  have hd:=h.dig
  simp only[digits,List.all_cons,Bool.and_eq_true] at hd
  have hb:=fold10_bound s hd.2
  rw[fold10_cons]
  have hc:=hd.1
  simp only[digit,decide_eq_true_eq] at hc
  have h48:c.toNat≠48:=fun e=>h.head (by simp [UInt8.toNat_inj.1 (show c.toNat=(48:UInt8).toNat from e)])
  have hp:=pow10_pos s.length
  have h1:=Int.mul_le_mul_of_nonneg_right (show (1:Int)≤c.toNat-48 by omega) (show 0≤(10:Int)^s.length by omega)
  rw[Int.one_mul] at h1
  simp only[List.length_cons,Nat.add_sub_cancel]
  omega
theorem Num.pos {s:List UInt8} (h:Num s):0<fold10 s:=by
 have:=h.low
 have:=pow10_pos (s.length-1)
 omega
theorem Num.pad {s:List UInt8} (h:Num s) (n:Nat):Num (pad s n):=by
 refine ⟨digits_append h.dig (digits_noughts n),?_,?_⟩
 ·unfold Ago.pad
  rw[List.getElem?_append_left (List.length_pos_iff.2 h.ne)]
  exact h.head
 ·unfold Ago.pad
  simp [h.ne]
theorem cmpS_val {a b:List UInt8} (ha:Num a) (hb:Num b):(cmpS a b<0↔fold10 a<fold10 b)∧(cmpS a b=0↔fold10 a=fold10 b)∧(cmpS a b=0→a=b):=by
 have key : ∀ {x y:List UInt8},Num x→Num y→x.length<y.length→fold10 x<fold10 y:=fun {x y} hx hy h=>by
  have h1:=(fold10_bound x hx.dig).2
  have h2:=hy.low
  have h3:=pow10_le (show x.length≤y.length-1 by omega)
  omega
 unfold cmpS
 by_cases h1:a.length<b.length
 ·have:=key ha hb h1
  rw[if_pos h1]
  refine ⟨by simp; omega,by simp; omega,by simp⟩
 ·rw[if_neg h1]
  by_cases h2:b.length<a.length
  ·have:=key hb ha h2
   rw[if_pos h2]
   refine ⟨by simp; omega,by simp; omega,by simp⟩
  ·rw[if_neg h2,cmpB_bl]
   have hl:a.length=b.length:=by omega
   have l1:=less10 a b ha.dig hb.dig hl
   by_cases h3:Go.Op.bytesLess a b=true
   ·rw[if_pos h3]
    have:=l1.1 h3
    refine ⟨by simp; omega,by simp; omega,by simp⟩
   ·rw[if_neg h3]
    have h4:=fun h=>h3 (l1.2 h)
    by_cases h5:a=b
    ·rw[if_pos h5]
     subst h5
     simp
    ·rw[if_neg h5]
     have l2:=less10 b a hb.dig ha.dig hl.symm
     have h6:Go.Op.bytesLess b a=true:=by
      have e1:=cmpB_bl b a
      by_cases h7:Go.Op.bytesLess b a=true
      ·exact h7
      ·exfalso
       apply h5
       have : ∀ (x y:List UInt8),x.length=y.length→¬ Go.Op.bytesLess x y=true→¬ Go.Op.bytesLess y x=true→x=y:=by
        intro x
        induction x with
        | nil=>intro y h _ _; cases y with
         | nil=>rfl
         | cons _ _=>simp at h
        | cons u x ih=>intro y h k1 k2; cases y with
         | nil=>simp at h
         | cons v y=>
          simp only[Go.Op.bytesLess,Bool.or_eq_true,decide_eq_true_eq,Bool.and_eq_true,beq_iff_eq,not_or,not_and] at k1 k2
          have e:u=v:=UInt8.le_antisymm (UInt8.not_lt.1 k2.1) (UInt8.not_lt.1 k1.1)
          subst e
          rw[ih y (by simpa using h) (k1.2 rfl) (k2.2 rfl)]
       exact this a b hl h3 h7
     have:=l2.1 h6
     refine ⟨by simp; omega,by simp; omega,by simp⟩
theorem decOk_num {d:Dec} (h:decOk d=true) (hn:d.digits≠[]):Num d.digits∧zeros d.digits=0∧d.digits.length≤120∧-400≤d.exp∧d.exp≤400:=by
 unfold decOk numeral at h
 rw[if_neg hn] at h
 simp only[Bool.and_eq_true,decide_eq_true_eq] at h
 obtain ⟨⟨⟨⟨h1,⟨h2,h3⟩,h4⟩,h5⟩,h6⟩,h7⟩:=h
 exact ⟨⟨h3,h4,hn⟩,h5,h1,h6,h7⟩
theorem decOk_nil {d:Dec} (h:decOk d=true) (hn:d.digits=[]):d=⟨false,[],0⟩:=by
 unfold decOk at h
 rw[if_pos hn] at h
 obtain ⟨n,ds,e⟩:=d
 simp at h hn
 simp [h,hn]
theorem magD_pos {d:Dec} (h:decOk d=true) (hn:d.digits≠[]):0<magD d:=by
 obtain ⟨h1,_⟩:=decOk_num h hn
 exact Int.mul_pos h1.pos (pow10_pos _)
theorem magD_nil {d:Dec} (hn:d.digits=[]):magD d=0:=by
 unfold magD
 rw[hn]
 simp [fold10]
theorem magD_nonneg {d:Dec} (h:decOk d=true):0≤magD d:=by
 by_cases hn:d.digits=[]
 ·rw[magD_nil hn]; exact Int.le_refl _
 ·have:=magD_pos h hn
  omega
theorem magD_top {d:Dec} (h:decOk d=true):magD d<10^920:=by
 by_cases hn:d.digits=[]
 ·rw[magD_nil hn]; exact pow10_pos _
 ·obtain ⟨h1,_,h2,h3,h4⟩:=decOk_num h hn
  have hb:=fold10_bound d.digits h1.dig
  have e:magD d=fold10 (pad d.digits (d.exp+400).toNat):=by rw[fold10_pad]; rfl
  rw[e]
  have hb2:=(fold10_bound _ (h1.pad (d.exp+400).toNat).dig).2
  have hl:(pad d.digits (d.exp+400).toNat).length≤920:=by
   simp only[pad,List.length_append,List.length_replicate]
   omega
  have:=pow10_le hl
  omega
theorem zeros_pad (s:List UInt8) (n:Nat) (h:Num s) (h0:zeros s=0):zeros (pad s n)=n:=by
 unfold zeros pad at *
 rw[List.reverse_append,List.reverse_replicate]
 have : ∀ (n:Nat) (l:List UInt8),((List.replicate n 48++l).takeWhile (· == (48:UInt8))).length=n+(l.takeWhile (· == (48:UInt8))).length:=by
  intro n l
  induction n with
  | zero=>simp
  | succ n ih=>
   rw[List.replicate_succ,List.cons_append,List.takeWhile_cons_of_pos (by rfl),List.length_cons,ih]
   omega
 rw[this,h0]
 rfl
theorem sizeM_val {a b:Dec} (ha:decOk a=true) (hb:decOk b=true):(sizeM a b<0↔magD a<magD b)∧(sizeM a b=0↔magD a=magD b)∧(sizeM a b=0→a.digits=b.digits∧a.exp=b.exp):=by
 by_cases h1:a.digits=[]
 ·have e1:=decOk_nil ha h1
  by_cases h2:b.digits=[]
  ·have e2:=decOk_nil hb h2
   rw[e1,e2]
   simp [sizeM,cmpS,cmpB_self]
  ·have hp:=magD_pos hb h2
   rw[magD_nil h1]
   have hl:=List.length_pos_iff.2 h2
   have:sizeM a b = -1:=by
    unfold sizeM cmpS
    rw[if_pos (.inl h1),h1,if_pos (by simpa using hl)]
   rw[this]
   exact ⟨by simp; omega,by simp; omega,by simp⟩
 by_cases h2:b.digits=[]
 ·have hp:=magD_pos ha h1
  rw[magD_nil h2]
  have hl:=List.length_pos_iff.2 h1
  have:sizeM a b=1:=by
   unfold sizeM cmpS
   rw[if_pos (.inr h2),h2,if_neg (by simp),if_pos (by simpa using hl)]
  rw[this]
  exact ⟨by simp; omega,by simp; omega,by simp⟩
 obtain ⟨a1,a2,a3,a4,a5⟩:=decOk_num ha h1
 obtain ⟨b1,b2,b3,b4,b5⟩:=decOk_num hb h2
 have e:=size_align a b h1 h2 (-400) a4 b4
 rw[show a.exp - -400=a.exp+400 by omega,show b.exp - -400=b.exp+400 by omega] at e
 have hc:=cmpS_val (a1.pad (a.exp+400).toNat) (b1.pad (b.exp+400).toNat)
 rw[e,fold10_pad,fold10_pad] at hc
 refine ⟨hc.1,hc.2.1,fun h=>?_⟩
 have hpp:=hc.2.2 h
 have z:=congrArg zeros hpp
 rw[zeros_pad _ _ a1 a2,zeros_pad _ _ b1 b2] at z
 refine ⟨?_,by omega⟩
 rw[z] at hpp
 unfold pad at hpp
 exact List.append_cancel_right hpp
theorem cmpM_val {a b:Dec} (ha:decOk a=true) (hb:decOk b=true):(cmpM a b<0↔valD a<valD b)∧(cmpM a b=0↔valD a=valD b)∧(cmpM a b=0→a=b):=by
 have s1:=sizeM_val ha hb
 have s2:=sizeM_val hb ha
 have na:=magD_nonneg ha
 have nb:=magD_nonneg hb
 have zn : ∀ {d:Dec},decOk d=true→d.neg=true→0<magD d:=fun {d} hd hn=>by
  refine magD_pos hd fun h=>?_
  rw[decOk_nil hd h] at hn
  cases hn
 have pa:=zn ha
 have pb:=zn hb
 have ext:a.neg=b.neg→a.digits=b.digits→a.exp=b.exp→a=b:=fun h1 h2 h3=>by
  obtain ⟨x,y,z⟩:=a
  obtain ⟨u,v,w⟩:=b
  simp only at h1 h2 h3
  rw[h1,h2,h3]
 unfold cmpM valD
 cases h1:a.neg<;>cases h2:b.neg
 ·simp only[Bool.false_eq_true,false_and,and_false,if_false]
  exact ⟨s1.1,s1.2.1,fun h=>ext (by rw[h1,h2]) (s1.2.2 h).1 (s1.2.2 h).2⟩
 ·have:=pb h2
  simp only[Bool.false_eq_true,false_and,if_false,true_and,if_true]
  refine ⟨by simp; omega,by simp; omega,by simp⟩
 ·have:=pa h1
  simp only[Bool.false_eq_true,and_self,if_true]
  refine ⟨by simp; omega,by simp; omega,by simp⟩
 ·simp only[Bool.true_eq_false,and_false,if_false,if_true]
  refine ⟨by omega,by omega,fun h=>ext (by rw[h1,h2]) (s2.2.2 h).1.symm (s2.2.2 h).2.symm⟩
theorem valD_top {d:Dec} (h:decOk d=true) : - 10^920<valD d∧valD d<10^920:=by
 have h1:=magD_top h
 have h2:=magD_nonneg h
 unfold valD
 generalize (10:Int)^920=B at *
 split<;>omega
end Ago
set_option maxRecDepth 100000
namespace Ago
structure Cut where
 fin:Int
 num:Dec
 aft:Bool
def encCut (c:Cut):AV:=.agg [.int .i64 c.fin,.bool c.num.neg,.str c.num.digits,.int .i64 c.num.exp,.bool c.aft]
def zeroD:Dec:=⟨false,[],0⟩
def lowC (b:Bnd):Cut:=if b.set=true then ⟨0,b.num,b.opn⟩ else ⟨-1,zeroD,false⟩
def uppC (b:Bnd):Cut:=if b.set=true then ⟨0,b.num,!b.opn⟩ else ⟨1,zeroD,false⟩
def cmpC (a b:Cut):Int:=
 if a.fin≠b.fin then a.fin-b.fin
 else if cmpM a.num b.num≠0∨a.aft=b.aft then cmpM a.num b.num
 else if b.aft=true then -1 else 1
def cutOk (c:Cut):Prop:=(c.fin=0∧decOk c.num=true)∨((c.fin = -1∨c.fin=1)∧c.num=zeroD∧c.aft=false)
def topK:Int:=10^930
def keyC (c:Cut):Int:=if c.fin=0 then 2 * valD c.num+(if c.aft=true then 1 else 0) else c.fin * topK
theorem zeroD_ok:decOk zeroD=true:=by decide
theorem cut_dec {c:Cut} (h:cutOk c):decOk c.num=true:=by
 rcases h with ⟨_,h⟩ | ⟨_,h,_⟩
 ·exact h
 ·rw[h]; exact zeroD_ok
theorem top_big {d:Dec} (h:decOk d=true) : - topK<2 * valD d∧2 * valD d+1<topK:=by
 have h1:=valD_top h
 have h2:(4:Int) * 10^920≤topK:=by
  show (4:Int) * 10^920≤10^930
  decide +kernel
 have h3:=pow10_pos 920
 generalize topK=T at *
 generalize (10:Int)^920=B at *
 omega
theorem topK_pos:0<topK:=pow10_pos 930
theorem key_zero {c:Cut} (h:c.fin=0):keyC c=2 * valD c.num+(if c.aft=true then 1 else 0):=by unfold keyC; rw[if_pos h]
theorem key_low {c:Cut} (h:c.fin = -1):keyC c = - topK:=by
 unfold keyC
 rw[if_neg (by omega),h]
 omega
theorem key_upp {c:Cut} (h:c.fin=1):keyC c=topK:=by
 unfold keyC
 rw[if_neg (by omega),h]
 omega
theorem key_range {c:Cut} (h:cutOk c) : - topK≤keyC c∧keyC c≤topK∧(keyC c = - topK→c.fin = -1)∧(keyC c=topK→c.fin=1):=by
 have hp:=topK_pos
 rcases h with ⟨h0,hd⟩ | ⟨h | h,_⟩
 ·have:=top_big hd
  rw[key_zero h0]
  split<;>omega
 ·rw[key_low h]; omega
 ·rw[key_upp h]; omega
theorem cmpC_key {a b:Cut} (ha:cutOk a) (hb:cutOk b):(cmpC a b<0↔keyC a<keyC b)∧(cmpC a b=0↔keyC a=keyC b)∧(keyC a=keyC b→a=b):=by
 have hp:=topK_pos
 have ra:=key_range ha
 have rb:=key_range hb
 unfold cmpC
 by_cases hf:a.fin=b.fin
 ·rw[if_neg (by omega)]
  rcases ha with ⟨a0,ad⟩ | ⟨a0,ad,aa⟩
  ·have b0:b.fin=0:=by omega
   have bd:decOk b.num=true:=by
    rcases hb with ⟨_,bd⟩ | ⟨h,_⟩
    ·exact bd
    ·omega
   have hv:=cmpM_val ad bd
   rw[key_zero a0,key_zero b0]
   have ext:cmpM a.num b.num=0→a.aft=b.aft→a=b:=fun h1 h2=>by
    have h3:=hv.2.2 h1
    obtain ⟨x,y,z⟩:=a
    obtain ⟨u,v,w⟩:=b
    simp only at hf h2 h3
    rw[hf,h2,h3]
   by_cases h0:cmpM a.num b.num=0
   ·have h1:=hv.2.1.1 h0
    cases hx:a.aft<;>cases hy:b.aft
    ·rw[if_pos (.inr rfl),h0,h1]
     simp
     exact ext h0 (by rw[hx,hy])
    ·rw[if_neg (by simp [h0]),h1]
     simp
     omega
    ·rw[if_neg (by simp [h0]),h1]
     simp
     omega
    ·rw[if_pos (.inr rfl),h0,h1]
     simp
     exact ext h0 (by rw[hx,hy])
   ·rw[if_pos (.inl h0)]
    have h1:=fun h=>h0 (hv.2.1.2 h)
    have h2:=hv.1
    generalize cmpM a.num b.num=c at *
    generalize valD a.num=x at *
    generalize valD b.num=y at *
    cases a.aft<;>cases b.aft<;>simp<;>omega
  ·rcases hb with ⟨b0,_⟩ | ⟨b0,bd,ba⟩
   ·omega
   ·have e:a=b:=by
     obtain ⟨x,y,z⟩:=a
     obtain ⟨u,v,w⟩:=b
     simp only at hf ad aa bd ba
     rw[hf,ad,aa,bd,ba]
    subst e
    rw[if_pos (.inr rfl)]
    have:=cmpM_val (a:=a.num) (b:=a.num) (by rw[ad]; exact zeroD_ok) (by rw[ad]; exact zeroD_ok)
    have h0:=this.2.1.2 rfl
    rw[h0]
    simp
 ·rw[if_pos hf]
  have hne:keyC a≠keyC b:=fun h=>by
   rcases ha with ⟨a0,ad⟩ | ⟨a0 | a0,_⟩<;>rcases hb with ⟨b0,bd⟩ | ⟨b0 | b0,_⟩<;>first | omega | skip
   ·rw[key_low b0] at h; have:=ra.2.2.1 h; omega
   ·rw[key_upp b0] at h; have:=ra.2.2.2 h; omega
   ·rw[key_low a0] at h; have:=rb.2.2.1 h.symm; omega
   ·rw[key_low a0,key_upp b0] at h; omega
   ·rw[key_upp a0] at h; have:=rb.2.2.2 h.symm; omega
   ·rw[key_upp a0,key_low b0] at h; omega
  refine ⟨?_,by omega,fun h=>absurd h hne⟩
  rcases ha with ⟨a0,ad⟩ | ⟨a0 | a0,_⟩<;>rcases hb with ⟨b0,bd⟩ | ⟨b0 | b0,_⟩<;>first | omega | skip
  ·rw[key_low b0] at *; omega
  ·rw[key_upp b0] at *; omega
  ·rw[key_low a0] at *; omega
  ·rw[key_low a0,key_upp b0]; omega
  ·rw[key_upp a0] at *; omega
  ·rw[key_upp a0,key_low b0]; omega
theorem bnd_num {b:Bnd} (h:bndOk b=true) (hs:b.set=true):decOk b.num=true:=by
 unfold bndOk at h
 rwa [if_pos hs] at h
theorem bnd_unset {b:Bnd} (h:bndOk b=true) (hs : ¬ b.set=true):b=⟨false,zeroD,false⟩:=by
 unfold bndOk at h
 rw[if_neg hs] at h
 obtain ⟨s,⟨n,ds,e⟩,o⟩:=b
 simp only[Bool.and_eq_true,Bool.not_eq_true',beq_iff_eq] at h hs
 obtain ⟨⟨⟨h1,h2⟩,h3⟩,h4⟩:=h
 cases s
 ·rw[h1,h2,h3,h4]; rfl
 ·simp at hs
theorem low_ok {b:Bnd} (h:bndOk b=true):cutOk (lowC b):=by
 unfold lowC
 split
 ·rename_i hs
  exact .inl ⟨rfl,bnd_num h hs⟩
 ·exact .inr ⟨.inl rfl,rfl,rfl⟩
theorem upp_ok {b:Bnd} (h:bndOk b=true):cutOk (uppC b):=by
 unfold uppC
 split
 ·rename_i hs
  exact .inl ⟨rfl,bnd_num h hs⟩
 ·exact .inr ⟨.inr rfl,rfl,rfl⟩
theorem prt_bnds {p:Prt} (h:prtOk p=true):bndOk p.lo=true∧bndOk p.hi=true∧0≤p.sort∧p.sort≤2:=by
 unfold prtOk at h
 simp only[Bool.and_eq_true,decide_eq_true_eq] at h
 exact ⟨h.1.1.1,h.1.1.2,h.1.2,h.2⟩
def sortD (d:Dec):Int:=if 0≤d.exp then 1 else 2
def sortIn (s t:Int):Bool:=decide (s=0∨s=t)
theorem low_key {b:Bnd} (h:bndOk b=true) {d:Dec} (hd:decOk d=true):keyC (lowC b)≤2 * valD d↔¬ (b.set=true∧(cmpM d b.num<0∨cmpM d b.num=0∧b.opn=true)):=by
 have ht:=top_big hd
 unfold lowC
 by_cases hs:b.set=true
 ·rw[if_pos hs,key_zero rfl]
  have hv:=cmpM_val hd (bnd_num h hs)
  cases ho:b.opn<;>simp only[hs,true_and,Bool.false_eq_true,and_false,or_false,and_true,if_false,if_true]<;>omega
 ·rw[if_neg hs,key_low rfl]
  rw[Bool.not_eq_true] at hs
  simp only[hs,Bool.false_eq_true,false_and,not_false_eq_true,iff_true]
  omega
theorem upp_key {b:Bnd} (h:bndOk b=true) {d:Dec} (hd:decOk d=true):2 * valD d<keyC (uppC b)↔¬ (b.set=true∧(0<cmpM d b.num∨cmpM d b.num=0∧b.opn=true)):=by
 have ht:=top_big hd
 unfold uppC
 by_cases hs:b.set=true
 ·rw[if_pos hs,key_zero rfl]
  have hv:=cmpM_val hd (bnd_num h hs)
  cases ho:b.opn<;>simp only[hs,true_and,Bool.false_eq_true,and_false,or_false,and_true,if_false,if_true,Bool.not_true,Bool.not_false]<;>omega
 ·rw[if_neg hs,key_upp rfl]
  rw[Bool.not_eq_true] at hs
  simp only[hs,Bool.false_eq_true,false_and,not_false_eq_true,iff_true]
  omega
theorem inM_key {p:Prt} (hp:prtOk p=true) {d:Dec} (hd:decOk d=true):inM p d=(decide (keyC (lowC p.lo)≤2 * valD d) && decide (2 * valD d<keyC (uppC p.hi)) && sortIn p.sort (sortD d)):=by
 obtain ⟨h1,h2,h3,h4⟩:=prt_bnds hp
 have e1:=low_key h1 hd
 have e2:=upp_key h2 hd
 unfold inM
 by_cases k1:p.lo.set=true∧(cmpM d p.lo.num<0∨cmpM d p.lo.num=0∧p.lo.opn=true)
 ·rw[if_pos k1,decide_eq_false (fun h=>(e1.1 h) k1)]
  rfl
 ·rw[if_neg k1,decide_eq_true (e1.2 k1)]
  by_cases k2:p.hi.set=true∧(0<cmpM d p.hi.num∨cmpM d p.hi.num=0∧p.hi.opn=true)
  ·rw[if_pos k2,decide_eq_false (fun h=>(e2.1 h) k2)]
   rfl
  ·rw[if_neg k2,decide_eq_true (e2.2 k2)]
   unfold sortIn sortD
   by_cases hs:p.sort=0
   ·simp [hs]
   ·rw[if_neg hs]
    by_cases hx:0≤d.exp<;>by_cases hy:p.sort=1<;>by_cases hz:p.sort=2<;>simp [hs,hx,hy,hz]<;>omega
structure Reg where
 lo:Cut
 hi:Cut
 wh:Bool
 fr:Bool
def encReg (r:Reg):AV:=.agg [.int .i64 r.lo.fin,.bool r.lo.num.neg,.str r.lo.num.digits,.int .i64 r.lo.num.exp,.bool r.lo.aft,.int .i64 r.hi.fin,.bool r.hi.num.neg,.str r.hi.num.digits,.int .i64 r.hi.num.exp,.bool r.hi.aft,.bool r.wh,.bool r.fr]
def covP (lo hi:Cut) (t:Int) (p:Prt):Bool:=sortIn p.sort t && decide (cmpC (lowC p.lo) lo≤0) && decide (cmpC hi (uppC p.hi)≤0)
def covM (s:List Prt) (lo hi:Cut) (t:Int):Bool:=s.any (covP lo hi t)
abbrev Sets:=List (List Prt)
def hasF (F:List Bool→Bool) (sets:Sets) (lo hi:Cut) (t:Int):Bool:=F (sets.map fun s=>covM s lo hi t)
def regAt (F:List Bool→Bool) (sets:Sets) (lo hi:Cut):Reg:=⟨lo,hi,hasF F sets lo hi 1,hasF F sets lo hi 2⟩
def addR (rs:List Reg) (r:Reg):List Reg:=
 match rs.getLast? with
 | none=>[r]
 | some x=>if x.wh=r.wh∧x.fr=r.fr then rs.dropLast++[⟨x.lo,r.hi,x.wh,x.fr⟩] else rs++[r]
def regsM (F:List Bool→Bool) (sets:Sets):List Cut→List Reg→List Reg
 | a::b::l,rs=>regsM F sets (b::l) (addR rs (regAt F sets a b))
 | _,rs=>rs
def bndLo (c:Cut):Bnd:=if c.fin=0 then ⟨true,c.num,c.aft⟩ else ⟨false,zeroD,false⟩
def bndHi (c:Cut):Bnd:=if c.fin=0 then ⟨true,c.num,!c.aft⟩ else ⟨false,zeroD,false⟩
def srtR (r:Reg):Int:=if r.wh=true then (if r.fr=true then 0 else 1) else 2
def prtR (r:Reg):Prt:=⟨bndLo r.lo,bndHi r.hi,srtR r⟩
def liveR (r:Reg):Bool:=r.wh || r.fr
def partsM (rs:List Reg):List Prt:=(rs.filter liveR).map prtR
structure CutsOf (sets:Sets) (l:List Cut):Prop where
 mem : ∀ c,c∈l↔(c=⟨-1,zeroD,false⟩∨c=⟨1,zeroD,false⟩∨∃ s,s∈sets∧∃ p,p∈s∧(c=lowC p.lo∨c=uppC p.hi))
 ord:l.Pairwise fun a b=>keyC a<keyC b
theorem CutsOf.ok {sets:Sets} {l:List Cut} (h:CutsOf sets l) (hs : ∀ s,s∈sets→∀ p,p∈s→prtOk p=true) : ∀ c,c∈l→cutOk c:=by
 intro c hc
 rcases (h.mem c).1 hc with rfl | rfl | ⟨s,h1,p,h2,rfl | rfl⟩
 ·exact .inr ⟨.inl rfl,rfl,rfl⟩
 ·exact .inr ⟨.inr rfl,rfl,rfl⟩
 ·exact low_ok (prt_bnds (hs s h1 p h2)).1
 ·exact upp_ok (prt_bnds (hs s h1 p h2)).2.1
def flagR (t:Int) (r:Reg):Bool:=if t=1 then r.wh else r.fr
def inR (x t:Int) (r:Reg):Bool:=decide (keyC r.lo≤x) && decide (x<keyC r.hi) && flagR t r
def selR (rs:List Reg) (x t:Int):Bool:=rs.any (inR x t)
structure RegsTo (rs:List Reg) (e:Cut):Prop where
 ord : ∀ r,r∈rs→keyC r.lo<keyC r.hi
 last : ∀ r,rs.getLast?=some r→r.hi=e
theorem snoc_of {α:Type} {l:List α} {x:α} (h:l.getLast?=some x) : ∃ t,l=t++[x]:=by
 have hne:l≠[]:=fun e=>by rw[e] at h; cases h
 refine ⟨l.dropLast,?_⟩
 rw[List.getLast?_eq_some_getLast hne] at h
 cases h
 exact (List.dropLast_concat_getLast hne).symm
theorem add_to {rs:List Reg} {r:Reg} {e:Cut} (h:RegsTo rs e) (hr:keyC r.lo<keyC r.hi) (he:r.lo=e):RegsTo (addR rs r) r.hi∧(∀ x t,selR (addR rs r) x t=(selR rs x t || inR x t r))∧(addR rs r).length≤rs.length+1∧addR rs r≠[]:=by
 unfold addR
 cases hl:rs.getLast? with
 | none=>
  have:rs=[]:=List.getLast?_eq_none_iff.1 hl
  subst this
  exact ⟨⟨fun x hx=>by rw[List.mem_singleton.1 hx]; exact hr,fun x hx=>by simp at hx; rw[hx]⟩,fun x t=>by simp [selR],by simp,by simp⟩
 | some y=>
  obtain ⟨t0,ht⟩:=snoc_of hl
  have hy:=h.last y hl
  have hyo:=h.ord y (by rw[ht]; simp)
  simp only
  by_cases hc:y.wh=r.wh∧y.fr=r.fr
  ·rw[if_pos hc]
   subst ht
   rw[List.dropLast_concat]
   refine ⟨⟨fun x hx=>?_,fun x hx=>by simp at hx; rw[←hx]⟩,fun x t=>?_,by simp,by simp⟩
   ·rcases List.mem_append.1 hx with hx | hx
    ·exact h.ord x (by simp [hx])
    ·rw[List.mem_singleton.1 hx]
     show keyC y.lo<keyC r.hi
     rw[hy,←he] at hyo
     omega
   ·unfold selR
    rw[List.any_append,List.any_append,Bool.or_assoc]
    congr 1
    simp only[List.any_cons,List.any_nil,Bool.or_false]
    unfold inR flagR
    rw[hc.1,hc.2,he,←hy]
    rw[he,←hy] at hr
    simp only
    by_cases k1:keyC y.lo≤x<;>by_cases k2:x<keyC y.hi<;>by_cases k3:x<keyC r.hi<;>by_cases k4:keyC y.hi≤x<;>first | omega | (simp [k1,k2,k3,k4])
  ·rw[if_neg hc]
   refine ⟨⟨fun x hx=>?_,fun x hx=>by simp at hx; rw[←hx]⟩,fun x t=>?_,by simp,by simp⟩
   ·rcases List.mem_append.1 hx with hx | hx
    ·exact h.ord x hx
    ·rw[List.mem_singleton.1 hx]; exact hr
   ·unfold selR
    rw[List.any_append]
    simp
def selP (F:List Bool→Bool) (sets:Sets) (x t:Int):List Cut→Bool
 | a::b::l=>inR x t (regAt F sets a b) || selP F sets x t (b::l)
 | _=>false
theorem regs_sel (F:List Bool→Bool) (sets:Sets) (x t:Int) : ∀ (l:List Cut) (a:Cut) (rs:List Reg),RegsTo rs a→(a::l).Pairwise (fun a b=>keyC a<keyC b)→selR (regsM F sets (a::l) rs) x t=(selR rs x t || selP F sets x t (a::l))∧(regsM F sets (a::l) rs).length≤rs.length+l.length∧(∀ r,r∈regsM F sets (a::l) rs→keyC r.lo<keyC r.hi)
 | [],a,rs,h,_=>by simp [regsM,selP]; exact h.ord
 | b::l,a,rs,h,hp=>by
  have hab:keyC a<keyC b:=(List.pairwise_cons.1 hp).1 b (by simp)
  obtain ⟨h1,h2,h3,_⟩:=add_to h (r:=regAt F sets a b) hab rfl
  obtain ⟨i1,i2,i3⟩:=regs_sel F sets x t l b _ h1 (List.pairwise_cons.1 hp).2
  rw[regsM,selP]
  refine ⟨by rw[i1,h2,Bool.or_assoc],by simp only[List.length_cons]; omega,i3⟩
theorem sel_skip (F:List Bool→Bool) (sets:Sets) (x t:Int) : ∀ (l:List Cut),(∀ c,c∈l→x<keyC c)→selP F sets x t l=false
 | [],_=>rfl
 | [_],_=>rfl
 | a::b::l,h=>by
  rw[selP,sel_skip F sets x t (b::l) fun c hc=>h c (List.mem_cons_of_mem _ hc)]
  have:=h a (by simp)
  unfold inR regAt
  simp only[show ¬ keyC a≤x by omega,decide_false,Bool.false_and,Bool.or_false]
theorem sel_pair (F:List Bool→Bool) (sets:Sets) (x t:Int) : ∀ (l:List Cut) (a z:Cut),(a::l).Pairwise (fun a b=>keyC a<keyC b)→keyC a≤x→z∈l→x<keyC z→∃ lo hi u v,a::l=u++lo::hi::v∧keyC lo≤x∧x<keyC hi∧selP F sets x t (a::l)=flagR t (regAt F sets lo hi)
 | [],a,z,_,_,hz,_=>by cases hz
 | b::l,a,z,hp,ha,hz,hx=>by
  have hp2:=(List.pairwise_cons.1 hp).2
  rw[selP]
  by_cases hb:x<keyC b
  ·refine ⟨a,b,[],l,rfl,ha,hb,?_⟩
   rw[sel_skip F sets x t (b::l) fun c hc=>by
    rcases List.mem_cons.1 hc with rfl | hc
    ·exact hb
    ·have:=(List.pairwise_cons.1 hp2).1 c hc
     omega]
   unfold inR
   have e1:decide (keyC (regAt F sets a b).lo≤x)=true:=decide_eq_true ha
   have e2:decide (x<keyC (regAt F sets a b).hi)=true:=decide_eq_true hb
   rw[e1,e2]
   simp
  ·have hz':z∈l:=by
    rcases List.mem_cons.1 hz with rfl | hz
    ·exact absurd hx hb
    ·exact hz
   obtain ⟨lo,hi,u,v,h1,h2,h3,h4⟩:=sel_pair F sets x t l b z hp2 (by omega) hz' hx
   refine ⟨lo,hi,a::u,v,by rw[h1]; rfl,h2,h3,?_⟩
   rw[h4]
   unfold inR
   have e2:decide (x<keyC (regAt F sets a b).hi)=false:=decide_eq_false hb
   rw[e2]
   simp
theorem cov_in {sets:Sets} {l:List Cut} (h:CutsOf sets l) (hs : ∀ s,s∈sets→∀ p,p∈s→prtOk p=true) {lo hi:Cut} {u v:List Cut} (hl:l=u++lo::hi::v) {d:Dec} (hd:decOk d=true) (h1:keyC lo≤2 * valD d) (h2:2 * valD d<keyC hi)
  {s:List Prt} (hm:s∈sets) {p:Prt} (hp:p∈s):covP lo hi (sortD d) p=inM p d:=by
 have hok:=hs s hm p hp
 have ok:=h.ok hs
 have m1:lowC p.lo∈l:=(h.mem _).2 (.inr (.inr ⟨s,hm,p,hp,.inl rfl⟩))
 have m2:uppC p.hi∈l:=(h.mem _).2 (.inr (.inr ⟨s,hm,p,hp,.inr rfl⟩))
 have lok:cutOk lo:=ok _ (by rw[hl]; simp)
 have hok2:cutOk hi:=ok _ (by rw[hl]; simp)
 have ho:=h.ord
 rw[hl] at ho
 have hlh:keyC lo<keyC hi:=by omega
 have near : ∀ c,c∈l→keyC c≤keyC lo∨keyC hi≤keyC c:=by
  intro c hc
  rw[hl] at hc
  rw[List.pairwise_append] at ho
  obtain ⟨o1,o2,o3⟩:=ho
  rcases List.mem_append.1 hc with hc | hc
  ·left
   have:=o3 c hc lo (by simp)
   omega
  ·rcases List.mem_cons.1 hc with rfl | hc
   ·left; exact Int.le_refl _
   ·right
    rcases List.mem_cons.1 hc with rfl | hc
    ·exact Int.le_refl _
    ·have:=(List.pairwise_cons.1 (List.pairwise_cons.1 o2).2).1 c hc
     omega
 have c1:=cmpC_key (ok _ m1) lok
 have c2:=cmpC_key hok2 (ok _ m2)
 rw[inM_key hok hd]
 unfold covP
 have n1:=near _ m1
 have n2:=near _ m2
 have e1:decide (cmpC (lowC p.lo) lo≤0)=decide (keyC (lowC p.lo)≤2 * valD d):=by
  rw[decide_eq_decide]
  omega
 have e2:decide (cmpC hi (uppC p.hi)≤0)=decide (2 * valD d<keyC (uppC p.hi)):=by
  rw[decide_eq_decide]
  omega
 rw[e1,e2]
 cases sortIn p.sort (sortD d)<;>simp
theorem any_congr {α:Type} {l:List α} {f g:α→Bool} (h : ∀ x,x∈l→f x=g x):l.any f=l.any g:=by
 induction l with
 | nil=>rfl
 | cons x l ih=>
  rw[List.any_cons,List.any_cons,h x (by simp),ih fun y hy=>h y (List.mem_cons_of_mem _ hy)]
def anyIn (l:List Prt) (d:Dec):Bool:=l.any fun p=>inM p d
theorem sel_sets {F:List Bool→Bool} {sets:Sets} {l:List Cut} (h:CutsOf sets l) (hs : ∀ s,s∈sets→∀ p,p∈s→prtOk p=true) {d:Dec} (hd:decOk d=true):selP F sets (2 * valD d) (sortD d) l=F (sets.map fun s=>anyIn s d):=by
 have ht:=top_big hd
 have hm1:(⟨-1,zeroD,false⟩:Cut)∈l:=(h.mem _).2 (.inl rfl)
 have hm2:(⟨1,zeroD,false⟩:Cut)∈l:=(h.mem _).2 (.inr (.inl rfl))
 have k1:keyC ⟨-1,zeroD,false⟩ = - topK:=key_low rfl
 have k2:keyC ⟨1,zeroD,false⟩=topK:=key_upp rfl
 have ho:=h.ord
 cases l with
 | nil=>cases hm1
 | cons a l=>
  have ha:keyC a≤2 * valD d:=by
   rcases List.mem_cons.1 hm1 with e | hm
   ·rw[←e,k1]; omega
   ·have:=(List.pairwise_cons.1 ho).1 _ hm
    omega
  have hz:(⟨1,zeroD,false⟩:Cut)∈l:=by
   rcases List.mem_cons.1 hm2 with e | hm
   ·rw[←e,k2] at ha; omega
   ·exact hm
  obtain ⟨lo,hi,u,v,e,h1,h2,h3⟩:=sel_pair F sets (2 * valD d) (sortD d) l a _ ho ha hz (by omega)
  rw[h3]
  have hh:flagR (sortD d) (regAt F sets lo hi)=hasF F sets lo hi (sortD d):=by
   unfold flagR regAt sortD
   by_cases hx:0≤d.exp
   ·rw[if_pos hx,if_pos rfl]
   ·rw[if_neg hx,if_neg (by omega)]
  rw[hh]
  unfold hasF
  congr 1
  refine List.map_congr_left fun s hs'=>?_
  exact any_congr fun p hp=>cov_in h hs e hd h1 h2 hs' hp
theorem regs_mem (F:List Bool→Bool) (sets:Sets) (S:Cut→Prop) : ∀ (l:List Cut) (rs:List Reg),(∀ c,c∈l→S c)→(∀ r,r∈rs→S r.lo∧S r.hi)→∀ r,r∈regsM F sets l rs→S r.lo∧S r.hi
 | [],rs,_,h2=>h2
 | [_],rs,_,h2=>h2
 | a::b::l,rs,h1,h2=>by
  rw[regsM]
  refine regs_mem F sets S (b::l) _ (fun c hc=>h1 c (List.mem_cons_of_mem _ hc)) fun r hr=>?_
  have ha:=h1 a (by simp)
  have hb:=h1 b (by simp)
  unfold addR at hr
  split at hr
  ·rw[List.mem_singleton.1 hr]; exact ⟨ha,hb⟩
  ·rename_i y hy
   have hym:y∈rs:=List.mem_of_getLast? hy
   split at hr
   ·rcases List.mem_append.1 hr with hr | hr
    ·exact h2 r (List.dropLast_subset _ hr)
    ·rw[List.mem_singleton.1 hr]; exact ⟨(h2 y hym).1,hb⟩
   ·rcases List.mem_append.1 hr with hr | hr
    ·exact h2 r hr
    ·rw[List.mem_singleton.1 hr]; exact ⟨ha,hb⟩
theorem prtR_ok {r:Reg} (h1:cutOk r.lo) (h2:cutOk r.hi):prtOk (prtR r)=true:=by
 have hb : ∀ c,cutOk c→bndOk (bndLo c)=true∧bndOk (bndHi c)=true:=by
  intro c hc
  unfold bndLo bndHi
  by_cases h0:c.fin=0
  ·rw[if_pos h0,if_pos h0]
   exact ⟨cut_dec hc,cut_dec hc⟩
  ·rw[if_neg h0,if_neg h0]
   decide
 unfold prtOk prtR
 simp only[(hb _ h1).1,(hb _ h2).2,Bool.true_and,Bool.and_eq_true,decide_eq_true_eq]
 unfold srtR
 split<;>(try split)<;>omega
theorem prtR_in {r:Reg} (h1:cutOk r.lo) (h2:cutOk r.hi) (ho:keyC r.lo<keyC r.hi) (hl:liveR r=true) {d:Dec} (hd:decOk d=true):inM (prtR r) d=inR (2 * valD d) (sortD d) r:=by
 rw[inM_key (prtR_ok h1 h2) hd]
 have e1:keyC (lowC (prtR r).lo)=keyC r.lo:=by
  unfold prtR bndLo
  rcases h1 with ⟨h0,_⟩ | ⟨h0 | h0,k1,k2⟩
  ·simp only[h0,if_true]
   unfold lowC
   simp only[if_true]
   rw[key_zero rfl,key_zero h0]
  ·rw[if_neg (by omega),key_low h0]
   exact key_low rfl
  ·have:=(key_range h2).2.1
   rw[key_upp h0] at ho
   omega
 have e2:keyC (uppC (prtR r).hi)=keyC r.hi:=by
  unfold prtR bndHi
  rcases h2 with ⟨h0,_⟩ | ⟨h0 | h0,k1,k2⟩
  ·simp only[h0,if_true]
   unfold uppC
   simp only[if_true,Bool.not_not]
   rw[key_zero rfl,key_zero h0]
  ·have:=(key_range h1).1
   rw[key_low h0] at ho
   omega
  ·rw[if_neg (by omega),key_upp h0]
   exact key_upp rfl
 rw[e1,e2]
 unfold inR
 congr 1
 unfold sortIn flagR sortD
 show decide (srtR r=0∨srtR r=_)=_
 unfold srtR
 unfold liveR at hl
 by_cases hx:0≤d.exp<;>cases h3:r.wh<;>cases h4:r.fr<;>simp [hx,h3,h4] at hl ⊢
theorem comb_law {F:List Bool→Bool} {sets:Sets} {l:List Cut} (h:CutsOf sets l) (hs : ∀ s,s∈sets→∀ p,p∈s→prtOk p=true) :
  (∀ p,p∈partsM (regsM F sets l [])→prtOk p=true)∧(partsM (regsM F sets l [])).length+1≤l.length∧∀ d,decOk d=true→anyIn (partsM (regsM F sets l [])) d=F (sets.map fun s=>anyIn s d):=by
 have hne:l≠[]:=fun e=>by
  have:=(h.mem ⟨-1,zeroD,false⟩).2 (.inl rfl)
  rw[e] at this
  cases this
 have ok:=h.ok hs
 have hm:=regs_mem F sets cutOk l [] ok (fun _ h=>(nomatch h))
 have h0 : ∀ a,RegsTo [] a:=fun a=>⟨fun _ h=>(nomatch h),fun _ h=>(nomatch h)⟩
 refine ⟨fun p hp=>?_,?_,fun d hd=>?_⟩
 ·obtain ⟨r,hr,rfl⟩:=List.mem_map.1 hp
  have:=hm r (List.mem_filter.1 hr).1
  exact prtR_ok this.1 this.2
 ·cases l with
  | nil=>exact absurd rfl hne
  | cons a l=>
   have:=(regs_sel F sets 0 0 l a [] (h0 a) h.ord).2.1
   unfold partsM
   rw[List.length_map]
   have h3:=List.length_filter_le liveR (regsM F sets (a::l) [])
   simp only[List.length_cons,List.length_nil] at *
   omega
 ·rw[←sel_sets (F:=F) h hs hd]
  cases l with
  | nil=>exact absurd rfl hne
  | cons a l=>
   obtain ⟨h1,_,h3⟩:=regs_sel F sets (2 * valD d) (sortD d) l a [] (h0 a) h.ord
   have e:selR [] (2 * valD d) (sortD d)=false:=rfl
   rw[e,Bool.false_or] at h1
   rw[←h1]
   unfold anyIn partsM selR
   rw[List.any_map,List.any_filter]
   refine any_congr fun r hr=>?_
   obtain ⟨k1,k2⟩:=hm r hr
   by_cases hl:liveR r=true
   ·rw[hl]
    simp only[Bool.true_and,Function.comp]
    exact prtR_in k1 k2 (h3 r hr) hl hd
   ·unfold liveR at hl
    simp only[Bool.or_eq_true,not_or,Bool.not_eq_true] at hl
    unfold liveR inR flagR
    simp [hl.1,hl.2]
theorem nodup_len : ∀ {l m:List Cut},l.Nodup→l ⊆ m→l.length≤m.length
 | [],_,_,_=>Nat.zero_le _
 | a::l,m,hn,hs=>by
  obtain ⟨u,v,rfl⟩:=List.append_of_mem (hs (List.mem_cons_self ..))
  have h2:=List.nodup_cons.1 hn
  have ih:=nodup_len (l:=l) (m:=u++v) h2.2 fun x hx=>by
   have h3:=hs (List.mem_cons_of_mem _ hx)
   simp only[List.mem_append,List.mem_cons] at h3 ⊢
   rcases h3 with h3 | rfl | h3
   ·exact .inl h3
   ·exact absurd hx h2.1
   ·exact .inr h3
  simp only[List.length_append,List.length_cons] at ih ⊢
  omega
theorem cuts_len {sets:Sets} {l:List Cut} (h:CutsOf sets l):l.length≤2+2 * (sets.map List.length).sum:=by
 have hnd:l.Nodup:=h.ord.imp fun h e=>by rw[e] at h; omega
 let all:List Cut:=⟨-1,zeroD,false⟩::⟨1,zeroD,false⟩::sets.flatMap fun s=>s.flatMap fun p=>[lowC p.lo,uppC p.hi]
 have hsub:l ⊆ all:=fun c hc=>by
  rcases (h.mem c).1 hc with rfl | rfl | ⟨s,h1,p,h2,h3⟩
  ·simp [all]
  ·simp [all]
  ·refine List.mem_cons_of_mem _ (List.mem_cons_of_mem _ (List.mem_flatMap.2 ⟨s,h1,List.mem_flatMap.2 ⟨p,h2,?_⟩⟩))
   simpa using h3
 have hle:=nodup_len hnd hsub
 have e1 : ∀ s:List Prt,(s.flatMap fun p=>[lowC p.lo,uppC p.hi]).length=2 * s.length:=by
  intro s
  induction s with
  | nil=>rfl
  | cons p s ih=>rw[List.flatMap_cons,List.length_append,ih,List.length_cons]; simp; omega
 have e2 : ∀ ss:Sets,(ss.flatMap fun s=>s.flatMap fun p=>[lowC p.lo,uppC p.hi]).length=2 * (ss.map List.length).sum:=by
  intro ss
  induction ss with
  | nil=>rfl
  | cons s ss ih=>rw[List.flatMap_cons,List.length_append,ih,e1]; simp; omega
 simp only[all,List.length_cons,e2] at hle
 omega
end Ago
