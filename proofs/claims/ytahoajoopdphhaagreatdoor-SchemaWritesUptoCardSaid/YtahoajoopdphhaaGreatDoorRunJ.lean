/- Whole numbers,texts and paths as values. -/
import Derived.Test.YtahoajoopdphhaaGreatDoorRunA
import Derived.Test.YtahoajoopdphhaaGreatDoorRunX
import Derived.Test.YtahoajoopdphhaaGreatDoorRunF
import Derived.Test.YtahoajoopdphhaaGreatDoorRunG
import Derived.Test.YtahoajoopdphhaaGreatDoorCodeN
set_option linter.unusedSimpArgs false
set_option linter.unusedVariables false
set_option maxRecDepth 100000
set_option exponentiation.threshold 2000
set_option maxHeartbeats 4000000
namespace Ago
open Go (IntKind)

def qiZ (s:List UInt8):Dec:=if s=[] then ⟨false,[],0⟩ else ⟨false,s.take (s.length-q2T s),q2T s⟩
theorem qnb (s:List UInt8) (hs:s.length≤100):q0m C0 138 [.bool false,.str s,.int .i64 0] (.tup [q2A (qiZ s),.int .i64 0]):=by
 refine q05 qjA rfl ?_
 unfold qiZ q2A
 by_cases h0:s=[]
 ·subst h0
  (repeat' first|simp (disch:=omega) only[go_sem,qjA,enter]|(apply spl<;>intro h<;>try simp (disch:=omega) only[go_sem,h]))
 ·have hb:(s == ([]:List UInt8))=false:=by simp [h0]
  have hr:=q7E s (by omega)
  have hz:=qcz s
  have hlen:(s.take (s.length-q2T s)).length=s.length-q2T s:=by simp
  have e1:((s.length:Int)-((s.length-q2T s:Nat):Int))=q2T s:=by omega
  have e2:((s.length:Int)-(q2T s:Int)).toNat=s.length-q2T s:=by omega
  rw[if_neg h0]
  (repeat' first|simp (disch:=omega) only[go_sem,qjA,enter,hb,hlen,e1,e2]|refine q00 _ (hr) ?_|(apply spl<;>intro h<;>try simp (disch:=omega) only[go_sem,h]))
  rw[Int.zero_add]

theorem qdi : ∀ (k n:Nat),n<10^k→(q4C n n).length≤k
 | 0,n,h=>by
  have:n=0:=by omega
  subst this
  simp [q4C]
 | k+1,n,h=>by
  by_cases h0:n=0
  ·subst h0
   simp [q4C]
  ·rw[q52 h0]
   have:=qdi k (n / 10) (by rw[Nat.pow_succ] at h; omega)
   simp
   omega
theorem q9g {n:Nat} (h:n≤65536):(qcP n).length≤5:=by
 unfold qcP
 rw[List.length_reverse]
 exact qdi 5 n (by omega)

def q5p (n:Nat):Dec:=qiZ (qcP n)
theorem qgb (n:Nat) (hn:n≤65536):q0m C0 129 [.int .i64 n] (q2A (q5p n)):=by
 refine q05 qm4 rfl ?_
 have h1:=qdT n (by omega)
 have h2:=qnb (qcP n) (by have:=q9g hn; omega)
 unfold q5p
 unfold q2A at *
 (repeat' first|simp (disch:=omega) only[go_sem,qm4,enter]|refine q00 _ (h1) ?_|refine q00 _ (h2) ?_|(apply spl<;>intro h<;>try simp (disch:=omega) only[go_sem,h]))

def q5t (d:Dec):V:=.mk ⟨2,false,d,⟨0,0,0,0⟩,[],[]⟩ [] []
def q1v (s:List UInt8):V:=.mk ⟨4,false,⟨false,[],0⟩,⟨0,0,0,0⟩,s,[]⟩ [] []
theorem qlz (d:Dec):q0m C0 128 [q2A d] (q0g (q5t d)):=by
 refine q05 qnU rfl ?_
 rw[q07]
 unfold q2A
 (repeat' first|simp (disch:=omega) only[go_sem,qnU,enter]|(apply spl<;>intro h<;>try simp (disch:=omega) only[go_sem,h]))
 all_goals rfl
theorem qjw (n:Nat) (hn:n≤65536):q0m C0 123 [.int .i64 n] (q0g (q5t (q5p n))):=by
 refine q05 qmj rfl ?_
 have h1:=qgb n hn
 have h2:=qlz (q5p n)
 rw[q07] at *
 unfold q2A at *
 (repeat' first|simp (disch:=omega) only[go_sem,qmj,enter]|refine q00 _ (h1) ?_|refine q00 _ (h2) ?_|(apply spl<;>intro h<;>try simp (disch:=omega) only[go_sem,h]))
 all_goals rfl
theorem text_run (s:List UInt8):q0m C0 124 [.str s] (q0g (q1v s)):=by
 refine q05 qn9 rfl ?_
 rw[q07]
 (repeat' first|simp (disch:=omega) only[go_sem,qn9,enter]|(apply spl<;>intro h<;>try simp (disch:=omega) only[go_sem,h]))
 all_goals rfl

theorem q7i (d:Dec):q0g (q5t d) = .agg [.int .i64 2,.bool false,.bool d.neg,.str d.digits,.int .i64 d.exp,.int .i64 0,.int .i64 0,.int .i64 0,.int .i64 0,.str [],.tsl 1 [],.tsl 13 [],.tsl 14 []]:=by
 rw[q07]
 rfl
theorem q3e (s:List UInt8):q0g (q1v s) = .agg [.int .i64 4,.bool false,.bool false,.str [],.int .i64 0,.int .i64 0,.int .i64 0,.int .i64 0,.int .i64 0,.str s,.tsl 1 [],.tsl 13 [],.tsl 14 []]:=by
 rw[q07]
 rfl

end Ago
set_option maxRecDepth 100000
set_option exponentiation.threshold 2000
set_option maxHeartbeats 4000000
namespace Ago
open Go (IntKind)

def FlatB (H:Heap):Prop:=∀ j b,H[j]?=some b→(∃ n els,b=Blk.row n els false true j)∨∃ s q,b=Blk.iter s q
theorem FlatB.nil:FlatB []:=fun j b h=>by simp at h
theorem FlatB.push {H:Heap} (h:FlatB H) (n:Nat) (els:List AV):FlatB (H++[.row n els false true H.length]):=fun j b hj=>by
 by_cases hlt:j<H.length
 ·rw[KG hlt] at hj
  exact h j b hj
 ·rw[KJ (by omega)] at hj
  have e:j-H.length=0:=by
   have:=(Ks.1 hj).1
   simp at this
   omega
  rw[e] at hj
  obtain rfl:j=H.length:=by omega
  cases hj
  exact .inl ⟨n,els,rfl⟩
theorem FlatB.push' {H:Heap} {k:Nat} (h:FlatB H) (n:Nat) (els:List AV) (hk:k=H.length):FlatB (H++[.row n els false true k]):=by
 subst hk
 exact h.push n els
theorem FlatB.set {H:Heap} (h:FlatB H) (r n:Nat) (els:List AV):FlatB (H.set r (.row n els false true r)):=fun j b hj=>by
 rw[List.getElem?_set] at hj
 split at hj
 ·rename_i e
  subst e
  split at hj
  ·cases hj
   exact .inl ⟨n,els,rfl⟩
  ·cases hj
 ·exact h j b hj
theorem q6r (r k:Nat) : ∀ (H:Heap) (i:Nat),(∀ j b,H[j]?=some b→(∃ n els,b=Blk.row n els false true (i+j))∨∃ s q,b=Blk.iter s q)→q0D r r k H i=some H
 | [],_,_=>rfl
 | b::H,i,h=>by
  have ih:=q6r r k H (i+1) fun j b hj=>by
   rcases h (j+1) b (by simpa using hj) with ⟨n,els,e⟩ | e
   ·exact .inl ⟨n,els,by rw[e]; congr 1; omega⟩
   ·exact .inr e
  unfold q0D
  rw[ih]
  rcases h 0 b (by simp) with ⟨n,els,rfl⟩ | ⟨s,q,rfl⟩
  ·simp only[Vs]
   rw[if_neg (by omega)]
  ·rfl
theorem FlatB.strike {H:Heap} (h:FlatB H) (r k:Nat):q0D r r k H 0=some H:=q6r r k H 0 fun j b hj=>by
 rw[KS]
 exact h j b hj
theorem FlatB.refs {H:Heap} (h:FlatB H):H.flatMap Blk.refs=[]:=by
 rw[VN]
 intro b hb
 obtain ⟨j,hj⟩:=Vp hb
 rcases h j b hj with ⟨n,els,rfl⟩ | ⟨s,q,rfl⟩<;>rfl
theorem FlatB.left {H E:Heap} (h:FlatB (H++E)):FlatB H:=fun j b hj=>h j b (by
 rw[KG (Ks.1 hj).1]
 exact hj)

theorem q5d (ks:List Nat) : ∀ (E:Heap) (j:Nat),(∀ b,b∈E→(∃ n els fam,b=Blk.row n els false true fam)∨∃ s q,b=Blk.iter s q)→q1c ks E j=[]
 | [],_,_=>rfl
 | b::E,j,h=>by
  have ih:=q5d ks E (j+1) fun b hb=>h b (by simp [hb])
  unfold q1c
  rcases h b (by simp) with ⟨n,els,fam,rfl⟩ | ⟨s,q,rfl⟩<;>exact ih
theorem FlatB.mem {H:Heap} (h:FlatB H) : ∀ b,b∈H→(∃ n els fam,b=Blk.row n els false true fam)∨∃ s q,b=Blk.iter s q:=fun b hb=>by
 obtain ⟨j,hj⟩:=Vp hb
 rcases h j b hj with ⟨n,els,rfl⟩ | e
 ·exact .inl ⟨n,els,j,rfl⟩
 ·exact .inr e
theorem qa4 {H:Heap} {f:Nat→Option Nat} {g:Nat→Nat} {m:Nat} (hg : ∀ j,j<m→g j=j) : ∀ (H:Heap) (i:Nat),(∀ j b,H[j]?=some b→(∃ n els,b=Blk.row n els false true (i+j))∨∃ s q,b=Blk.iter s q)→i+H.length≤m→H.map (Blk.ren f g)=H
 | [],_,_,_=>rfl
 | b::H,i,h,hm=>by
  have ih:=qa4 (H:=H) (f:=f) hg H (i+1) (fun j b hj=>by
   rcases h (j+1) b (by simpa using hj) with ⟨n,els,e⟩ | e
   ·exact .inl ⟨n,els,by rw[e]; congr 1; omega⟩
   ·exact .inr e) (by simp at hm; omega)
  rw[Kd,ih]
  rcases h 0 b (by simp) with ⟨n,els,rfl⟩ | ⟨s,q,rfl⟩
  ·simp only[Blk.ren,if_true,Vs]
   rw[hg i (by simp at hm; omega)]
  ·rfl

theorem qiX {live:List Nat} {tm:List AV} {H E:Heap} {rb m:Nat} (hm:m=H.length) (hF:FlatB (H++E)) {L:List AV} (hL:q0l live 0 tm=L) (hr : ∀ r,r∈L.flatMap (AV.refsN 6)→r<m) (hi:L.map (AV.renN (q0V m []) 6)=L) :
  St.norm live ⟨tm,H++E,m,rb⟩=⟨L,H,m,0⟩:=by
 subst hm
 unfold St.norm St.normTm
 rw[hL]
 have h1:((H++E).take H.length)=H:=by simp
 have h2:((H++E).drop H.length)=E:=by simp
 simp only[h1]
 rw[hF.left.refs,Kj,q9V _ _ _ _ _ hr]
 unfold St.normBy
 simp only[h1,h2,Kl,Kj]
 rw[q5d [] E _ fun b hb=>hF.mem b (by simp [hb])]
 have hc:q1f (q0V H.length []) H=true:=by
  unfold q1f
  rw[Kp]
  intro b hb
  rcases hF.left.mem b hb with ⟨n,els,fam,rfl⟩ | ⟨s,q,rfl⟩<;>rfl
 simp only[hc,q6U,q3i,V7,q4l]
 rw[hi,qa4 (m:=H.length) (H:=H) (fun j hj=>by unfold q2K; rw[if_pos hj]) H 0 (fun j b hj=>by rw[KS]; exact hF.left j b hj) (by omega)]

theorem q1b {live:List Nat} {tm:List AV} {H E:Heap} {rb m n:Nat} {els:List AV} (hm:m=H.length) (hF:FlatB (H ++ .row n els false true m::E)) {L:List AV} (hL:q0l live 0 tm=L)
  (hr:q1M (H ++ .row n els false true m::E) m 4000 (L.flatMap (AV.refsN 6)) []=[m]) (hi:L.map (AV.renN (q0V m [m]) 6)=L) :
  St.norm live ⟨tm,H ++ .row n els false true m::E,m,rb⟩=⟨L,H++[.row n els false true m],m,0⟩:=by
 subst hm
 unfold St.norm St.normTm
 rw[hL]
 have h1:((H ++ .row n els false true H.length::E).take H.length)=H:=by simp
 have h2:((H ++ .row n els false true H.length::E).drop H.length) = .row n els false true H.length::E:=by simp
 have hFl:FlatB H:=hF.left
 simp only[h1]
 rw[hFl.refs,Kj,hr]
 unfold St.normBy
 have h3:(H ++ .row n els false true H.length::E).getD H.length .gone = .row n els false true H.length:=by
  rw[Ko,q1S rfl]
  rfl
 simp only[h1,h2,Kd,Kl,h3]
 rw[q5d [H.length] (.row n els false true H.length::E) _ fun b hb=>hF.mem b (by simp at hb ⊢; exact .inr hb)]
 have hF1:=hFl.push n els
 have hc:q1f (q0V H.length [H.length]) (H++[.row n els false true H.length])=true:=by
  unfold q1f
  rw[Kp]
  intro b hb
  rcases hF1.mem b hb with ⟨n,els,fam,rfl⟩ | ⟨s,q,rfl⟩<;>rfl
 simp only[hc,q6U,q3i,V7,q4l]
 have hg : ∀ j,j<H.length+1→q2K (H++Blk.row n els false true H.length::E) H.length [H.length] j=j:=fun j hj=>by
  unfold q2K
  by_cases hlt:j<H.length
  ·rw[if_pos hlt]
  ·rw[if_neg hlt]
   have:j=H.length:=by omega
   subst this
   rw[List.findIdx_cons,h3]
   simp [Blk.famOf]
 have hren:=qa4 (m:=H.length+1) (H:=H) (f:=q0V H.length [H.length]) hg (H++[Blk.row n els false true H.length]) 0 (fun j b hj=>by rw[KS]; exact hF1 j b hj) (by simp)
 rw[hi,hren]
theorem FlatB.setI {H:Heap} (h:FlatB H) (r:Nat) (s:List UInt8) (q:Nat):FlatB (H.set r (.iter s q)):=fun j b hj=>by
 rw[List.getElem?_set] at hj
 split at hj
 ·split at hj
  ·cases hj
   exact .inr ⟨s,q,rfl⟩
  ·cases hj
 ·exact h j b hj
theorem qbZ {H E:Heap} {m:Nat} {v:AV} (hm:m=H.length) (hF:FlatB (H++E)) (hv:q4B v):q7P m v (H++E)=⟨[v],H,m,0⟩:=by
 refine qiX hm hF rfl (fun r hr=>?_) ?_
 ·simp only[VH,List.flatMap_nil,Kj] at hr
  rw[hv.1] at hr
  cases hr
 ·simp only[Kd,Kl]
  rw[hv.2]
theorem q0Y {m:Nat} {res:List ResV} {v:AV} {H E:Heap} {tm:List AV} {b rb:Nat} {e:Ex} (he:e = .normal∨e = .ret) (hm:m=H.length) (hF:FlatB (H++E)) (hv:q4B v) (hr:results res ⟨tm,H++E,b,rb⟩=some v):qng m res v H e ⟨tm,H++E,b,rb⟩:=by
 refine q1D he v hr ?_ ?_
 ·rw[qbZ hm hF hv]
  rfl
 ·rw[qbZ hm hF hv]
theorem q0X:q4B (.tup []):=⟨rfl,fun _=>rfl⟩
end Ago
set_option maxRecDepth 100000
set_option exponentiation.threshold 2000
set_option maxHeartbeats 4000000
namespace Ago
open Go (IntKind)
def q5a:List UInt8:=[124,38,33,42,43,63,123,125,40,41,91,93,46,92]
def hexB:List UInt8:=[48,49,50,51,52,53,54,55,56,57,97,98,99,100,101,102]
def q3Z (n:Nat):List UInt8:=if 33≤n∧n≤126∧¬ UInt8.ofNat n∈q5a then [UInt8.ofNat n] else [92,120]++(hexB.drop (n / 16)).take 1++(hexB.drop (n % 16)).take 1
theorem q3V : ∀ n,n<256→(q3Z n).length≤4:=by decide +kernel
def qge (n:Nat):List UInt8:=if n<10 then [UInt8.ofNat (48+n)] else [UInt8.ofNat (48+n / 10),UInt8.ofNat (48+n % 10)]
theorem q3Q (n:Nat):(qge n).length≤2:=by unfold qge; split<;>simp
def qk3 (mn mx:Int):List UInt8:=
 if mn=0∧mx = -1 then [42] else if mn=1∧mx = -1 then [43] else if mn=0∧mx=1 then [63] else if mx = -1 then [123]++qge mn.toNat++[44,125] else [123]++qge mn.toNat++[44]++qge mx.toNat++[125]
theorem qcd (a b:Int):(qk3 a b).length≤7:=by
 have h1:=q3Q a.toNat
 have h2:=q3Q b.toNat
 unfold qk3
 repeat' split
 all_goals simp
 all_goals omega
def qnN (lo hi:Int):List UInt8:=if lo=hi then q3Z lo.toNat else if lo=0∧hi=255 then [46] else [91]++q3Z lo.toNat++[45]++q3Z hi.toNat++[93]
def qpp (op:Int):Int:=if op=4 then 1 else if op=6 then 2 else if op=3 then 3 else if op=7 then 4 else if op=5 then 5 else 6
def qaQ (sep:List UInt8):List (List UInt8)→List UInt8
 | []=>[]
 | x::l=>sep++x++qaQ sep l
def q1o (sep:List UInt8):List (List UInt8)→List UInt8
 | []=>[]
 | x::l=>x++qaQ sep l
def q2y (f:Pat→List UInt8) (least:Int) (p:Pat):List UInt8:=if least≤qpp p.s.op then f p else [40]++f p++[41]
def q0r:Nat→Pat→List UInt8
 | 0,_=>[]
 | d+1,p=>
  if p.s.op=1 then [40,41]
  else if p.s.op=2 then qnN p.s.lo p.s.hi
  else if p.s.op=4 then q1o [124] (p.a.map (q2y (q0r d) 2))
  else if p.s.op=6 then q1o [38] (p.a.map (q2y (q0r d) 3))
  else if p.s.op=3 then q1o [] (p.a.map (q2y (q0r d) 4))
  else if p.s.op=7 then [33]++q1o [] (p.a.map (q2y (q0r d) 4))
  else if p.s.op=5 then q1o [] (p.a.map (q2y (q0r d) 5))++qk3 p.s.min p.s.max
  else [91,93]
theorem q0Z (d:Nat) (p:Pat):q0r (d+1) p=if p.s.op=1 then [40,41]
  else if p.s.op=2 then qnN p.s.lo p.s.hi
  else if p.s.op=4 then q1o [124] (p.a.map (q2y (q0r d) 2))
  else if p.s.op=6 then q1o [38] (p.a.map (q2y (q0r d) 3))
  else if p.s.op=3 then q1o [] (p.a.map (q2y (q0r d) 4))
  else if p.s.op=7 then [33]++q1o [] (p.a.map (q2y (q0r d) 4))
  else if p.s.op=5 then q1o [] (p.a.map (q2y (q0r d) 5))++qk3 p.s.min p.s.max
  else [91,93]:=(rfl)
theorem qdB (sep:List UInt8) (h:sep.length≤1) (f:Pat→List UInt8) (N:Nat) : ∀ l:List Pat,(∀ p,p∈l→(f p).length+1≤2 * p.bulk)→(qaQ sep (l.map f)).length≤2 * AV.bulks (l.map q04)
 | [],_=>by simp [qaQ]
 | p::l,hl=>by
  have h1:=qdB sep h f N l fun q hq=>hl q (Kt _ hq)
  have h2:=hl p (Ku ..)
  simp only[Kd,qaQ,AV.bulks,Kb]
  have:p.bulk=(q04 p).bulk:=rfl
  omega
theorem q2n (sep:List UInt8) (h:sep.length≤1) (f:Pat→List UInt8) (l:List Pat) (hl : ∀ p,p∈l→(f p).length+1≤2 * p.bulk):(q1o sep (l.map f)).length≤2 * AV.bulks (l.map q04):=by
 cases l with
 | nil=>simp [q1o]
 | cons p l=>
  have h1:=qdB sep h f 0 l fun q hq=>hl q (Kt _ hq)
  have h2:=hl p (Ku ..)
  simp only[Kd,q1o,AV.bulks,Kb]
  have:p.bulk=(q04 p).bulk:=rfl
  omega
theorem qmT {lo hi:Int} (h1:0≤lo) (h2:lo≤hi) (h3:hi≤255):(qnN lo hi).length≤11:=by
 have a:=q3V lo.toNat (by omega)
 have b:=q3V hi.toNat (by omega)
 unfold qnN
 repeat' split
 all_goals simp
 all_goals omega
theorem qcW {p:Pat} (h:q2m p=true) (ho:p.s.op=2):0≤p.s.lo∧p.s.lo≤p.s.hi∧p.s.hi≤255:=by
 unfold q2m at h
 rw[decide_eq_true_eq] at h
 omega
theorem qcM {p:Pat} (h:q2m p=true) (ho:p.s.op=5):p.a.length=1∧0≤p.s.min∧p.s.min≤64∧(p.s.max = -1∨p.s.min≤p.s.max∧p.s.max≤64):=by
 unfold q2m at h
 rw[decide_eq_true_eq] at h
 omega
theorem qmA {p:Pat} (h:q2m p=true) (ho:p.s.op=7):p.a.length=1:=by
 unfold q2m at h
 rw[decide_eq_true_eq] at h
 omega
theorem q4w : ∀ (d:Nat) (p:Pat),q1a d p=true→(q0r d p).length+3≤2 * p.bulk
 | 0,p,h=>by cases h
 | d+1,p,h=>by
  rw[q2u,Kk,Kp] at h
  obtain ⟨hf,hk⟩:=h
  have e:=p.bulk_eq
  have kids : ∀ least x,x∈p.a→(q2y (q0r d) least x).length+1≤2 * x.bulk:=fun least x hx=>by
   have:=q4w d x (hk x hx)
   unfold q2y
   split
   ·omega
   ·simp
    omega
  have hb:=qcd p.s.min p.s.max
  have j1:=q2n [124] (by simp) _ p.a (kids 2)
  have j2:=q2n [38] (by simp) _ p.a (kids 3)
  have j3:=q2n [] (by simp) _ p.a (kids 4)
  have j4:=q2n [] (by simp) _ p.a (kids 5)
  rw[q0Z]
  repeat' split
  all_goals try rw[Kb]
  all_goals try simp only[List.length_cons,List.length_nil]
  all_goals try omega
  rename_i ho
  obtain ⟨h1,h2,h3⟩:=qcW hf ho
  have:=qmT h1 h2 h3
  omega

theorem qeO (op:Int):q0m CT 426 [.int .i64 op] (.int .i64 (qpp op)):=by
 refine q05 qm3 rfl ?_
 unfold qpp
 (repeat' first|simp (disch:=omega) only[go_sem,qm3,enter]|(apply spl<;>intro h<;>try simp (disch:=omega) only[go_sem,h]))
 all_goals first | omega | (simp_all; done)
end Ago
