/- The text of a pattern,as the program writes it into a builder. -/
import Derived.Test.YtahoajoopdphhaaGreatDoorRunJ
set_option linter.unusedSimpArgs false
set_option linter.unusedVariables false
set_option maxRecDepth 100000
set_option maxHeartbeats 4000000
namespace Ago
open Go (IntKind)
theorem qae {H:Heap} {r:Nat} {s:List UInt8} (b:List UInt8) (hr:H[r]?=some (.iter s bQ)) (hl:s.length+b.length≤lim):q1z CT 298 [.iref r,.str b] H (.tup [.int .i64 b.length,.nili]) (H.set r (.iter (s++b) bQ)):=
 q25 (q25 (qg2 ⟨r,s,b,rfl,hr,hl,rfl,rfl⟩))
theorem ql3 {H:Heap} {r:Nat} {s:List UInt8} (n:Int) (h0:0≤n) (h1:n<256) (hr:H[r]?=some (.iter s bQ)) (hl:s.length+1≤lim):q1z CT 627 [.iref r,.int .u8 n] H .nili (H.set r (.iter (s++[UInt8.ofNat n.toNat]) bQ)):=
 q25 (qg2 ⟨r,s,n,rfl,h0,h1,hr,hl,rfl,rfl⟩)
theorem qt0 {H:Heap} {r:Nat} {s:List UInt8} (hr:H[r]?=some (.iter s bQ)) (hs:s≠[]):q1z CT 300 [.iref r] H (.str s) (H.set r .gone):=
 qg2 ⟨r,s,rfl,hr,hs,rfl,rfl⟩
theorem qbn (sep:List UInt8) (x:List UInt8) : ∀ l,qaQ sep (l++[x])=qaQ sep l++sep++x
 | []=>by simp [qaQ]
 | y::l=>by simp [qaQ,qbn sep x l,Ke]
theorem qik (sep:List UInt8) (x:List UInt8) (l:List (List UInt8)):q1o sep (l++[x])=q1o sep l++(if l=[] then [] else sep)++x:=by
 cases l with
 | nil=>simp [q1o,qaQ]
 | cons y l=>simp [q1o,qbn,Ke]
theorem q4d (sep:List UInt8) (g:Pat→List UInt8) {l:List Pat} {k:Nat} {x:Pat} (h:l[k]?=some x):q1o sep ((l.take (k+1)).map g)=q1o sep ((l.take k).map g)++(if k=0 then [] else sep)++g x:=by
 rw[KD,h,Option.toList_some,Va,Kd,Kl,qik]
 congr 2
 have hl:=(Ks.1 h).1
 by_cases hk:k=0
 ·subst hk; simp
 ·rw[if_neg hk,if_neg]
  intro e
  have:=congrArg List.length e
  rw[Ka,KI,List.length_nil] at this
  omega

theorem qh9 : ∀ (d:Nat) (p:Pat),q1a d p=true→q0r d p≠[]
 | 0,p,h=>by cases h
 | d+1,p,h=>by
  have hall:=h
  rw[q2u,Kk,Kp] at h
  obtain ⟨hf,hk⟩:=h
  have byte : ∀ n,q3Z n≠[]:=fun n=>by unfold q3Z; split<;>simp
  have kid : ∀ sep least,1≤p.a.length→q1o sep (p.a.map (q2y (q0r d) least))≠[]:=fun sep least hl=>by
   cases hp:p.a with
   | nil=>rw[hp] at hl; simp at hl
   | cons x l=>
    have hx:=qh9 d x (hk x (by rw[hp]; simp))
    simp only[Kd,q1o]
    unfold q2y
    split<;>simp [hx]
  have hform:(p.s.op=3∨p.s.op=4∨p.s.op=6)→2≤p.a.length:=fun ho=>by
   unfold q2m at hf
   rw[decide_eq_true_eq] at hf
   omega
  rw[q0Z]
  repeat' split
  all_goals try (simp; done)
  ·unfold qnN
   repeat' split
   all_goals first | exact byte _ | simp
  ·exact kid _ _ (by have:=hform (by omega); omega)
  ·exact kid _ _ (by have:=hform (by omega); omega)
  ·exact kid _ _ (by have:=hform (by omega); omega)
  ·rename_i ho
   have:=kid [] 5 (by have:=(qcM hf ho).1; omega)
   simp [this]

theorem qwJ : ∀ n,n<256→(List.drop (n / 16) (List.take (((n / 16:Nat):Int)+1).toNat [48,49,50,51,52,53,54,55,56,57,97,98,99,100,101,102]:List UInt8)).length≤1∧(hexB.drop (n / 16)).take 1=List.drop (n / 16) (List.take (((n / 16:Nat):Int)+1).toNat [48,49,50,51,52,53,54,55,56,57,97,98,99,100,101,102]):=by decide +kernel
theorem qwU : ∀ n,n<256→(List.drop (n % 16) (List.take (((n % 16:Nat):Int)+1).toNat [48,49,50,51,52,53,54,55,56,57,97,98,99,100,101,102]:List UInt8)).length≤1∧(hexB.drop (n % 16)).take 1=List.drop (n % 16) (List.take (((n % 16:Nat):Int)+1).toNat [48,49,50,51,52,53,54,55,56,57,97,98,99,100,101,102]):=by decide +kernel
theorem qwX : ∀ n:Nat,n<256→IntKind.i64.wrap ((BitVec.ofInt 64 (n:Int) &&& BitVec.ofInt 64 15).toNat:Int)=((n % 16:Nat):Int):=by decide +kernel
theorem q8C (n:Nat) (hn:n<256):q0m CT 626 [.int .i64 n] (.str (q3Z n)):=by
 have hi:q0m CT 162 [.str q5a,.int .u8 n] (.int .i64 (Go.Lib.indexByte q5a (UInt8.ofNat n))):=q25 (q25 (q25 (qkB rfl (qqF q5a n hn))))
 have e1:(n:Int).fdiv (2^min 4 64)=((n / 16:Nat):Int):=by
  show (n:Int).fdiv 16=_
  rw[Int.fdiv_eq_ediv_of_nonneg _ (by decide)]
  omega
 obtain ⟨A,hA,hA1,hA2⟩ : ∃ A,List.drop (n / 16) (List.take (((n / 16:Nat):Int)+1).toNat [48,49,50,51,52,53,54,55,56,57,97,98,99,100,101,102])=A∧A.length≤1∧(hexB.drop (n / 16)).take 1=A:=⟨_,rfl,by
  clear hi; exact qwJ n hn⟩
 have e2:qgO .and .i64 (n:Int) .i64 15=some (.int .i64 ((n % 16:Nat):Int)):=congrArg (fun z=>some (AV.int .i64 z)) (qwX n hn)
 simp (disch:=omega) only[go_sem,Kq,AV.int.injEq,true_and] at e2
 obtain ⟨A',hB,hB1,hB2⟩ : ∃ A,List.drop (n % 16) (List.take (((n % 16:Nat):Int)+1).toNat [48,49,50,51,52,53,54,55,56,57,97,98,99,100,101,102])=A∧A.length≤1∧(hexB.drop (n % 16)).take 1=A:=⟨_,rfl,by
  clear hi; exact qwU n hn⟩
 have hby:q6y (.int .u8 (n:Int))=some (UInt8.ofNat n):=rfl
 obtain ⟨h1,h2⟩:=qey (UInt8.ofNat n) q5a
 generalize Go.Lib.indexByte q5a (UInt8.ofNat n)=I at hi h1 h2
 refine q05 qiL rfl ?_
 unfold q5a at hi
 by_cases hp:33≤n∧n≤126
 ·by_cases hm:UInt8.ofNat n∈q5a
  ·have hI : ¬ I<0:=fun h=>h1.1 h hm
   have e:q3Z n=[92,120]++(hexB.drop (n / 16)).take 1++(hexB.drop (n % 16)).take 1:=by unfold q3Z; rw[if_neg (by simp [hm])]
   rw[e,hA2,hB2]
   (repeat' first|simp (disch:=omega) only[go_sem,qiL,enter,e1,e2,hA,hB,hby,Kb,List.length_cons,List.length_nil]|refine q00 _ (hi) ?_)
   all_goals first | omega | (simp; done)
  ·have hI:I<0:=h1.2 hm
   have e:q3Z n=[UInt8.ofNat n]:=by unfold q3Z; rw[if_pos ⟨hp.1,hp.2,hm⟩]
   rw[e]
   (repeat' first|simp (disch:=omega) only[go_sem,qiL,enter,e1,e2,hA,hB,hby,Kb,List.length_cons,List.length_nil]|refine q00 _ (hi) ?_)
 ·have e:q3Z n=[92,120]++(hexB.drop (n / 16)).take 1++(hexB.drop (n % 16)).take 1:=by unfold q3Z; rw[if_neg (by omega)]
  rw[e,hA2,hB2]
  (repeat' first|simp (disch:=omega) only[go_sem,qiL,enter,e1,e2,hA,hB,hby,Kb,List.length_cons,List.length_nil]|refine q00 _ (hi) ?_|(apply spl<;>intro h<;>try simp (disch:=omega) only[go_sem,h]))
  all_goals first | omega | (simp; done)
theorem qjy (op:Int):q0m CT 639 [.int .i64 op] (.int .i64 (qpp op)):=by
 refine q05 qo2 rfl ?_
 unfold qpp
 (repeat' first|simp (disch:=omega) only[go_sem,qo2,enter]|(apply spl<;>intro h<;>try simp (disch:=omega) only[go_sem,h]))
 all_goals first | omega | (simp_all; done)
theorem qfj (n:Nat) (hn:n<100):q0m CT 419 [.int .i64 n] (.str (qge n)):=by
 refine q05 qkY rfl ?_
 by_cases h:n<10
 ·(repeat' first|simp (disch:=omega) only[go_sem,qkY,enter]|(apply spl<;>intro h<;>try simp (disch:=omega) only[go_sem,h]))
  refine congrArg (fun l=>some (AV.str l)) ?_
  clear hn
  revert h
  revert n
  decide +kernel
 ·(repeat' first|simp (disch:=omega) only[go_sem,qkY,enter]|(apply spl<;>intro h<;>try simp (disch:=omega) only[go_sem,h]))
  refine congrArg (fun l=>some (AV.str l)) ?_
  revert h
  revert hn
  revert n
  decide +kernel
theorem q6i (n:Nat) (hn:n<100):q0m CT 371 [.int .i64 n] (.str (qge n)):=by
 have h1:q0m CT 404 [.int .i64 n,.int .i64 10] (.str (qge n)):=by
  refine q05 qmJ rfl ?_
  (repeat' first|simp (disch:=omega) only[go_sem,qmJ,enter]|refine q00 _ (qfj n hn) ?_)
  all_goals first | omega
 have h2:q0m CT 395 [.int .i64 n] (.str (qge n)):=by
  refine q05 qno rfl ?_
  (repeat' first|simp (disch:=omega) only[go_sem,qno,enter]|refine q00 _ (h1) ?_)
  all_goals first | omega
 refine q05 qlV rfl ?_
 (repeat' first|simp (disch:=omega) only[go_sem,qlV,enter]|refine q00 _ (h2) ?_)
 all_goals first | omega
theorem qla (mn mx:Int) (h1:0≤mn) (h2:mn≤64) (h3:mx = -1∨mn≤mx∧mx≤64):q0m CT 629 [.int .i64 mn,.int .i64 mx] (.str (qk3 mn mx)):=by
 have a:=q6i mn.toNat (by omega)
 have b:mx ≠ -1→q0m CT 371 [.int .i64 mx] (.str (qge mx.toNat)):=fun h=>by
  have:=q6i mx.toNat (by omega)
  rwa [show ((mx.toNat:Nat):Int)=mx by omega] at this
 rw[show ((mn.toNat:Nat):Int)=mn by omega] at a
 have l1:=q3Q mn.toNat
 have l2:=q3Q mx.toNat
 have a0:=q6i 0 (by decide)
 have l3:=q3Q 0
 have l4:=q3Q 1
 have a1:=q6i 1 (by decide)
 refine q05 qhG rfl ?_
 unfold qk3
 by_cases m0:mn=0
 ·subst m0
  (repeat' first|simp (disch:=omega) only[go_sem,qhG,enter,Kb,List.length_cons,List.length_nil]|refine q00 _ (a0) ?_|refine q00 _ (b (by omega)) ?_|(apply spl<;>intro h<;>try simp (disch:=omega) only[go_sem,h]))
  all_goals first | omega | (simp_all; done)
 ·by_cases m1:mn=1
  ·subst m1
   (repeat' first|simp (disch:=omega) only[go_sem,qhG,enter,Kb,List.length_cons,List.length_nil]|refine q00 _ (a1) ?_|refine q00 _ (b (by omega)) ?_|(apply spl<;>intro h<;>try simp (disch:=omega) only[go_sem,h]))
   all_goals first | omega | (simp_all; done)
  ·(repeat' first|simp (disch:=omega) only[go_sem,qhG,enter,m0,m1,Kb,List.length_cons,List.length_nil]|refine q00 _ (a) ?_|refine q00 _ (b (by omega)) ?_|(apply spl<;>intro h<;>try simp (disch:=omega) only[go_sem,h]))
   all_goals first | omega | (simp_all; done)

theorem q45 (d:Nat) (least:Int) (x:Pat) (hx:q1a d x=true):(q2y (q0r d) least x).length+1≤2 * x.bulk:=by
 have:=q4w d x hx
 unfold q2y
 split
 ·omega
 ·simp
  omega
theorem qeh (d:Nat) (x:Pat) (hx:q1a d x=true) (hb:x.bulk≤2^24) (least:Int)
  (hw : ∀ (H:Heap) (r:Nat) (s:List UInt8),FlatB H→r<H.length→H[r]?=some (.iter s bQ)→s.length+2 * x.bulk≤2^30→q1z CT 607 [.iref r,q04 x] H (.tup []) (H.set r (.iter (s++q0r d x) bQ)))
  (H:Heap) (r:Nat) (s:List UInt8) (hF:FlatB H) (hr:r<H.length) (hs:H[r]?=some (.iter s bQ)) (hl:s.length+2 * x.bulk+1≤2^30) :
  q1z CT 628 [.iref r,q04 x,.int .i64 least] H (.tup []) (H.set r (.iter (s++q2y (q0r d) least x) bQ)):=by
 have hlen:=q4w d x hx
 have hF1 : ∀ t,FlatB (H.set r (.iter t bQ)++[.row 6 [q04 x] false true H.length]):=fun t=>(hF.setI r t bQ).push' 6 _ (by simp)
 have hg : ∀ t,(H.set r (.iter t bQ)++[Blk.row 6 [q04 x] false true H.length])[r]?=some (.iter t bQ):=fun t=>by rw[q2O (by simpa using hr)]; simp [hr]
 have hp : ∀ t,(H.set r (.iter t bQ)++[Blk.row 6 [q04 x] false true H.length])[H.length]?=some (.row 6 [q04 x] false true H.length):=fun t=>q1S (by simp)
 have hst : ∀ t u,(H.set r (.iter t bQ)++[Blk.row 6 [q04 x] false true H.length]).set r (.iter u bQ)=H.set r (.iter u bQ)++[Blk.row 6 [q04 x] false true H.length]:=fun t u=>by rw[setL (by simpa using hr),VQ]
 have h0:H=H.set r (.iter s bQ):=by
  apply Vw
  intro j
  by_cases hj:r=j
  ·subst hj; rw[hs]; simp [hr]
  ·rw[K0 hj]
 have w1:=hw (H.set r (.iter s bQ)++[.row 6 [q04 x] false true H.length]) r s (hF1 s) (by simp; omega) (hg s) (by omega)
 have w2:=ql3 (H:=H.set r (.iter s bQ)++[.row 6 [q04 x] false true H.length]) 40 (by decide) (by decide) (hg s) (by have:lim=2147483648:=rfl; omega)
 have w3:=hw (H.set r (.iter (s++[40]) bQ)++[.row 6 [q04 x] false true H.length]) r (s++[40]) (hF1 _) (by simp; omega) (hg _) (by simp; omega)
 have w4:=ql3 (H:=H.set r (.iter (s++[40]++q0r d x) bQ)++[.row 6 [q04 x] false true H.length]) 41 (by decide) (by decide) (hg _) (by
  have e3:(s++[40]++q0r d x).length=s.length+1+(q0r d x).length:=by simp; omega
  have:lim=2147483648:=rfl
  omega)
 rw[hst] at w1 w2 w3 w4
 have hcat:s++[40]++q0r d x++[41]=s++([40]++q0r d x++[41]):=by simp [Ke]
 have hv:=qjy x.s.op
 suffices key : ∀ G,G=H.set r (.iter s bQ)→q1z CT 628 [.iref r,q04 x,.int .i64 least] G (.tup []) (H.set r (.iter (s++q2y (q0r d) least x) bQ)) from key H h0
 intro G hG
 subst hG
 refine q1s qlb rfl ?_
 have e0:=q0e x
 simp only[e0] at hg hp hst w1 w2 w3 w4 ⊢
 simp only[e0] at hF1
 unfold q2y
 rw[Kw]
 by_cases hle:least≤qpp x.s.op
 ·rw[if_pos hle]
  (repeat' first|simp (disch:=omega) only[go_sem,qlb,enter,hle,Kw,hg,hp,hst]|refine q00 _ (hv) ?_|(refine q0b _ _ w1 ?_)|(refine q0b _ _ w2 ?_)|(refine q0b _ _ w3 ?_)|(refine q0b _ _ w4 ?_)|(apply spl<;>intro h<;>try simp (disch:=omega) only[go_sem,h]))
  all_goals first | omega | exact q0Y (.inr rfl) (by simp) (hF1 _) q0X rfl
 ·rw[if_neg hle,←hcat]
  (repeat' first|simp (disch:=omega) only[go_sem,qlb,enter,hle,Kw,hg,hp,hst]|refine q00 _ (hv) ?_|(refine q0b _ _ w1 ?_)|(refine q0b _ _ w2 ?_)|(refine q0b _ _ w3 ?_)|(refine q0b _ _ w4 ?_)|(apply spl<;>intro h<;>try simp (disch:=omega) only[go_sem,h]))
  all_goals first | omega | exact q0Y (.inl rfl) (by simp) (hF1 _) q0X rfl

theorem q3C : ∀ (l:List AV) (k:Nat) (x:AV),l[k]?=some x→AV.bulks (l.take k)+x.bulk≤AV.bulks l
 | [],k,x,h=>by simp at h
 | y::l,0,x,h=>by
  simp at h
  subst h
  simp [AV.bulks]
 | y::l,k+1,x,h=>by
  have:=q3C l k x (by simpa using h)
  simp only[K4,AV.bulks]
  omega

theorem q4U : ∀ (d:Nat) (p:Pat),q1a d p=true→p.bulk≤2^24→∀ (H:Heap) (r:Nat) (s:List UInt8),FlatB H→r<H.length→H[r]?=some (.iter s bQ)→s.length+2 * p.bulk≤2^30→q1z CT 607 [.iref r,q04 p] H (.tup []) (H.set r (.iter (s++q0r d p) bQ))
 | 0,p,h=>by cases h
 | d+1,p,hp0=>by
  intro hb H r s hF hr hs hl
  have hall:=hp0
  rw[q2u,Kk,Kp] at hp0
  obtain ⟨hf,hk⟩:=hp0
  have L:=Pat.lens hb
  have hal:=L.args
  have hbe:=p.bulk_eq
  have hlen:=q4w (d+1) p hall
  have hF1 : ∀ t,FlatB (H.set r (.iter t bQ)++[.row 6 [q04 p] false true H.length]):=fun t=>(hF.setI r t bQ).push' 6 _ (by simp)
  have hg : ∀ t,(H.set r (.iter t bQ)++[Blk.row 6 [q04 p] false true H.length])[r]?=some (.iter t bQ):=fun t=>by rw[q2O (by simpa using hr)]; simp [hr]
  have hp : ∀ t,(H.set r (.iter t bQ)++[Blk.row 6 [q04 p] false true H.length])[H.length]?=some (.row 6 [q04 p] false true H.length):=fun t=>q1S (by simp)
  have hst : ∀ t u,(H.set r (.iter t bQ)++[Blk.row 6 [q04 p] false true H.length]).set r (.iter u bQ)=H.set r (.iter u bQ)++[Blk.row 6 [q04 p] false true H.length]:=fun t u=>by rw[setL (by simpa using hr),VQ]
  have h0:H=H.set r (.iter s bQ):=by
   apply Vw
   intro j
   by_cases hj:r=j
   ·subst hj; rw[hs]; simp [hr]
   ·rw[K0 hj]
  suffices key : ∀ G,G=H.set r (.iter s bQ)→q1z CT 607 [.iref r,q04 p] G (.tup []) (H.set r (.iter (s++q0r (d+1) p) bQ)) from key H h0
  intro G hG
  subst hG
  refine q1s q7U rfl ?_
  have e0:=q0e p
  have hlim:lim=2147483648:=rfl
  have ws : ∀ b:List UInt8,b.length≤100→q1z CT 298 [.iref r,.str b] (H.set r (.iter s bQ)++[.row 6 [q04 p] false true H.length]) (.tup [.int .i64 b.length,.nili]) (H.set r (.iter (s++b) bQ)++[.row 6 [q04 p] false true H.length]):=fun b hb=>by
   have:=qae b (hg s) (by omega)
   rwa [hst] at this
  have wb : ∀ n:Int,0≤n→n<256→q1z CT 627 [.iref r,.int .u8 n] (H.set r (.iter s bQ)++[.row 6 [q04 p] false true H.length]) .nili (H.set r (.iter (s++[UInt8.ofNat n.toNat]) bQ)++[.row 6 [q04 p] false true H.length]):=fun n h1 h2=>by
   have:=ql3 n h1 h2 (hg s) (by omega)
   rwa [hst] at this
  have hforms:p.s.op=0∨p.s.op=1∨p.s.op=2∨p.s.op=3∨p.s.op=4∨p.s.op=5∨p.s.op=6∨p.s.op=7:=by
   have:=hf
   unfold q2m at this
   rw[decide_eq_true_eq] at this
   omega
  rw[Kw]
  rcases hforms with ho | ho | ho | ho | ho | ho | ho | ho
  ·have ht:q0r (d+1) p=[91,93]:=by rw[q0Z]; simp [ho]
   rw[ht]
   have w1:=ws [91,93] (by simp)
   simp only[e0,ho] at hF1 hg hp hst w1 ⊢
   (repeat' first|simp (disch:=omega) only[go_sem,q7U,enter,Kw,hg,hp,hst]|(refine q0b _ _ w1 ?_)|(apply spl<;>intro h<;>try simp (disch:=omega) only[go_sem,h]))
   all_goals first | omega | exact q0Y (.inr rfl) (by simp) (hF1 _) q0X rfl
  ·have ht:q0r (d+1) p=[40,41]:=by rw[q0Z]; simp [ho]
   rw[ht]
   have w1:=ws [40,41] (by simp)
   simp only[e0,ho] at hF1 hg hp hst w1 ⊢
   (repeat' first|simp (disch:=omega) only[go_sem,q7U,enter,Kw,hg,hp,hst]|(refine q0b _ _ w1 ?_)|(apply spl<;>intro h<;>try simp (disch:=omega) only[go_sem,h]))
   all_goals first | omega | exact q0Y (.inr rfl) (by simp) (hF1 _) q0X rfl
  ·obtain ⟨r1,r2,r3⟩:=qcW hf ho
   have ht:q0r (d+1) p=qnN p.s.lo p.s.hi:=by rw[q0Z]; simp [ho]
   rw[ht]
   have b1:=q8C p.s.lo.toNat (by omega)
   have b2:=q8C p.s.hi.toNat (by omega)
   have l1:=q3V p.s.lo.toNat (by omega)
   have l2:=q3V p.s.hi.toNat (by omega)
   rw[show ((p.s.lo.toNat:Nat):Int)=p.s.lo by omega] at b1
   rw[show ((p.s.hi.toNat:Nat):Int)=p.s.hi by omega] at b2
   have w1:=ws (q3Z p.s.lo.toNat) (by omega)
   have w2:=wb 46 (by decide) (by decide)
   have w3:=ws (91::(q3Z p.s.lo.toNat++[45]++q3Z p.s.hi.toNat++[93])) (by simp; omega)
   unfold qnN
   by_cases q1:p.s.lo=p.s.hi
   ·rw[if_pos q1,q1]
    simp only[q1] at e0 b1 w1 l1
    simp only[e0,ho] at hF1 hg hp hst w1 ⊢
    (repeat' first|simp (disch:=omega) only[go_sem,q7U,enter,Kw,hg,hp,hst]|refine q00 _ (b1) ?_|(refine q0b _ _ w1 ?_)|(apply spl<;>intro h<;>try simp (disch:=omega) only[go_sem,h]))
    all_goals first | omega | exact q0Y (.inr rfl) (by simp) (hF1 _) q0X rfl
   ·rw[if_neg q1]
    by_cases q2:p.s.lo=0∧p.s.hi=255
    ·rw[if_pos q2]
     simp only[q2.1,q2.2] at e0
     simp only[e0,ho] at hF1 hg hp hst w2 ⊢
     (repeat' first|simp (disch:=omega) only[go_sem,q7U,enter,Kw,hg,hp,hst]|(refine q0b _ _ w2 ?_)|(apply spl<;>intro h<;>try simp (disch:=omega) only[go_sem,h]))
     all_goals first | omega | exact q0Y (.inr rfl) (by simp) (hF1 _) q0X rfl
    ·rw[if_neg q2]
     simp only[e0,ho] at hF1 hg hp hst w3 ⊢
     by_cases q3:p.s.lo=0
     ·have q4 : ¬ p.s.hi=255:=fun e=>q2 ⟨q3,e⟩
      have l5:=q3V 0 (by decide)
      rw[show q3Z p.s.lo.toNat=q3Z 0 by rw[q3]; rfl]
      simp only[q3] at hF1 hg hp hst w3 b1 l1 q1 ⊢
      (repeat' first|simp (disch:=omega) only[go_sem,q7U,enter,q1,q4,Kw,Kb,List.length_cons,List.length_nil,hg,hp,hst]|refine q00 _ (b1) ?_|refine q00 _ (b2) ?_|(refine q0b _ _ w3 ?_)|(apply spl<;>intro h<;>try simp (disch:=omega) only[go_sem,h]))
      all_goals first | omega | exact q0Y (.inr rfl) (by simp) (hF1 _) q0X rfl
     ·(repeat' first|simp (disch:=omega) only[go_sem,q7U,enter,q1,q3,Kw,Kb,List.length_cons,List.length_nil,hg,hp,hst]|refine q00 _ (b1) ?_|refine q00 _ (b2) ?_|(refine q0b _ _ w3 ?_)|(apply spl<;>intro h<;>try simp (disch:=omega) only[go_sem,h]))
      all_goals first | omega | exact q0Y (.inr rfl) (by simp) (hF1 _) q0X rfl
  ·have ht:q0r (d+1) p=q1o [] (p.a.map (q2y (q0r d) 4)):=by rw[q0Z]; simp [ho]
   rw[ht]
   simp only[e0,ho] at hF1 hg hp hst ⊢
   (repeat' first|simp (disch:=omega) only[go_sem,q7U,enter,Kw,Ka,hg,hp,hst]|(apply spl<;>intro h<;>try simp (disch:=omega) only[go_sem,h]))
   refine q0a (α:=Nat) (fun k=>{ tmps:=q0i 92 [(0,.iref r),(3,.ptr 6 H.length 0 0),(4,.str []),(5,.int .i64 4),(65,.tsl 6 (p.a.map q04)),(66,.int .i64 p.a.length),(67,.int .i64 k)],heap:=H.set r (.iter (s++q1o [] ((p.a.take k).map (q2y (q0r d) 4))) bQ)++[Blk.row 6 [.agg [.int .i64 3,.int .i64 p.s.lo,.int .i64 p.s.hi,.int .i64 p.s.min,.int .i64 p.s.max,.tsl 6 (p.a.map q04)]] false true H.length],base:=H.length })
    (fun k=>k≤p.a.length) (fun k=>p.a.length-k) 0 (by simp only[VC,Kl,q1o,Kj]; exact q1b (by simp) (hF1 _) rfl (q0T hr (hp _) rfl) (by (try rw[q0w rfl]); simp only[Kd,Kl,AV.renN,q0u hr,q0U])) (Kn _) ?_
   intro k hkl
   by_cases hlt:k<p.a.length
   ·obtain ⟨x,hx⟩:=q08 hlt
    have hxm:=Kc hx
    have hx2:=q0d (g:=q04) hx
    have ex:=q0e x
    have hxb:=L.kids x hxm
    have hbt:=q3C (p.a.map q04) k (q04 x) hx2
    have hxx:x.bulk=(q04 x).bulk:=rfl
    have hjl:=q2n [] (by simp) (q2y (q0r d) 4) (p.a.take k) fun y hy=>q45 d 4 y (hk y (KB hy))
    rw[show (p.a.take k).map q04=(p.a.map q04).take k from V9 ..] at hjl
    have hF2 : ∀ t,FlatB (H.set r (.iter t bQ)++[Blk.row 6 [.agg [.int .i64 3,.int .i64 p.s.lo,.int .i64 p.s.hi,.int .i64 p.s.min,.int .i64 p.s.max,.tsl 6 (p.a.map q04)]] false true H.length,Blk.row 6 [.agg [.int .i64 x.s.op,.int .i64 x.s.lo,.int .i64 x.s.hi,.int .i64 x.s.min,.int .i64 x.s.max,.tsl 6 (x.a.map q04)]] false true (H.length+1)]):=fun t=>by
     have h1:=hF1 t
     have h2:=h1.push' 6 [q04 x] (k:=H.length+1) (by simp)
     rw[Ke,ex] at h2
     exact h2
    have hg2 : ∀ t,(H.set r (.iter t bQ)++[Blk.row 6 [.agg [.int .i64 3,.int .i64 p.s.lo,.int .i64 p.s.hi,.int .i64 p.s.min,.int .i64 p.s.max,.tsl 6 (p.a.map q04)]] false true H.length,Blk.row 6 [.agg [.int .i64 x.s.op,.int .i64 x.s.lo,.int .i64 x.s.hi,.int .i64 x.s.min,.int .i64 x.s.max,.tsl 6 (x.a.map q04)]] false true (H.length+1)])[r]?=some (.iter t bQ):=fun t=>by rw[q2O (by simpa using hr)]; simp [hr]
    have hp2 : ∀ t,(H.set r (.iter t bQ)++[Blk.row 6 [.agg [.int .i64 3,.int .i64 p.s.lo,.int .i64 p.s.hi,.int .i64 p.s.min,.int .i64 p.s.max,.tsl 6 (p.a.map q04)]] false true H.length,Blk.row 6 [.agg [.int .i64 x.s.op,.int .i64 x.s.lo,.int .i64 x.s.hi,.int .i64 x.s.min,.int .i64 x.s.max,.tsl 6 (x.a.map q04)]] false true (H.length+1)])[H.length]?=some (Blk.row 6 [.agg [.int .i64 3,.int .i64 p.s.lo,.int .i64 p.s.hi,.int .i64 p.s.min,.int .i64 p.s.max,.tsl 6 (p.a.map q04)]] false true H.length):=fun t=>q1S (by simp)
    have hq2 : ∀ t,(H.set r (.iter t bQ)++[Blk.row 6 [.agg [.int .i64 3,.int .i64 p.s.lo,.int .i64 p.s.hi,.int .i64 p.s.min,.int .i64 p.s.max,.tsl 6 (p.a.map q04)]] false true H.length,Blk.row 6 [.agg [.int .i64 x.s.op,.int .i64 x.s.lo,.int .i64 x.s.hi,.int .i64 x.s.min,.int .i64 x.s.max,.tsl 6 (x.a.map q04)]] false true (H.length+1)])[H.length+1]?=some (Blk.row 6 [.agg [.int .i64 x.s.op,.int .i64 x.s.lo,.int .i64 x.s.hi,.int .i64 x.s.min,.int .i64 x.s.max,.tsl 6 (x.a.map q04)]] false true (H.length+1)):=fun t=>q6Q (by simp)
    have hz2 : ∀ t,(H.set r (.iter t bQ)++[Blk.row 6 [.agg [.int .i64 3,.int .i64 p.s.lo,.int .i64 p.s.hi,.int .i64 p.s.min,.int .i64 p.s.max,.tsl 6 (p.a.map q04)]] false true H.length,Blk.row 6 [.agg [.int .i64 0,.int .i64 0,.int .i64 0,.int .i64 0,.int .i64 0,.snil 6]] false true (H.length+1)])[H.length+1]?=some (Blk.row 6 [.agg [.int .i64 0,.int .i64 0,.int .i64 0,.int .i64 0,.int .i64 0,.snil 6]] false true (H.length+1)):=fun t=>q6Q (by simp)
    have hzs : ∀ t,q0D (H.length+1) (H.length+1) 0 (H.set r (.iter t bQ)++[Blk.row 6 [.agg [.int .i64 3,.int .i64 p.s.lo,.int .i64 p.s.hi,.int .i64 p.s.min,.int .i64 p.s.max,.tsl 6 (p.a.map q04)]] false true H.length,Blk.row 6 [.agg [.int .i64 0,.int .i64 0,.int .i64 0,.int .i64 0,.int .i64 0,.snil 6]] false true (H.length+1)]) 0=some (H.set r (.iter t bQ)++[Blk.row 6 [.agg [.int .i64 3,.int .i64 p.s.lo,.int .i64 p.s.hi,.int .i64 p.s.min,.int .i64 p.s.max,.tsl 6 (p.a.map q04)]] false true H.length,Blk.row 6 [.agg [.int .i64 0,.int .i64 0,.int .i64 0,.int .i64 0,.int .i64 0,.snil 6]] false true (H.length+1)]):=fun t=>by
     have h1:=(hF1 t).push' 6 [.agg [.int .i64 0,.int .i64 0,.int .i64 0,.int .i64 0,.int .i64 0,.snil 6]] (k:=H.length+1) (by simp)
     rw[Ke] at h1
     exact h1.strike _ _
    have hzt : ∀ t b,(H.set r (.iter t bQ)++[Blk.row 6 [.agg [.int .i64 3,.int .i64 p.s.lo,.int .i64 p.s.hi,.int .i64 p.s.min,.int .i64 p.s.max,.tsl 6 (p.a.map q04)]] false true H.length,Blk.row 6 [.agg [.int .i64 0,.int .i64 0,.int .i64 0,.int .i64 0,.int .i64 0,.snil 6]] false true (H.length+1)]).set (H.length+1) b=H.set r (.iter t bQ)++[Blk.row 6 [.agg [.int .i64 3,.int .i64 p.s.lo,.int .i64 p.s.hi,.int .i64 p.s.min,.int .i64 p.s.max,.tsl 6 (p.a.map q04)]] false true H.length,b]:=fun t b=>qij (by simp)
    have hst2 : ∀ t u,(H.set r (.iter t bQ)++[Blk.row 6 [.agg [.int .i64 3,.int .i64 p.s.lo,.int .i64 p.s.hi,.int .i64 p.s.min,.int .i64 p.s.max,.tsl 6 (p.a.map q04)]] false true H.length,Blk.row 6 [.agg [.int .i64 x.s.op,.int .i64 x.s.lo,.int .i64 x.s.hi,.int .i64 x.s.min,.int .i64 x.s.max,.tsl 6 (x.a.map q04)]] false true (H.length+1)]).set r (.iter u bQ)=H.set r (.iter u bQ)++[Blk.row 6 [.agg [.int .i64 3,.int .i64 p.s.lo,.int .i64 p.s.hi,.int .i64 p.s.min,.int .i64 p.s.max,.tsl 6 (p.a.map q04)]] false true H.length,Blk.row 6 [.agg [.int .i64 x.s.op,.int .i64 x.s.lo,.int .i64 x.s.hi,.int .i64 x.s.min,.int .i64 x.s.max,.tsl 6 (x.a.map q04)]] false true (H.length+1)]:=fun t u=>by rw[setL (by simpa using hr),VQ]
    have harg : ∀ t,t.length+2 * x.bulk+1≤2^30→q1z CT 628 [.iref r,.agg [.int .i64 x.s.op,.int .i64 x.s.lo,.int .i64 x.s.hi,.int .i64 x.s.min,.int .i64 x.s.max,.tsl 6 (x.a.map q04)],.int .i64 4] (H.set r (.iter t bQ)++[Blk.row 6 [.agg [.int .i64 3,.int .i64 p.s.lo,.int .i64 p.s.hi,.int .i64 p.s.min,.int .i64 p.s.max,.tsl 6 (p.a.map q04)]] false true H.length,Blk.row 6 [.agg [.int .i64 x.s.op,.int .i64 x.s.lo,.int .i64 x.s.hi,.int .i64 x.s.min,.int .i64 x.s.max,.tsl 6 (x.a.map q04)]] false true (H.length+1)]) (.tup []) (H.set r (.iter (t++q2y (q0r d) 4 x) bQ)++[Blk.row 6 [.agg [.int .i64 3,.int .i64 p.s.lo,.int .i64 p.s.hi,.int .i64 p.s.min,.int .i64 p.s.max,.tsl 6 (p.a.map q04)]] false true H.length,Blk.row 6 [.agg [.int .i64 x.s.op,.int .i64 x.s.lo,.int .i64 x.s.hi,.int .i64 x.s.min,.int .i64 x.s.max,.tsl 6 (x.a.map q04)]] false true (H.length+1)]):=fun t ht=>by
     have:=qeh d x (hk x hxm) (by omega) 4 (q4U d x (hk x hxm) (by omega)) _ r t (hF2 t) (by simp; omega) (hg2 t) ht
     rw[hst2,ex] at this
     exact this
    have hcat:=q4d [] (q2y (q0r d) 4) hx
    generalize hJ:q1o [] ((p.a.take k).map (q2y (q0r d) 4))=J at hjl hcat
    have hAl:(s++J).length≤s.length+1+J.length:=by simp<;>omega
    have hsep:=qae (H:=H.set r (.iter (s++J) bQ)++[Blk.row 6 [.agg [.int .i64 3,.int .i64 p.s.lo,.int .i64 p.s.hi,.int .i64 p.s.min,.int .i64 p.s.max,.tsl 6 (p.a.map q04)]] false true H.length,Blk.row 6 [.agg [.int .i64 x.s.op,.int .i64 x.s.lo,.int .i64 x.s.hi,.int .i64 x.s.min,.int .i64 x.s.max,.tsl 6 (x.a.map q04)]] false true (H.length+1)]) [] (hg2 _) (by simp only[List.length_cons,List.length_nil]; omega)
    rw[hst2] at hsep
    have ha0:=harg (s++J) (by omega)
    have ha1:=harg (s++J++[]) (by rw[Kb]; simp only[List.length_cons,List.length_nil]; omega)
    simp (disch:=omega) only[go_sem,Ke] at hsep ha0 ha1
    rw[ex] at hx2
    by_cases hk0:k=0
    ·rw[if_pos hk0] at hcat
     subst hk0
     have hcat2:=congrArg (fun z=>s++z) hcat
     simp (disch:=omega) only[go_sem,Ke] at hcat2
     (repeat' first|simp (disch:=omega) only[go_sem,hx2,Kw,Ka,Ke,Kb,hg,hp,hst,hg2,hp2,hq2,hst2,hz2,hzs,hzt]|(refine q0b _ _ ha0 ?_)|(refine q0b _ _ hsep ?_)|(refine q0b _ _ ha1 ?_)|(apply spl<;>intro h<;>try simp (disch:=omega) only[go_sem,h]))
     refine ⟨1,?_,by omega,by omega⟩
     rw[←hcat2]
     exact q1b (by simp) (hF2 _) rfl (q0T hr (hp2 _) rfl) (by (try rw[q0w rfl]); simp only[Kd,Kl,AV.renN,q0u hr,q0U])
    ·rw[if_neg hk0] at hcat
     have hcat2:=congrArg (fun z=>s++z) hcat
     simp (disch:=omega) only[go_sem,Ke] at hcat2
     (repeat' first|simp (disch:=omega) only[go_sem,hx2,hk0,Kw,Ka,Ke,Kb,hg,hp,hst,hg2,hp2,hq2,hst2,hz2,hzs,hzt]|(refine q0b _ _ ha0 ?_)|(refine q0b _ _ hsep ?_)|(refine q0b _ _ ha1 ?_)|(apply spl<;>intro h<;>try simp (disch:=omega) only[go_sem,h]))
     refine ⟨k+1,?_,by omega,by omega⟩
     rw[←hcat2]
     exact q1b (by simp) (hF2 _) rfl (q0T hr (hp2 _) rfl) (by (try rw[q0w rfl]); simp only[Kd,Kl,AV.renN,q0u hr,q0U])
   ·have hfull:p.a.take k=p.a:=Kz (by omega)
    rw[hfull]
    (repeat' first|simp (disch:=omega) only[go_sem,Kw,Ka,hg,hp,hst]|(apply spl<;>intro h<;>try simp (disch:=omega) only[go_sem,h]))
    all_goals first | omega | exact q0Y (.inl rfl) (by simp) (hF1 _) q0X rfl | exact q0Y (.inr rfl) (by simp) (hF1 _) q0X rfl
  ·have ht:q0r (d+1) p=q1o [124] (p.a.map (q2y (q0r d) 2)):=by rw[q0Z]; simp [ho]
   rw[ht]
   simp only[e0,ho] at hF1 hg hp hst ⊢
   (repeat' first|simp (disch:=omega) only[go_sem,q7U,enter,Kw,Ka,hg,hp,hst]|(apply spl<;>intro h<;>try simp (disch:=omega) only[go_sem,h]))
   refine q0a (α:=Nat) (fun k=>{ tmps:=q0i 92 [(0,.iref r),(3,.ptr 6 H.length 0 0),(4,.str [124]),(5,.int .i64 2),(65,.tsl 6 (p.a.map q04)),(66,.int .i64 p.a.length),(67,.int .i64 k)],heap:=H.set r (.iter (s++q1o [124] ((p.a.take k).map (q2y (q0r d) 2))) bQ)++[Blk.row 6 [.agg [.int .i64 4,.int .i64 p.s.lo,.int .i64 p.s.hi,.int .i64 p.s.min,.int .i64 p.s.max,.tsl 6 (p.a.map q04)]] false true H.length],base:=H.length })
    (fun k=>k≤p.a.length) (fun k=>p.a.length-k) 0 (by simp only[VC,Kl,q1o,Kj]; exact q1b (by simp) (hF1 _) rfl (q0T hr (hp _) rfl) (by (try rw[q0w rfl]); simp only[Kd,Kl,AV.renN,q0u hr,q0U])) (Kn _) ?_
   intro k hkl
   by_cases hlt:k<p.a.length
   ·obtain ⟨x,hx⟩:=q08 hlt
    have hxm:=Kc hx
    have hx2:=q0d (g:=q04) hx
    have ex:=q0e x
    have hxb:=L.kids x hxm
    have hbt:=q3C (p.a.map q04) k (q04 x) hx2
    have hxx:x.bulk=(q04 x).bulk:=rfl
    have hjl:=q2n [124] (by simp) (q2y (q0r d) 2) (p.a.take k) fun y hy=>q45 d 2 y (hk y (KB hy))
    rw[show (p.a.take k).map q04=(p.a.map q04).take k from V9 ..] at hjl
    have hF2 : ∀ t,FlatB (H.set r (.iter t bQ)++[Blk.row 6 [.agg [.int .i64 4,.int .i64 p.s.lo,.int .i64 p.s.hi,.int .i64 p.s.min,.int .i64 p.s.max,.tsl 6 (p.a.map q04)]] false true H.length,Blk.row 6 [.agg [.int .i64 x.s.op,.int .i64 x.s.lo,.int .i64 x.s.hi,.int .i64 x.s.min,.int .i64 x.s.max,.tsl 6 (x.a.map q04)]] false true (H.length+1)]):=fun t=>by
     have h1:=hF1 t
     have h2:=h1.push' 6 [q04 x] (k:=H.length+1) (by simp)
     rw[Ke,ex] at h2
     exact h2
    have hg2 : ∀ t,(H.set r (.iter t bQ)++[Blk.row 6 [.agg [.int .i64 4,.int .i64 p.s.lo,.int .i64 p.s.hi,.int .i64 p.s.min,.int .i64 p.s.max,.tsl 6 (p.a.map q04)]] false true H.length,Blk.row 6 [.agg [.int .i64 x.s.op,.int .i64 x.s.lo,.int .i64 x.s.hi,.int .i64 x.s.min,.int .i64 x.s.max,.tsl 6 (x.a.map q04)]] false true (H.length+1)])[r]?=some (.iter t bQ):=fun t=>by rw[q2O (by simpa using hr)]; simp [hr]
    have hp2 : ∀ t,(H.set r (.iter t bQ)++[Blk.row 6 [.agg [.int .i64 4,.int .i64 p.s.lo,.int .i64 p.s.hi,.int .i64 p.s.min,.int .i64 p.s.max,.tsl 6 (p.a.map q04)]] false true H.length,Blk.row 6 [.agg [.int .i64 x.s.op,.int .i64 x.s.lo,.int .i64 x.s.hi,.int .i64 x.s.min,.int .i64 x.s.max,.tsl 6 (x.a.map q04)]] false true (H.length+1)])[H.length]?=some (Blk.row 6 [.agg [.int .i64 4,.int .i64 p.s.lo,.int .i64 p.s.hi,.int .i64 p.s.min,.int .i64 p.s.max,.tsl 6 (p.a.map q04)]] false true H.length):=fun t=>q1S (by simp)
    have hq2 : ∀ t,(H.set r (.iter t bQ)++[Blk.row 6 [.agg [.int .i64 4,.int .i64 p.s.lo,.int .i64 p.s.hi,.int .i64 p.s.min,.int .i64 p.s.max,.tsl 6 (p.a.map q04)]] false true H.length,Blk.row 6 [.agg [.int .i64 x.s.op,.int .i64 x.s.lo,.int .i64 x.s.hi,.int .i64 x.s.min,.int .i64 x.s.max,.tsl 6 (x.a.map q04)]] false true (H.length+1)])[H.length+1]?=some (Blk.row 6 [.agg [.int .i64 x.s.op,.int .i64 x.s.lo,.int .i64 x.s.hi,.int .i64 x.s.min,.int .i64 x.s.max,.tsl 6 (x.a.map q04)]] false true (H.length+1)):=fun t=>q6Q (by simp)
    have hz2 : ∀ t,(H.set r (.iter t bQ)++[Blk.row 6 [.agg [.int .i64 4,.int .i64 p.s.lo,.int .i64 p.s.hi,.int .i64 p.s.min,.int .i64 p.s.max,.tsl 6 (p.a.map q04)]] false true H.length,Blk.row 6 [.agg [.int .i64 0,.int .i64 0,.int .i64 0,.int .i64 0,.int .i64 0,.snil 6]] false true (H.length+1)])[H.length+1]?=some (Blk.row 6 [.agg [.int .i64 0,.int .i64 0,.int .i64 0,.int .i64 0,.int .i64 0,.snil 6]] false true (H.length+1)):=fun t=>q6Q (by simp)
    have hzs : ∀ t,q0D (H.length+1) (H.length+1) 0 (H.set r (.iter t bQ)++[Blk.row 6 [.agg [.int .i64 4,.int .i64 p.s.lo,.int .i64 p.s.hi,.int .i64 p.s.min,.int .i64 p.s.max,.tsl 6 (p.a.map q04)]] false true H.length,Blk.row 6 [.agg [.int .i64 0,.int .i64 0,.int .i64 0,.int .i64 0,.int .i64 0,.snil 6]] false true (H.length+1)]) 0=some (H.set r (.iter t bQ)++[Blk.row 6 [.agg [.int .i64 4,.int .i64 p.s.lo,.int .i64 p.s.hi,.int .i64 p.s.min,.int .i64 p.s.max,.tsl 6 (p.a.map q04)]] false true H.length,Blk.row 6 [.agg [.int .i64 0,.int .i64 0,.int .i64 0,.int .i64 0,.int .i64 0,.snil 6]] false true (H.length+1)]):=fun t=>by
     have h1:=(hF1 t).push' 6 [.agg [.int .i64 0,.int .i64 0,.int .i64 0,.int .i64 0,.int .i64 0,.snil 6]] (k:=H.length+1) (by simp)
     rw[Ke] at h1
     exact h1.strike _ _
    have hzt : ∀ t b,(H.set r (.iter t bQ)++[Blk.row 6 [.agg [.int .i64 4,.int .i64 p.s.lo,.int .i64 p.s.hi,.int .i64 p.s.min,.int .i64 p.s.max,.tsl 6 (p.a.map q04)]] false true H.length,Blk.row 6 [.agg [.int .i64 0,.int .i64 0,.int .i64 0,.int .i64 0,.int .i64 0,.snil 6]] false true (H.length+1)]).set (H.length+1) b=H.set r (.iter t bQ)++[Blk.row 6 [.agg [.int .i64 4,.int .i64 p.s.lo,.int .i64 p.s.hi,.int .i64 p.s.min,.int .i64 p.s.max,.tsl 6 (p.a.map q04)]] false true H.length,b]:=fun t b=>qij (by simp)
    have hst2 : ∀ t u,(H.set r (.iter t bQ)++[Blk.row 6 [.agg [.int .i64 4,.int .i64 p.s.lo,.int .i64 p.s.hi,.int .i64 p.s.min,.int .i64 p.s.max,.tsl 6 (p.a.map q04)]] false true H.length,Blk.row 6 [.agg [.int .i64 x.s.op,.int .i64 x.s.lo,.int .i64 x.s.hi,.int .i64 x.s.min,.int .i64 x.s.max,.tsl 6 (x.a.map q04)]] false true (H.length+1)]).set r (.iter u bQ)=H.set r (.iter u bQ)++[Blk.row 6 [.agg [.int .i64 4,.int .i64 p.s.lo,.int .i64 p.s.hi,.int .i64 p.s.min,.int .i64 p.s.max,.tsl 6 (p.a.map q04)]] false true H.length,Blk.row 6 [.agg [.int .i64 x.s.op,.int .i64 x.s.lo,.int .i64 x.s.hi,.int .i64 x.s.min,.int .i64 x.s.max,.tsl 6 (x.a.map q04)]] false true (H.length+1)]:=fun t u=>by rw[setL (by simpa using hr),VQ]
    have harg : ∀ t,t.length+2 * x.bulk+1≤2^30→q1z CT 628 [.iref r,.agg [.int .i64 x.s.op,.int .i64 x.s.lo,.int .i64 x.s.hi,.int .i64 x.s.min,.int .i64 x.s.max,.tsl 6 (x.a.map q04)],.int .i64 2] (H.set r (.iter t bQ)++[Blk.row 6 [.agg [.int .i64 4,.int .i64 p.s.lo,.int .i64 p.s.hi,.int .i64 p.s.min,.int .i64 p.s.max,.tsl 6 (p.a.map q04)]] false true H.length,Blk.row 6 [.agg [.int .i64 x.s.op,.int .i64 x.s.lo,.int .i64 x.s.hi,.int .i64 x.s.min,.int .i64 x.s.max,.tsl 6 (x.a.map q04)]] false true (H.length+1)]) (.tup []) (H.set r (.iter (t++q2y (q0r d) 2 x) bQ)++[Blk.row 6 [.agg [.int .i64 4,.int .i64 p.s.lo,.int .i64 p.s.hi,.int .i64 p.s.min,.int .i64 p.s.max,.tsl 6 (p.a.map q04)]] false true H.length,Blk.row 6 [.agg [.int .i64 x.s.op,.int .i64 x.s.lo,.int .i64 x.s.hi,.int .i64 x.s.min,.int .i64 x.s.max,.tsl 6 (x.a.map q04)]] false true (H.length+1)]):=fun t ht=>by
     have:=qeh d x (hk x hxm) (by omega) 2 (q4U d x (hk x hxm) (by omega)) _ r t (hF2 t) (by simp; omega) (hg2 t) ht
     rw[hst2,ex] at this
     exact this
    have hcat:=q4d [124] (q2y (q0r d) 2) hx
    generalize hJ:q1o [124] ((p.a.take k).map (q2y (q0r d) 2))=J at hjl hcat
    have hAl:(s++J).length≤s.length+1+J.length:=by simp<;>omega
    have hsep:=qae (H:=H.set r (.iter (s++J) bQ)++[Blk.row 6 [.agg [.int .i64 4,.int .i64 p.s.lo,.int .i64 p.s.hi,.int .i64 p.s.min,.int .i64 p.s.max,.tsl 6 (p.a.map q04)]] false true H.length,Blk.row 6 [.agg [.int .i64 x.s.op,.int .i64 x.s.lo,.int .i64 x.s.hi,.int .i64 x.s.min,.int .i64 x.s.max,.tsl 6 (x.a.map q04)]] false true (H.length+1)]) [124] (hg2 _) (by simp only[List.length_cons,List.length_nil]; omega)
    rw[hst2] at hsep
    have ha0:=harg (s++J) (by omega)
    have ha1:=harg (s++J++[124]) (by rw[Kb]; simp only[List.length_cons,List.length_nil]; omega)
    simp (disch:=omega) only[go_sem,Ke] at hsep ha0 ha1
    rw[ex] at hx2
    by_cases hk0:k=0
    ·rw[if_pos hk0] at hcat
     subst hk0
     have hcat2:=congrArg (fun z=>s++z) hcat
     simp (disch:=omega) only[go_sem,Ke] at hcat2
     (repeat' first|simp (disch:=omega) only[go_sem,hx2,Kw,Ka,Ke,Kb,hg,hp,hst,hg2,hp2,hq2,hst2,hz2,hzs,hzt]|(refine q0b _ _ ha0 ?_)|(refine q0b _ _ hsep ?_)|(refine q0b _ _ ha1 ?_)|(apply spl<;>intro h<;>try simp (disch:=omega) only[go_sem,h]))
     refine ⟨1,?_,by omega,by omega⟩
     rw[←hcat2]
     exact q1b (by simp) (hF2 _) rfl (q0T hr (hp2 _) rfl) (by (try rw[q0w rfl]); simp only[Kd,Kl,AV.renN,q0u hr,q0U])
    ·rw[if_neg hk0] at hcat
     have hcat2:=congrArg (fun z=>s++z) hcat
     simp (disch:=omega) only[go_sem,Ke] at hcat2
     (repeat' first|simp (disch:=omega) only[go_sem,hx2,hk0,Kw,Ka,Ke,Kb,hg,hp,hst,hg2,hp2,hq2,hst2,hz2,hzs,hzt]|(refine q0b _ _ ha0 ?_)|(refine q0b _ _ hsep ?_)|(refine q0b _ _ ha1 ?_)|(apply spl<;>intro h<;>try simp (disch:=omega) only[go_sem,h]))
     refine ⟨k+1,?_,by omega,by omega⟩
     rw[←hcat2]
     exact q1b (by simp) (hF2 _) rfl (q0T hr (hp2 _) rfl) (by (try rw[q0w rfl]); simp only[Kd,Kl,AV.renN,q0u hr,q0U])
   ·have hfull:p.a.take k=p.a:=Kz (by omega)
    rw[hfull]
    (repeat' first|simp (disch:=omega) only[go_sem,Kw,Ka,hg,hp,hst]|(apply spl<;>intro h<;>try simp (disch:=omega) only[go_sem,h]))
    all_goals first | omega | exact q0Y (.inl rfl) (by simp) (hF1 _) q0X rfl | exact q0Y (.inr rfl) (by simp) (hF1 _) q0X rfl
  ·have ht:q0r (d+1) p=q1o [] (p.a.map (q2y (q0r d) 5))++qk3 p.s.min p.s.max:=by rw[q0Z]; simp [ho]
   rw[ht]
   obtain ⟨f1,f2,f3,f4⟩:=qcM hf ho
   have bb:=qla p.s.min p.s.max f2 f3 f4
   have bl:=qcd p.s.min p.s.max
   simp only[e0,ho] at hF1 hg hp hst ⊢
   (repeat' first|simp (disch:=omega) only[go_sem,q7U,enter,Kw,Ka,hg,hp,hst]|(apply spl<;>intro h<;>try simp (disch:=omega) only[go_sem,h]))
   refine q0a (α:=Nat) (fun k=>{ tmps:=q0i 92 [(0,.iref r),(3,.ptr 6 H.length 0 0),(4,.str []),(5,.int .i64 5),(65,.tsl 6 (p.a.map q04)),(66,.int .i64 p.a.length),(67,.int .i64 k)],heap:=H.set r (.iter (s++q1o [] ((p.a.take k).map (q2y (q0r d) 5))) bQ)++[Blk.row 6 [.agg [.int .i64 5,.int .i64 p.s.lo,.int .i64 p.s.hi,.int .i64 p.s.min,.int .i64 p.s.max,.tsl 6 (p.a.map q04)]] false true H.length],base:=H.length })
    (fun k=>k≤p.a.length) (fun k=>p.a.length-k) 0 (by simp only[VC,Kl,q1o,Kj]; exact q1b (by simp) (hF1 _) rfl (q0T hr (hp _) rfl) (by (try rw[q0w rfl]); simp only[Kd,Kl,AV.renN,q0u hr,q0U])) (Kn _) ?_
   intro k hkl
   by_cases hlt:k<p.a.length
   ·obtain ⟨x,hx⟩:=q08 hlt
    have hxm:=Kc hx
    have hx2:=q0d (g:=q04) hx
    have ex:=q0e x
    have hxb:=L.kids x hxm
    have hbt:=q3C (p.a.map q04) k (q04 x) hx2
    have hxx:x.bulk=(q04 x).bulk:=rfl
    have hjl:=q2n [] (by simp) (q2y (q0r d) 5) (p.a.take k) fun y hy=>q45 d 5 y (hk y (KB hy))
    rw[show (p.a.take k).map q04=(p.a.map q04).take k from V9 ..] at hjl
    have hF2 : ∀ t,FlatB (H.set r (.iter t bQ)++[Blk.row 6 [.agg [.int .i64 5,.int .i64 p.s.lo,.int .i64 p.s.hi,.int .i64 p.s.min,.int .i64 p.s.max,.tsl 6 (p.a.map q04)]] false true H.length,Blk.row 6 [.agg [.int .i64 x.s.op,.int .i64 x.s.lo,.int .i64 x.s.hi,.int .i64 x.s.min,.int .i64 x.s.max,.tsl 6 (x.a.map q04)]] false true (H.length+1)]):=fun t=>by
     have h1:=hF1 t
     have h2:=h1.push' 6 [q04 x] (k:=H.length+1) (by simp)
     rw[Ke,ex] at h2
     exact h2
    have hg2 : ∀ t,(H.set r (.iter t bQ)++[Blk.row 6 [.agg [.int .i64 5,.int .i64 p.s.lo,.int .i64 p.s.hi,.int .i64 p.s.min,.int .i64 p.s.max,.tsl 6 (p.a.map q04)]] false true H.length,Blk.row 6 [.agg [.int .i64 x.s.op,.int .i64 x.s.lo,.int .i64 x.s.hi,.int .i64 x.s.min,.int .i64 x.s.max,.tsl 6 (x.a.map q04)]] false true (H.length+1)])[r]?=some (.iter t bQ):=fun t=>by rw[q2O (by simpa using hr)]; simp [hr]
    have hp2 : ∀ t,(H.set r (.iter t bQ)++[Blk.row 6 [.agg [.int .i64 5,.int .i64 p.s.lo,.int .i64 p.s.hi,.int .i64 p.s.min,.int .i64 p.s.max,.tsl 6 (p.a.map q04)]] false true H.length,Blk.row 6 [.agg [.int .i64 x.s.op,.int .i64 x.s.lo,.int .i64 x.s.hi,.int .i64 x.s.min,.int .i64 x.s.max,.tsl 6 (x.a.map q04)]] false true (H.length+1)])[H.length]?=some (Blk.row 6 [.agg [.int .i64 5,.int .i64 p.s.lo,.int .i64 p.s.hi,.int .i64 p.s.min,.int .i64 p.s.max,.tsl 6 (p.a.map q04)]] false true H.length):=fun t=>q1S (by simp)
    have hq2 : ∀ t,(H.set r (.iter t bQ)++[Blk.row 6 [.agg [.int .i64 5,.int .i64 p.s.lo,.int .i64 p.s.hi,.int .i64 p.s.min,.int .i64 p.s.max,.tsl 6 (p.a.map q04)]] false true H.length,Blk.row 6 [.agg [.int .i64 x.s.op,.int .i64 x.s.lo,.int .i64 x.s.hi,.int .i64 x.s.min,.int .i64 x.s.max,.tsl 6 (x.a.map q04)]] false true (H.length+1)])[H.length+1]?=some (Blk.row 6 [.agg [.int .i64 x.s.op,.int .i64 x.s.lo,.int .i64 x.s.hi,.int .i64 x.s.min,.int .i64 x.s.max,.tsl 6 (x.a.map q04)]] false true (H.length+1)):=fun t=>q6Q (by simp)
    have hz2 : ∀ t,(H.set r (.iter t bQ)++[Blk.row 6 [.agg [.int .i64 5,.int .i64 p.s.lo,.int .i64 p.s.hi,.int .i64 p.s.min,.int .i64 p.s.max,.tsl 6 (p.a.map q04)]] false true H.length,Blk.row 6 [.agg [.int .i64 0,.int .i64 0,.int .i64 0,.int .i64 0,.int .i64 0,.snil 6]] false true (H.length+1)])[H.length+1]?=some (Blk.row 6 [.agg [.int .i64 0,.int .i64 0,.int .i64 0,.int .i64 0,.int .i64 0,.snil 6]] false true (H.length+1)):=fun t=>q6Q (by simp)
    have hzs : ∀ t,q0D (H.length+1) (H.length+1) 0 (H.set r (.iter t bQ)++[Blk.row 6 [.agg [.int .i64 5,.int .i64 p.s.lo,.int .i64 p.s.hi,.int .i64 p.s.min,.int .i64 p.s.max,.tsl 6 (p.a.map q04)]] false true H.length,Blk.row 6 [.agg [.int .i64 0,.int .i64 0,.int .i64 0,.int .i64 0,.int .i64 0,.snil 6]] false true (H.length+1)]) 0=some (H.set r (.iter t bQ)++[Blk.row 6 [.agg [.int .i64 5,.int .i64 p.s.lo,.int .i64 p.s.hi,.int .i64 p.s.min,.int .i64 p.s.max,.tsl 6 (p.a.map q04)]] false true H.length,Blk.row 6 [.agg [.int .i64 0,.int .i64 0,.int .i64 0,.int .i64 0,.int .i64 0,.snil 6]] false true (H.length+1)]):=fun t=>by
     have h1:=(hF1 t).push' 6 [.agg [.int .i64 0,.int .i64 0,.int .i64 0,.int .i64 0,.int .i64 0,.snil 6]] (k:=H.length+1) (by simp)
     rw[Ke] at h1
     exact h1.strike _ _
    have hzt : ∀ t b,(H.set r (.iter t bQ)++[Blk.row 6 [.agg [.int .i64 5,.int .i64 p.s.lo,.int .i64 p.s.hi,.int .i64 p.s.min,.int .i64 p.s.max,.tsl 6 (p.a.map q04)]] false true H.length,Blk.row 6 [.agg [.int .i64 0,.int .i64 0,.int .i64 0,.int .i64 0,.int .i64 0,.snil 6]] false true (H.length+1)]).set (H.length+1) b=H.set r (.iter t bQ)++[Blk.row 6 [.agg [.int .i64 5,.int .i64 p.s.lo,.int .i64 p.s.hi,.int .i64 p.s.min,.int .i64 p.s.max,.tsl 6 (p.a.map q04)]] false true H.length,b]:=fun t b=>qij (by simp)
    have hst2 : ∀ t u,(H.set r (.iter t bQ)++[Blk.row 6 [.agg [.int .i64 5,.int .i64 p.s.lo,.int .i64 p.s.hi,.int .i64 p.s.min,.int .i64 p.s.max,.tsl 6 (p.a.map q04)]] false true H.length,Blk.row 6 [.agg [.int .i64 x.s.op,.int .i64 x.s.lo,.int .i64 x.s.hi,.int .i64 x.s.min,.int .i64 x.s.max,.tsl 6 (x.a.map q04)]] false true (H.length+1)]).set r (.iter u bQ)=H.set r (.iter u bQ)++[Blk.row 6 [.agg [.int .i64 5,.int .i64 p.s.lo,.int .i64 p.s.hi,.int .i64 p.s.min,.int .i64 p.s.max,.tsl 6 (p.a.map q04)]] false true H.length,Blk.row 6 [.agg [.int .i64 x.s.op,.int .i64 x.s.lo,.int .i64 x.s.hi,.int .i64 x.s.min,.int .i64 x.s.max,.tsl 6 (x.a.map q04)]] false true (H.length+1)]:=fun t u=>by rw[setL (by simpa using hr),VQ]
    have harg : ∀ t,t.length+2 * x.bulk+1≤2^30→q1z CT 628 [.iref r,.agg [.int .i64 x.s.op,.int .i64 x.s.lo,.int .i64 x.s.hi,.int .i64 x.s.min,.int .i64 x.s.max,.tsl 6 (x.a.map q04)],.int .i64 5] (H.set r (.iter t bQ)++[Blk.row 6 [.agg [.int .i64 5,.int .i64 p.s.lo,.int .i64 p.s.hi,.int .i64 p.s.min,.int .i64 p.s.max,.tsl 6 (p.a.map q04)]] false true H.length,Blk.row 6 [.agg [.int .i64 x.s.op,.int .i64 x.s.lo,.int .i64 x.s.hi,.int .i64 x.s.min,.int .i64 x.s.max,.tsl 6 (x.a.map q04)]] false true (H.length+1)]) (.tup []) (H.set r (.iter (t++q2y (q0r d) 5 x) bQ)++[Blk.row 6 [.agg [.int .i64 5,.int .i64 p.s.lo,.int .i64 p.s.hi,.int .i64 p.s.min,.int .i64 p.s.max,.tsl 6 (p.a.map q04)]] false true H.length,Blk.row 6 [.agg [.int .i64 x.s.op,.int .i64 x.s.lo,.int .i64 x.s.hi,.int .i64 x.s.min,.int .i64 x.s.max,.tsl 6 (x.a.map q04)]] false true (H.length+1)]):=fun t ht=>by
     have:=qeh d x (hk x hxm) (by omega) 5 (q4U d x (hk x hxm) (by omega)) _ r t (hF2 t) (by simp; omega) (hg2 t) ht
     rw[hst2,ex] at this
     exact this
    have hcat:=q4d [] (q2y (q0r d) 5) hx
    generalize hJ:q1o [] ((p.a.take k).map (q2y (q0r d) 5))=J at hjl hcat
    have hAl:(s++J).length≤s.length+1+J.length:=by simp<;>omega
    have hsep:=qae (H:=H.set r (.iter (s++J) bQ)++[Blk.row 6 [.agg [.int .i64 5,.int .i64 p.s.lo,.int .i64 p.s.hi,.int .i64 p.s.min,.int .i64 p.s.max,.tsl 6 (p.a.map q04)]] false true H.length,Blk.row 6 [.agg [.int .i64 x.s.op,.int .i64 x.s.lo,.int .i64 x.s.hi,.int .i64 x.s.min,.int .i64 x.s.max,.tsl 6 (x.a.map q04)]] false true (H.length+1)]) [] (hg2 _) (by simp only[List.length_cons,List.length_nil]; omega)
    rw[hst2] at hsep
    have ha0:=harg (s++J) (by omega)
    have ha1:=harg (s++J++[]) (by rw[Kb]; simp only[List.length_cons,List.length_nil]; omega)
    simp (disch:=omega) only[go_sem,Ke] at hsep ha0 ha1
    rw[ex] at hx2
    by_cases hk0:k=0
    ·rw[if_pos hk0] at hcat
     subst hk0
     have hcat2:=congrArg (fun z=>s++z) hcat
     simp (disch:=omega) only[go_sem,Ke] at hcat2
     (repeat' first|simp (disch:=omega) only[go_sem,hx2,Kw,Ka,Ke,Kb,hg,hp,hst,hg2,hp2,hq2,hst2,hz2,hzs,hzt]|(refine q0b _ _ ha0 ?_)|(refine q0b _ _ hsep ?_)|(refine q0b _ _ ha1 ?_)|(apply spl<;>intro h<;>try simp (disch:=omega) only[go_sem,h]))
     refine ⟨1,?_,by omega,by omega⟩
     rw[←hcat2]
     exact q1b (by simp) (hF2 _) rfl (q0T hr (hp2 _) rfl) (by (try rw[q0w rfl]); simp only[Kd,Kl,AV.renN,q0u hr,q0U])
    ·exfalso
     omega
   ·have hfull:p.a.take k=p.a:=Kz (by omega)
    rw[hfull]
    have hjl:=q2n [] (by simp) (q2y (q0r d) 5) p.a fun y hy=>q45 d 5 y (hk y hy)
    have hsep:=qae (H:=H.set r (.iter (s++q1o [] (p.a.map (q2y (q0r d) 5))) bQ)++[Blk.row 6 [.agg [.int .i64 5,.int .i64 p.s.lo,.int .i64 p.s.hi,.int .i64 p.s.min,.int .i64 p.s.max,.tsl 6 (p.a.map q04)]] false true H.length]) (qk3 p.s.min p.s.max) (hg _) (by rw[Kb]; omega)
    rw[hst] at hsep
    simp (disch:=omega) only[go_sem,Ke] at hsep
    (repeat' first|simp (disch:=omega) only[go_sem,Kw,Ka,Ke,hg,hp,hst]|refine q00 _ (bb) ?_|(refine q0b _ _ hsep ?_)|(apply spl<;>intro h<;>try simp (disch:=omega) only[go_sem,h]))
    all_goals first | omega | exact q0Y (.inl rfl) (by simp) (hF1 _) q0X rfl | exact q0Y (.inr rfl) (by simp) (hF1 _) q0X rfl
  ·have ht:q0r (d+1) p=q1o [38] (p.a.map (q2y (q0r d) 3)):=by rw[q0Z]; simp [ho]
   rw[ht]
   simp only[e0,ho] at hF1 hg hp hst ⊢
   (repeat' first|simp (disch:=omega) only[go_sem,q7U,enter,Kw,Ka,hg,hp,hst]|(apply spl<;>intro h<;>try simp (disch:=omega) only[go_sem,h]))
   refine q0a (α:=Nat) (fun k=>{ tmps:=q0i 92 [(0,.iref r),(3,.ptr 6 H.length 0 0),(4,.str [38]),(5,.int .i64 3),(65,.tsl 6 (p.a.map q04)),(66,.int .i64 p.a.length),(67,.int .i64 k)],heap:=H.set r (.iter (s++q1o [38] ((p.a.take k).map (q2y (q0r d) 3))) bQ)++[Blk.row 6 [.agg [.int .i64 6,.int .i64 p.s.lo,.int .i64 p.s.hi,.int .i64 p.s.min,.int .i64 p.s.max,.tsl 6 (p.a.map q04)]] false true H.length],base:=H.length })
    (fun k=>k≤p.a.length) (fun k=>p.a.length-k) 0 (by simp only[VC,Kl,q1o,Kj]; exact q1b (by simp) (hF1 _) rfl (q0T hr (hp _) rfl) (by (try rw[q0w rfl]); simp only[Kd,Kl,AV.renN,q0u hr,q0U])) (Kn _) ?_
   intro k hkl
   by_cases hlt:k<p.a.length
   ·obtain ⟨x,hx⟩:=q08 hlt
    have hxm:=Kc hx
    have hx2:=q0d (g:=q04) hx
    have ex:=q0e x
    have hxb:=L.kids x hxm
    have hbt:=q3C (p.a.map q04) k (q04 x) hx2
    have hxx:x.bulk=(q04 x).bulk:=rfl
    have hjl:=q2n [38] (by simp) (q2y (q0r d) 3) (p.a.take k) fun y hy=>q45 d 3 y (hk y (KB hy))
    rw[show (p.a.take k).map q04=(p.a.map q04).take k from V9 ..] at hjl
    have hF2 : ∀ t,FlatB (H.set r (.iter t bQ)++[Blk.row 6 [.agg [.int .i64 6,.int .i64 p.s.lo,.int .i64 p.s.hi,.int .i64 p.s.min,.int .i64 p.s.max,.tsl 6 (p.a.map q04)]] false true H.length,Blk.row 6 [.agg [.int .i64 x.s.op,.int .i64 x.s.lo,.int .i64 x.s.hi,.int .i64 x.s.min,.int .i64 x.s.max,.tsl 6 (x.a.map q04)]] false true (H.length+1)]):=fun t=>by
     have h1:=hF1 t
     have h2:=h1.push' 6 [q04 x] (k:=H.length+1) (by simp)
     rw[Ke,ex] at h2
     exact h2
    have hg2 : ∀ t,(H.set r (.iter t bQ)++[Blk.row 6 [.agg [.int .i64 6,.int .i64 p.s.lo,.int .i64 p.s.hi,.int .i64 p.s.min,.int .i64 p.s.max,.tsl 6 (p.a.map q04)]] false true H.length,Blk.row 6 [.agg [.int .i64 x.s.op,.int .i64 x.s.lo,.int .i64 x.s.hi,.int .i64 x.s.min,.int .i64 x.s.max,.tsl 6 (x.a.map q04)]] false true (H.length+1)])[r]?=some (.iter t bQ):=fun t=>by rw[q2O (by simpa using hr)]; simp [hr]
    have hp2 : ∀ t,(H.set r (.iter t bQ)++[Blk.row 6 [.agg [.int .i64 6,.int .i64 p.s.lo,.int .i64 p.s.hi,.int .i64 p.s.min,.int .i64 p.s.max,.tsl 6 (p.a.map q04)]] false true H.length,Blk.row 6 [.agg [.int .i64 x.s.op,.int .i64 x.s.lo,.int .i64 x.s.hi,.int .i64 x.s.min,.int .i64 x.s.max,.tsl 6 (x.a.map q04)]] false true (H.length+1)])[H.length]?=some (Blk.row 6 [.agg [.int .i64 6,.int .i64 p.s.lo,.int .i64 p.s.hi,.int .i64 p.s.min,.int .i64 p.s.max,.tsl 6 (p.a.map q04)]] false true H.length):=fun t=>q1S (by simp)
    have hq2 : ∀ t,(H.set r (.iter t bQ)++[Blk.row 6 [.agg [.int .i64 6,.int .i64 p.s.lo,.int .i64 p.s.hi,.int .i64 p.s.min,.int .i64 p.s.max,.tsl 6 (p.a.map q04)]] false true H.length,Blk.row 6 [.agg [.int .i64 x.s.op,.int .i64 x.s.lo,.int .i64 x.s.hi,.int .i64 x.s.min,.int .i64 x.s.max,.tsl 6 (x.a.map q04)]] false true (H.length+1)])[H.length+1]?=some (Blk.row 6 [.agg [.int .i64 x.s.op,.int .i64 x.s.lo,.int .i64 x.s.hi,.int .i64 x.s.min,.int .i64 x.s.max,.tsl 6 (x.a.map q04)]] false true (H.length+1)):=fun t=>q6Q (by simp)
    have hz2 : ∀ t,(H.set r (.iter t bQ)++[Blk.row 6 [.agg [.int .i64 6,.int .i64 p.s.lo,.int .i64 p.s.hi,.int .i64 p.s.min,.int .i64 p.s.max,.tsl 6 (p.a.map q04)]] false true H.length,Blk.row 6 [.agg [.int .i64 0,.int .i64 0,.int .i64 0,.int .i64 0,.int .i64 0,.snil 6]] false true (H.length+1)])[H.length+1]?=some (Blk.row 6 [.agg [.int .i64 0,.int .i64 0,.int .i64 0,.int .i64 0,.int .i64 0,.snil 6]] false true (H.length+1)):=fun t=>q6Q (by simp)
    have hzs : ∀ t,q0D (H.length+1) (H.length+1) 0 (H.set r (.iter t bQ)++[Blk.row 6 [.agg [.int .i64 6,.int .i64 p.s.lo,.int .i64 p.s.hi,.int .i64 p.s.min,.int .i64 p.s.max,.tsl 6 (p.a.map q04)]] false true H.length,Blk.row 6 [.agg [.int .i64 0,.int .i64 0,.int .i64 0,.int .i64 0,.int .i64 0,.snil 6]] false true (H.length+1)]) 0=some (H.set r (.iter t bQ)++[Blk.row 6 [.agg [.int .i64 6,.int .i64 p.s.lo,.int .i64 p.s.hi,.int .i64 p.s.min,.int .i64 p.s.max,.tsl 6 (p.a.map q04)]] false true H.length,Blk.row 6 [.agg [.int .i64 0,.int .i64 0,.int .i64 0,.int .i64 0,.int .i64 0,.snil 6]] false true (H.length+1)]):=fun t=>by
     have h1:=(hF1 t).push' 6 [.agg [.int .i64 0,.int .i64 0,.int .i64 0,.int .i64 0,.int .i64 0,.snil 6]] (k:=H.length+1) (by simp)
     rw[Ke] at h1
     exact h1.strike _ _
    have hzt : ∀ t b,(H.set r (.iter t bQ)++[Blk.row 6 [.agg [.int .i64 6,.int .i64 p.s.lo,.int .i64 p.s.hi,.int .i64 p.s.min,.int .i64 p.s.max,.tsl 6 (p.a.map q04)]] false true H.length,Blk.row 6 [.agg [.int .i64 0,.int .i64 0,.int .i64 0,.int .i64 0,.int .i64 0,.snil 6]] false true (H.length+1)]).set (H.length+1) b=H.set r (.iter t bQ)++[Blk.row 6 [.agg [.int .i64 6,.int .i64 p.s.lo,.int .i64 p.s.hi,.int .i64 p.s.min,.int .i64 p.s.max,.tsl 6 (p.a.map q04)]] false true H.length,b]:=fun t b=>qij (by simp)
    have hst2 : ∀ t u,(H.set r (.iter t bQ)++[Blk.row 6 [.agg [.int .i64 6,.int .i64 p.s.lo,.int .i64 p.s.hi,.int .i64 p.s.min,.int .i64 p.s.max,.tsl 6 (p.a.map q04)]] false true H.length,Blk.row 6 [.agg [.int .i64 x.s.op,.int .i64 x.s.lo,.int .i64 x.s.hi,.int .i64 x.s.min,.int .i64 x.s.max,.tsl 6 (x.a.map q04)]] false true (H.length+1)]).set r (.iter u bQ)=H.set r (.iter u bQ)++[Blk.row 6 [.agg [.int .i64 6,.int .i64 p.s.lo,.int .i64 p.s.hi,.int .i64 p.s.min,.int .i64 p.s.max,.tsl 6 (p.a.map q04)]] false true H.length,Blk.row 6 [.agg [.int .i64 x.s.op,.int .i64 x.s.lo,.int .i64 x.s.hi,.int .i64 x.s.min,.int .i64 x.s.max,.tsl 6 (x.a.map q04)]] false true (H.length+1)]:=fun t u=>by rw[setL (by simpa using hr),VQ]
    have harg : ∀ t,t.length+2 * x.bulk+1≤2^30→q1z CT 628 [.iref r,.agg [.int .i64 x.s.op,.int .i64 x.s.lo,.int .i64 x.s.hi,.int .i64 x.s.min,.int .i64 x.s.max,.tsl 6 (x.a.map q04)],.int .i64 3] (H.set r (.iter t bQ)++[Blk.row 6 [.agg [.int .i64 6,.int .i64 p.s.lo,.int .i64 p.s.hi,.int .i64 p.s.min,.int .i64 p.s.max,.tsl 6 (p.a.map q04)]] false true H.length,Blk.row 6 [.agg [.int .i64 x.s.op,.int .i64 x.s.lo,.int .i64 x.s.hi,.int .i64 x.s.min,.int .i64 x.s.max,.tsl 6 (x.a.map q04)]] false true (H.length+1)]) (.tup []) (H.set r (.iter (t++q2y (q0r d) 3 x) bQ)++[Blk.row 6 [.agg [.int .i64 6,.int .i64 p.s.lo,.int .i64 p.s.hi,.int .i64 p.s.min,.int .i64 p.s.max,.tsl 6 (p.a.map q04)]] false true H.length,Blk.row 6 [.agg [.int .i64 x.s.op,.int .i64 x.s.lo,.int .i64 x.s.hi,.int .i64 x.s.min,.int .i64 x.s.max,.tsl 6 (x.a.map q04)]] false true (H.length+1)]):=fun t ht=>by
     have:=qeh d x (hk x hxm) (by omega) 3 (q4U d x (hk x hxm) (by omega)) _ r t (hF2 t) (by simp; omega) (hg2 t) ht
     rw[hst2,ex] at this
     exact this
    have hcat:=q4d [38] (q2y (q0r d) 3) hx
    generalize hJ:q1o [38] ((p.a.take k).map (q2y (q0r d) 3))=J at hjl hcat
    have hAl:(s++J).length≤s.length+1+J.length:=by simp<;>omega
    have hsep:=qae (H:=H.set r (.iter (s++J) bQ)++[Blk.row 6 [.agg [.int .i64 6,.int .i64 p.s.lo,.int .i64 p.s.hi,.int .i64 p.s.min,.int .i64 p.s.max,.tsl 6 (p.a.map q04)]] false true H.length,Blk.row 6 [.agg [.int .i64 x.s.op,.int .i64 x.s.lo,.int .i64 x.s.hi,.int .i64 x.s.min,.int .i64 x.s.max,.tsl 6 (x.a.map q04)]] false true (H.length+1)]) [38] (hg2 _) (by simp only[List.length_cons,List.length_nil]; omega)
    rw[hst2] at hsep
    have ha0:=harg (s++J) (by omega)
    have ha1:=harg (s++J++[38]) (by rw[Kb]; simp only[List.length_cons,List.length_nil]; omega)
    simp (disch:=omega) only[go_sem,Ke] at hsep ha0 ha1
    rw[ex] at hx2
    by_cases hk0:k=0
    ·rw[if_pos hk0] at hcat
     subst hk0
     have hcat2:=congrArg (fun z=>s++z) hcat
     simp (disch:=omega) only[go_sem,Ke] at hcat2
     (repeat' first|simp (disch:=omega) only[go_sem,hx2,Kw,Ka,Ke,Kb,hg,hp,hst,hg2,hp2,hq2,hst2,hz2,hzs,hzt]|(refine q0b _ _ ha0 ?_)|(refine q0b _ _ hsep ?_)|(refine q0b _ _ ha1 ?_)|(apply spl<;>intro h<;>try simp (disch:=omega) only[go_sem,h]))
     refine ⟨1,?_,by omega,by omega⟩
     rw[←hcat2]
     exact q1b (by simp) (hF2 _) rfl (q0T hr (hp2 _) rfl) (by (try rw[q0w rfl]); simp only[Kd,Kl,AV.renN,q0u hr,q0U])
    ·rw[if_neg hk0] at hcat
     have hcat2:=congrArg (fun z=>s++z) hcat
     simp (disch:=omega) only[go_sem,Ke] at hcat2
     (repeat' first|simp (disch:=omega) only[go_sem,hx2,hk0,Kw,Ka,Ke,Kb,hg,hp,hst,hg2,hp2,hq2,hst2,hz2,hzs,hzt]|(refine q0b _ _ ha0 ?_)|(refine q0b _ _ hsep ?_)|(refine q0b _ _ ha1 ?_)|(apply spl<;>intro h<;>try simp (disch:=omega) only[go_sem,h]))
     refine ⟨k+1,?_,by omega,by omega⟩
     rw[←hcat2]
     exact q1b (by simp) (hF2 _) rfl (q0T hr (hp2 _) rfl) (by (try rw[q0w rfl]); simp only[Kd,Kl,AV.renN,q0u hr,q0U])
   ·have hfull:p.a.take k=p.a:=Kz (by omega)
    rw[hfull]
    (repeat' first|simp (disch:=omega) only[go_sem,Kw,Ka,hg,hp,hst]|(apply spl<;>intro h<;>try simp (disch:=omega) only[go_sem,h]))
    all_goals first | omega | exact q0Y (.inl rfl) (by simp) (hF1 _) q0X rfl | exact q0Y (.inr rfl) (by simp) (hF1 _) q0X rfl
  ·have ht:q0r (d+1) p=33::q1o [] (p.a.map (q2y (q0r d) 4)):=by rw[q0Z]; simp [ho]
   rw[ht]
   have w1:=wb 33 (by decide) (by decide)
   rw[show UInt8.ofNat (33:Int).toNat=33 from rfl] at w1
   simp only[e0,ho] at hF1 hg hp hst w1 ⊢
   (repeat' first|simp (disch:=omega) only[go_sem,q7U,enter,Kw,Ka,hg,hp,hst]|(refine q0b _ _ w1 ?_)|(apply spl<;>intro h<;>try simp (disch:=omega) only[go_sem,h]))
   refine q0a (α:=Nat) (fun k=>{ tmps:=q0i 92 [(0,.iref r),(3,.ptr 6 H.length 0 0),(4,.str []),(5,.int .i64 4),(65,.tsl 6 (p.a.map q04)),(66,.int .i64 p.a.length),(67,.int .i64 k)],heap:=H.set r (.iter (s++33::q1o [] ((p.a.take k).map (q2y (q0r d) 4))) bQ)++[Blk.row 6 [.agg [.int .i64 7,.int .i64 p.s.lo,.int .i64 p.s.hi,.int .i64 p.s.min,.int .i64 p.s.max,.tsl 6 (p.a.map q04)]] false true H.length],base:=H.length })
    (fun k=>k≤p.a.length) (fun k=>p.a.length-k) 0 (by simp only[VC,Kl,q1o,Kj]; exact q1b (by simp) (hF1 _) rfl (q0T hr (hp _) rfl) (by (try rw[q0w rfl]); simp only[Kd,Kl,AV.renN,q0u hr,q0U])) (Kn _) ?_
   intro k hkl
   by_cases hlt:k<p.a.length
   ·obtain ⟨x,hx⟩:=q08 hlt
    have hxm:=Kc hx
    have hx2:=q0d (g:=q04) hx
    have ex:=q0e x
    have hxb:=L.kids x hxm
    have hbt:=q3C (p.a.map q04) k (q04 x) hx2
    have hxx:x.bulk=(q04 x).bulk:=rfl
    have hjl:=q2n [] (by simp) (q2y (q0r d) 4) (p.a.take k) fun y hy=>q45 d 4 y (hk y (KB hy))
    rw[show (p.a.take k).map q04=(p.a.map q04).take k from V9 ..] at hjl
    have hF2 : ∀ t,FlatB (H.set r (.iter t bQ)++[Blk.row 6 [.agg [.int .i64 7,.int .i64 p.s.lo,.int .i64 p.s.hi,.int .i64 p.s.min,.int .i64 p.s.max,.tsl 6 (p.a.map q04)]] false true H.length,Blk.row 6 [.agg [.int .i64 x.s.op,.int .i64 x.s.lo,.int .i64 x.s.hi,.int .i64 x.s.min,.int .i64 x.s.max,.tsl 6 (x.a.map q04)]] false true (H.length+1)]):=fun t=>by
     have h1:=hF1 t
     have h2:=h1.push' 6 [q04 x] (k:=H.length+1) (by simp)
     rw[Ke,ex] at h2
     exact h2
    have hg2 : ∀ t,(H.set r (.iter t bQ)++[Blk.row 6 [.agg [.int .i64 7,.int .i64 p.s.lo,.int .i64 p.s.hi,.int .i64 p.s.min,.int .i64 p.s.max,.tsl 6 (p.a.map q04)]] false true H.length,Blk.row 6 [.agg [.int .i64 x.s.op,.int .i64 x.s.lo,.int .i64 x.s.hi,.int .i64 x.s.min,.int .i64 x.s.max,.tsl 6 (x.a.map q04)]] false true (H.length+1)])[r]?=some (.iter t bQ):=fun t=>by rw[q2O (by simpa using hr)]; simp [hr]
    have hp2 : ∀ t,(H.set r (.iter t bQ)++[Blk.row 6 [.agg [.int .i64 7,.int .i64 p.s.lo,.int .i64 p.s.hi,.int .i64 p.s.min,.int .i64 p.s.max,.tsl 6 (p.a.map q04)]] false true H.length,Blk.row 6 [.agg [.int .i64 x.s.op,.int .i64 x.s.lo,.int .i64 x.s.hi,.int .i64 x.s.min,.int .i64 x.s.max,.tsl 6 (x.a.map q04)]] false true (H.length+1)])[H.length]?=some (Blk.row 6 [.agg [.int .i64 7,.int .i64 p.s.lo,.int .i64 p.s.hi,.int .i64 p.s.min,.int .i64 p.s.max,.tsl 6 (p.a.map q04)]] false true H.length):=fun t=>q1S (by simp)
    have hq2 : ∀ t,(H.set r (.iter t bQ)++[Blk.row 6 [.agg [.int .i64 7,.int .i64 p.s.lo,.int .i64 p.s.hi,.int .i64 p.s.min,.int .i64 p.s.max,.tsl 6 (p.a.map q04)]] false true H.length,Blk.row 6 [.agg [.int .i64 x.s.op,.int .i64 x.s.lo,.int .i64 x.s.hi,.int .i64 x.s.min,.int .i64 x.s.max,.tsl 6 (x.a.map q04)]] false true (H.length+1)])[H.length+1]?=some (Blk.row 6 [.agg [.int .i64 x.s.op,.int .i64 x.s.lo,.int .i64 x.s.hi,.int .i64 x.s.min,.int .i64 x.s.max,.tsl 6 (x.a.map q04)]] false true (H.length+1)):=fun t=>q6Q (by simp)
    have hz2 : ∀ t,(H.set r (.iter t bQ)++[Blk.row 6 [.agg [.int .i64 7,.int .i64 p.s.lo,.int .i64 p.s.hi,.int .i64 p.s.min,.int .i64 p.s.max,.tsl 6 (p.a.map q04)]] false true H.length,Blk.row 6 [.agg [.int .i64 0,.int .i64 0,.int .i64 0,.int .i64 0,.int .i64 0,.snil 6]] false true (H.length+1)])[H.length+1]?=some (Blk.row 6 [.agg [.int .i64 0,.int .i64 0,.int .i64 0,.int .i64 0,.int .i64 0,.snil 6]] false true (H.length+1)):=fun t=>q6Q (by simp)
    have hzs : ∀ t,q0D (H.length+1) (H.length+1) 0 (H.set r (.iter t bQ)++[Blk.row 6 [.agg [.int .i64 7,.int .i64 p.s.lo,.int .i64 p.s.hi,.int .i64 p.s.min,.int .i64 p.s.max,.tsl 6 (p.a.map q04)]] false true H.length,Blk.row 6 [.agg [.int .i64 0,.int .i64 0,.int .i64 0,.int .i64 0,.int .i64 0,.snil 6]] false true (H.length+1)]) 0=some (H.set r (.iter t bQ)++[Blk.row 6 [.agg [.int .i64 7,.int .i64 p.s.lo,.int .i64 p.s.hi,.int .i64 p.s.min,.int .i64 p.s.max,.tsl 6 (p.a.map q04)]] false true H.length,Blk.row 6 [.agg [.int .i64 0,.int .i64 0,.int .i64 0,.int .i64 0,.int .i64 0,.snil 6]] false true (H.length+1)]):=fun t=>by
     have h1:=(hF1 t).push' 6 [.agg [.int .i64 0,.int .i64 0,.int .i64 0,.int .i64 0,.int .i64 0,.snil 6]] (k:=H.length+1) (by simp)
     rw[Ke] at h1
     exact h1.strike _ _
    have hzt : ∀ t b,(H.set r (.iter t bQ)++[Blk.row 6 [.agg [.int .i64 7,.int .i64 p.s.lo,.int .i64 p.s.hi,.int .i64 p.s.min,.int .i64 p.s.max,.tsl 6 (p.a.map q04)]] false true H.length,Blk.row 6 [.agg [.int .i64 0,.int .i64 0,.int .i64 0,.int .i64 0,.int .i64 0,.snil 6]] false true (H.length+1)]).set (H.length+1) b=H.set r (.iter t bQ)++[Blk.row 6 [.agg [.int .i64 7,.int .i64 p.s.lo,.int .i64 p.s.hi,.int .i64 p.s.min,.int .i64 p.s.max,.tsl 6 (p.a.map q04)]] false true H.length,b]:=fun t b=>qij (by simp)
    have hst2 : ∀ t u,(H.set r (.iter t bQ)++[Blk.row 6 [.agg [.int .i64 7,.int .i64 p.s.lo,.int .i64 p.s.hi,.int .i64 p.s.min,.int .i64 p.s.max,.tsl 6 (p.a.map q04)]] false true H.length,Blk.row 6 [.agg [.int .i64 x.s.op,.int .i64 x.s.lo,.int .i64 x.s.hi,.int .i64 x.s.min,.int .i64 x.s.max,.tsl 6 (x.a.map q04)]] false true (H.length+1)]).set r (.iter u bQ)=H.set r (.iter u bQ)++[Blk.row 6 [.agg [.int .i64 7,.int .i64 p.s.lo,.int .i64 p.s.hi,.int .i64 p.s.min,.int .i64 p.s.max,.tsl 6 (p.a.map q04)]] false true H.length,Blk.row 6 [.agg [.int .i64 x.s.op,.int .i64 x.s.lo,.int .i64 x.s.hi,.int .i64 x.s.min,.int .i64 x.s.max,.tsl 6 (x.a.map q04)]] false true (H.length+1)]:=fun t u=>by rw[setL (by simpa using hr),VQ]
    have harg : ∀ t,t.length+2 * x.bulk+1≤2^30→q1z CT 628 [.iref r,.agg [.int .i64 x.s.op,.int .i64 x.s.lo,.int .i64 x.s.hi,.int .i64 x.s.min,.int .i64 x.s.max,.tsl 6 (x.a.map q04)],.int .i64 4] (H.set r (.iter t bQ)++[Blk.row 6 [.agg [.int .i64 7,.int .i64 p.s.lo,.int .i64 p.s.hi,.int .i64 p.s.min,.int .i64 p.s.max,.tsl 6 (p.a.map q04)]] false true H.length,Blk.row 6 [.agg [.int .i64 x.s.op,.int .i64 x.s.lo,.int .i64 x.s.hi,.int .i64 x.s.min,.int .i64 x.s.max,.tsl 6 (x.a.map q04)]] false true (H.length+1)]) (.tup []) (H.set r (.iter (t++q2y (q0r d) 4 x) bQ)++[Blk.row 6 [.agg [.int .i64 7,.int .i64 p.s.lo,.int .i64 p.s.hi,.int .i64 p.s.min,.int .i64 p.s.max,.tsl 6 (p.a.map q04)]] false true H.length,Blk.row 6 [.agg [.int .i64 x.s.op,.int .i64 x.s.lo,.int .i64 x.s.hi,.int .i64 x.s.min,.int .i64 x.s.max,.tsl 6 (x.a.map q04)]] false true (H.length+1)]):=fun t ht=>by
     have:=qeh d x (hk x hxm) (by omega) 4 (q4U d x (hk x hxm) (by omega)) _ r t (hF2 t) (by simp; omega) (hg2 t) ht
     rw[hst2,ex] at this
     exact this
    have hcat:=q4d [] (q2y (q0r d) 4) hx
    generalize hJ:q1o [] ((p.a.take k).map (q2y (q0r d) 4))=J at hjl hcat
    have hAl:(s++33::J).length≤s.length+1+J.length:=by simp<;>omega
    have hsep:=qae (H:=H.set r (.iter (s++33::J) bQ)++[Blk.row 6 [.agg [.int .i64 7,.int .i64 p.s.lo,.int .i64 p.s.hi,.int .i64 p.s.min,.int .i64 p.s.max,.tsl 6 (p.a.map q04)]] false true H.length,Blk.row 6 [.agg [.int .i64 x.s.op,.int .i64 x.s.lo,.int .i64 x.s.hi,.int .i64 x.s.min,.int .i64 x.s.max,.tsl 6 (x.a.map q04)]] false true (H.length+1)]) [] (hg2 _) (by simp only[List.length_cons,List.length_nil]; omega)
    rw[hst2] at hsep
    have ha0:=harg (s++33::J) (by omega)
    have ha1:=harg (s++33::J++[]) (by rw[Kb]; simp only[List.length_cons,List.length_nil]; omega)
    simp (disch:=omega) only[go_sem,Ke] at hsep ha0 ha1
    rw[ex] at hx2
    by_cases hk0:k=0
    ·rw[if_pos hk0] at hcat
     subst hk0
     have hcat2:=congrArg (fun z=>s++33::z) hcat
     simp (disch:=omega) only[go_sem,Ke] at hcat2
     (repeat' first|simp (disch:=omega) only[go_sem,hx2,Kw,Ka,Ke,Kb,hg,hp,hst,hg2,hp2,hq2,hst2,hz2,hzs,hzt]|(refine q0b _ _ ha0 ?_)|(refine q0b _ _ hsep ?_)|(refine q0b _ _ ha1 ?_)|(apply spl<;>intro h<;>try simp (disch:=omega) only[go_sem,h]))
     refine ⟨1,?_,by omega,by omega⟩
     rw[←hcat2]
     exact q1b (by simp) (hF2 _) rfl (q0T hr (hp2 _) rfl) (by (try rw[q0w rfl]); simp only[Kd,Kl,AV.renN,q0u hr,q0U])
    ·rw[if_neg hk0] at hcat
     have hcat2:=congrArg (fun z=>s++33::z) hcat
     simp (disch:=omega) only[go_sem,Ke] at hcat2
     (repeat' first|simp (disch:=omega) only[go_sem,hx2,hk0,Kw,Ka,Ke,Kb,hg,hp,hst,hg2,hp2,hq2,hst2,hz2,hzs,hzt]|(refine q0b _ _ ha0 ?_)|(refine q0b _ _ hsep ?_)|(refine q0b _ _ ha1 ?_)|(apply spl<;>intro h<;>try simp (disch:=omega) only[go_sem,h]))
     refine ⟨k+1,?_,by omega,by omega⟩
     rw[←hcat2]
     exact q1b (by simp) (hF2 _) rfl (q0T hr (hp2 _) rfl) (by (try rw[q0w rfl]); simp only[Kd,Kl,AV.renN,q0u hr,q0U])
   ·have hfull:p.a.take k=p.a:=Kz (by omega)
    rw[hfull]
    (repeat' first|simp (disch:=omega) only[go_sem,Kw,Ka,hg,hp,hst]|(apply spl<;>intro h<;>try simp (disch:=omega) only[go_sem,h]))
    all_goals first | omega | exact q0Y (.inl rfl) (by simp) (hF1 _) q0X rfl | exact q0Y (.inr rfl) (by simp) (hF1 _) q0X rfl

theorem qjf (p:Pat) (hb:p.bulk≤2^24):q0m CT 574 [q04 p] (.str (if q7e p then q0r 48 p else [])):=by
 refine q05 qjL rfl ?_
 have hv:=upT (q8V p hb)
 have e0:=q0e p
 cases ho:q7e p with
 | false=>
  rw[ho] at hv
  rw[e0] at hv ⊢
  (repeat' first|simp (disch:=omega) only[go_sem,qjL,enter]|refine q00 _ (hv) ?_)
  all_goals first | omega | rfl
 | true=>
  rw[ho] at hv
  have hn:q1a 48 p=true:=by
   unfold q7e at ho
   rw[Kk] at ho
   exact ho.1
  have hne:=qh9 48 p hn
  have hF:FlatB [.row 6 [q04 p] false true 0,.iter [] bQ]:=fun j b hj=>by
   match j,hj with
   | 0,hj=>cases hj; exact .inl ⟨_,_,rfl⟩
   | 1,hj=>cases hj; exact .inr ⟨_,_,rfl⟩
   | j+2,hj=>simp at hj
  have w1:=q4U 48 p hn hb [.row 6 [q04 p] false true 0,.iter [] bQ] 1 [] hF (by simp) rfl (by simp; omega)
  have w2:=qt0 (H:=[.row 6 [q04 p] false true 0,.iter (q0r 48 p) bQ]) (r:=1) rfl hne
  simp only[List.set,Kh] at w1 w2
  rw[e0] at hv w1 w2 ⊢
  rw[if_pos rfl]
  (repeat' first|simp (disch:=omega) only[go_sem,qjL,enter,bQ,qkN]|refine q00 _ (hv) ?_|(refine q0b _ _ w1 ?_)|(refine q0b _ _ w2 ?_))
  all_goals first | omega | rfl
end Ago
