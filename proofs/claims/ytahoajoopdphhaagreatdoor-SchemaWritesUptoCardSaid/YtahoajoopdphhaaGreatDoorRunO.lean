/- Schemas as values: the model,its bulk,and that a copy leaves it. -/
import Derived.Test.YtahoajoopdphhaaGreatDoorRunN
import Derived.Test.YtahoajoopdphhaaGreatDoorRunH
set_option linter.unusedSimpArgs false
set_option linter.unusedVariables false
set_option maxRecDepth 100000
set_option maxHeartbeats 4000000
namespace Ago
open Go (IntKind)
def qbb:Nat→List UInt8
 | 0=>[110,117,108,108]
 | 1=>[98,111,111,108]
 | 2=>[110,117,109,98,101,114]
 | 3=>[116,105,109,101]
 | 4=>[115,116,114,105,110,103]
 | 5=>[98,105,110,97,114,121]
 | 6=>[108,105,115,116]
 | _=>[109,97,112]
def q2W (m:Int) (k:Nat):List V:=(List.range k).flatMap fun (j:Nat)=>if qoA m (j:Int) then [q1v (qbb j)] else []
theorem q4W (m:Int) (k:Nat):q2W m (k+1)=q2W m k++(if qoA m (k:Int) then [q1v (qbb k)] else []):=by
 unfold q2W
 rw[List.range_succ,List.flatMap_append]
 simp
def q1V (f:Sch→V) (p:PK × Sch):V:=q0A [q1v p.1.key,q6n p.1.req,f p.2]
def q10 (f:Sch→V) (x:Sch):V:=
 if x.s.op=1 then q6n true
 else if x.s.op=2 then q6n false
 else if x.s.op=3 then q0x [107,105,110,100,115] (q0A (q2W x.s.mask 8))
 else if x.s.op=4 then q0x [110,117,109,98,101,114] (q0A (x.s.parts.map q23))
 else if x.s.op=5 then q0x [116,101,120,116] (q0A [q5t (q5p x.s.min.toNat),q2j x.s.max])
 else if x.s.op=6 then q0x [109,97,116,99,104] (q1v (q0r 48 x.s.pat))
 else if x.s.op=7 then q0x [102,111,114,109,97,116] (q1v x.s.name)
 else if x.s.op=8 then q0x [118,97,108,117,101,115] (q0A x.s.vals)
 else if x.s.op=9 then q0x [108,105,115,116] (q0A ([q5t (q5p x.s.min.toNat),q2j x.s.max]++x.a.map f))
 else if x.s.op=10 then q0x [109,97,112] (q0A (q0A (x.p.map (q1V f))::x.a.map f))
 else if x.s.op=11 then q0x [97,108,108] (q0A (x.a.map f))
 else if x.s.op=12 then q0x [97,110,121] (q0A (x.a.map f))
 else if x.s.op=13 then q0x [110,111,116] ((x.a.map f).getD 0 qb5)
 else q0x [114,101,102] (q1v x.s.name)
def wrM:Nat→Sch→V
 | 0,_=>qb5
 | d+1,x=>q10 (wrM d) x
def WrS:Nat→Sch→Prop
 | 0,_=>False
 | d+1,x=>q18 x=true∧∀ y,y∈x.kids→WrS d y
theorem qql (s:Schs) : ∀ (d:Nat) (x:Sch),q0W s d x=0→q2I d x=false→WrS d x
 | 0,x,_,h2=>by rw[q8f] at h2; cases h2
 | d+1,x,h1,h2=>by
  rw[q70] at h1
  rw[q8a] at h2
  have hn:q8r s x=0:=by
   by_cases hn:q8r s x=0
   ·exact hn
   ·rw[if_neg hn] at h1
    exact h1
  rw[if_pos hn] at h1
  refine ⟨?_,fun y hy=>qql s d y (qc7 h1 y hy) ?_⟩
  ·cases hb:q18 x with
   | true=>rfl
   | false=>
    unfold q8r at hn
    rw[if_pos hb] at hn
    cases hn
  ·have:=List.any_eq_false.1 h2 y hy
   simpa using this
theorem qlT {v:V} (h:q6m v=true):v.l=[]∧v.f=[]:=by
 have hc:=qmP h
 unfold q6m at h
 rw[Kk] at h
 obtain ⟨h1,h2⟩:=h
 have h1:=of_decide_eq_true h1
 have h2:=of_decide_eq_true h2
 have ho:ownM v=true:=by
  cases hb:ownM v with
  | true=>rfl
  | false=>
   exfalso
   have h3:qbi v=6:=by unfold qbi; rw[if_pos hb]
   have h4:q2d 49 v 1 0=(0,6):=by
    show (if (48:Int)<1 then _ else if (65536:Int)≤0 then _ else if qbi v≠0 then ((0:Int),qbi v) else _)=_
    rw[if_neg (by decide),if_neg (by decide),if_pos (by rw[h3]; decide),h3]
   unfold q42 at h2
   rw[h4] at h2
   cases h2
 unfold ownM at ho
 simp only[Kk,K6,beq_iff_eq,decide_eq_true_eq] at ho
 refine ⟨?_,?_⟩
 ·rcases ho.1.2 with h | h
  ·omega
  ·exact VO.1 (by omega)
 ·rcases ho.2 with h | h
  ·omega
  ·exact VO.1 (by omega)
theorem prB (x:PK × Sch):(q1k x).bulk=x.2.bulk+x.1.key.length+2:=by
 unfold Sch.bulk q1k
 rw[q02]
 simp [AV.bulk,AV.bulks,AV.cells]
 omega
theorem qpb {x:Sch} (h:q18 x=true):1≤x.s.op∧x.s.op≤14:=by
 unfold q18 at h
 rw[Kk,Kk] at h
 exact of_decide_eq_true h.1.1
theorem q32 {x:Sch} (h:q18 x=true):(x.s.op=9∨x.s.op=10∨x.s.op=13)→x.a.length=1:=by
 unfold q18 q2f at h
 simp only[Kk,decide_eq_true_eq] at h
 have:=h.1.2.1.1.2.2.2.2.2
 omega
theorem q56 {x:Sch} (h:q18 x=true) (ho:x.s.op=5∨x.s.op=9):0≤x.s.min∧x.s.min≤65536∧(x.s.max = -1∨x.s.min≤x.s.max∧x.s.max≤65536):=by
 unfold q18 at h
 rw[Kk] at h
 have h:=h.2
 rcases ho with ho | ho
 ·rw[if_neg (by omega),if_neg (by omega),if_pos ho] at h
  exact of_decide_eq_true h
 ·rw[if_neg (by omega),if_neg (by omega),if_neg (by omega),if_neg (by omega),if_neg (by omega),if_pos ho] at h
  exact of_decide_eq_true h
theorem qca {x:Sch} (h:q18 x=true) (ho:x.s.op=6):q7e x.s.pat=true:=by
 unfold q18 at h
 rw[Kk] at h
 have h:=h.2
 rw[if_neg (by omega),if_neg (by omega),if_neg (by omega),if_pos ho] at h
 exact h
theorem q9C {x:Sch} (h:q18 x=true) (ho:x.s.op=8) : ∀ v,v∈x.s.vals→v.l=[]∧v.f=[]:=by
 unfold q18 at h
 rw[Kk] at h
 have h:=h.2
 rw[if_neg (by omega),if_neg (by omega),if_neg (by omega),if_neg (by omega),if_pos ho,Kk,Kp] at h
 intro v hv
 exact qlT (h.1 v hv)
theorem q8q (b:Bool):(q6n b).bulk=14:=by rw[V.bulk_eq]; rfl
theorem q9u:(qb5).bulk=14:=by rw[V.bulk_eq]; rfl
theorem q3G (s:List UInt8):(q1v s).bulk=s.length+14:=by
 rw[V.bulk_eq]
 simp [q1v,V.s,V.l,V.f,q4O,AV.bulks]
theorem q5R (d:Dec):(q5t d).bulk=d.digits.length+14:=by
 rw[V.bulk_eq]
 simp [q5t,V.s,V.l,V.f,q4O,AV.bulks]
theorem q1y (l:List V):(q0A l).bulk=AV.bulks (l.map q0g)+14:=by
 rw[V.bulk_eq]
 simp [q0A,V.s,V.l,V.f,q4O,AV.bulks]
theorem q3O (x:List UInt8 × V):(q0J x).bulk=x.1.length+x.2.bulk+1:=by
 rw[V.bulk_eq,q17]
 simp [AV.bulk,AV.bulks]
 omega
theorem q7F (f:List (List UInt8 × V)):(qlN f).bulk=AV.bulks (f.map q0J)+14:=by
 rw[V.bulk_eq]
 simp [qlN,V.s,V.l,V.f,q4O,AV.bulks]
theorem q14 (k:List UInt8) (v:V):(q0x k v).bulk=k.length+v.bulk+15:=by
 unfold q0x
 rw[q7F,Kd,Kl]
 have h:=q3O (k,v)
 simp only[AV.bulks]
 dsimp only at h
 omega
theorem q1r (x:V) (l:List V):AV.bulks ((x::l).map q0g)=x.bulk+AV.bulks (l.map q0g):=rfl
theorem qli (k:Nat):(qbb k).length≤6:=by
 unfold qbb
 split<;>simp
theorem qbs (m:Int) : ∀ k,AV.bulks ((q2W m k).map q0g)≤20 * k
 | 0=>by simp [q2W,AV.bulks]
 | k+1=>by
  have:=qbs m k
  rw[q4W,Va,q2k]
  split
  ·rw[q1r,q3G]
   have:=qli k
   simp [AV.bulks]
   omega
  ·simp [AV.bulks]
   omega
theorem qj3 (p:Prt):(q23 p).bulk≤7 * (q0p p).bulk:=by
 unfold q23
 rw[q7F,qal,Va,Va,q2k,q2k]
 have h1 : ∀ (b:Bnd) (c o:List UInt8),c.length≤5→o.length≤5→AV.bulks ((qoZ b c o).map q0J)≤b.num.digits.length+20:=fun b c o hc ho=>by
  unfold qoZ
  split
  ·have h1:=q3O (if b.opn then o else c,q5t b.num)
   have h2:=q5R b.num
   simp only[Kd,Kl,AV.bulks]
   dsimp only at h1
   have h3:(if b.opn=true then o else c).length≤5:=by split<;>assumption
   omega
  ·simp [AV.bulks]
 have h2:AV.bulks ((qrq p.sort).map q0J)≤27:=by
  unfold qrq
  have a:=q3O ([115,111,114,116],q1v [119,104,111,108,101])
  have b:=q3O ([115,111,114,116],q1v [102,114,97,99,116,105,111,110])
  have c:=q3G [119,104,111,108,101]
  have d:=q3G [102,114,97,99,116,105,111,110]
  dsimp only[List.length_cons,List.length_nil] at a b c d
  repeat' split
  all_goals simp only[Kd,Kl,AV.bulks]
  all_goals omega
 have:=h1 p.lo [102,114,111,109] [97,98,111,118,101] (by simp) (by simp)
 have:=h1 p.hi [116,111] [98,101,108,111,119] (by simp) (by simp)
 omega
theorem q7g {n:Nat} (hn:n≤65536):(q5p n).digits.length≤18:=by
 have:=q9g hn
 unfold q5p qiZ
 split
 ·simp
 ·simp only[KI]
  omega
theorem q67 (n:Int) (h:n = -1∨0≤n∧n≤65536):(q2j n).bulk≤32:=by
 unfold q2j
 split
 ·rw[q9u]; omega
 ·rw[q5R]
  have:=q7g (n:=n.toNat) (by omega)
  omega
theorem q4E {α:Type} {f:α→V} {g:α→AV} {c e:Nat} : ∀ {l:List α},(∀ x,x∈l→(f x).bulk+e≤c * (g x).bulk)→AV.bulks ((l.map f).map q0g)+e * l.length≤c * AV.bulks (l.map g)
 | [],_=>by simp [AV.bulks]
 | x::l,h=>by
  have ih:=q4E (f:=f) (g:=g) (l:=l) fun y hy=>h y (Kt _ hy)
  have hx:=h x (Ku ..)
  rw[Kd,q1r,Kd,AV.bulks,Nat.mul_add,List.length_cons,Nat.mul_succ]
  omega
theorem q9x : ∀ (d:Nat) (x:Sch),WrS d x→(wrM d x).bulk+30≤16 * x.bulk
 | 0,x,h=>h.elim
 | d+1,x,h=>by
  obtain ⟨hf,hk⟩:=h
  have ka : ∀ y,y∈x.a→(wrM d y).bulk+30≤16 * (q06 y).bulk:=fun y hy=>q9x d y (hk y (Kv.2 (.inr hy)))
  have kp : ∀ p,p∈x.p→(q1V (wrM d) p).bulk+0≤16 * (q1k p).bulk:=fun p hp=>by
   have h1:=q9x d p.2 (hk p.2 (Kv.2 (.inl (KV.2 ⟨p,hp,rfl⟩))))
   have h2:(q1k p).bulk=p.2.bulk+p.1.key.length+2:=prB p
   unfold q1V
   rw[q1y,q1r,q1r,q1r,q3G,q8q]
   simp only[Kl,AV.bulks]
   omega
  have ha:=q4E (l:=x.a) ka
  have hp:=q4E (l:=x.p) kp
  have hpt:=q4E (f:=q23) (g:=q0p) (c:=7) (e:=0) (l:=x.s.parts) fun y _=>qj3 y
  have e:=x.bulk_eq
  have hm:=qbs x.s.mask 8
  show (q10 (wrM d) x).bulk+30≤_
  unfold q10
  by_cases h1:x.s.op=1
  ·rw[if_pos h1,q8q]; omega
  rw[if_neg h1]
  by_cases h2:x.s.op=2
  ·rw[if_pos h2,q8q]; omega
  rw[if_neg h2]
  by_cases h3:x.s.op=3
  ·rw[if_pos h3,q14,q1y]
   simp only[List.length_cons,List.length_nil]
   omega
  rw[if_neg h3]
  by_cases h4:x.s.op=4
  ·rw[if_pos h4,q14,q1y]
   simp only[List.length_cons,List.length_nil]
   omega
  rw[if_neg h4]
  by_cases h5:x.s.op=5
  ·have hb:=q56 hf (.inl h5)
   have n1:=q7g (n:=x.s.min.toNat) (by omega)
   have n2:=q67 x.s.max (by omega)
   rw[if_pos h5,q14,q1y,q1r,q1r,q5R]
   simp only[List.length_cons,List.length_nil,Kl,AV.bulks]
   omega
  rw[if_neg h5]
  by_cases h6:x.s.op=6
  ·have hb:=qca hf h6
   unfold q7e at hb
   rw[Kk] at hb
   have n1:=q4w 48 x.s.pat hb.1
   have n2:=(Sch.lens (Kr x.bulk)).pat
   rw[if_pos h6,q14,q3G]
   simp only[List.length_cons,List.length_nil]
   omega
  rw[if_neg h6]
  by_cases h7:x.s.op=7
  ·rw[if_pos h7,q14,q3G]
   simp only[List.length_cons,List.length_nil]
   omega
  rw[if_neg h7]
  by_cases h8:x.s.op=8
  ·rw[if_pos h8,q14,q1y]
   simp only[List.length_cons,List.length_nil]
   omega
  rw[if_neg h8]
  by_cases h9:x.s.op=9
  ·have hb:=q56 hf (.inr h9)
   have n1:=q7g (n:=x.s.min.toNat) (by omega)
   have n2:=q67 x.s.max (by omega)
   rw[if_pos h9,q14,q1y]
   show _+(AV.bulks ((q5t _::q2j x.s.max::x.a.map (wrM d)).map q0g)+14)+15+30≤_
   rw[q1r,q1r,q5R]
   simp only[List.length_cons,List.length_nil]
   omega
  rw[if_neg h9]
  by_cases h10:x.s.op=10
  ·rw[if_pos h10,q14,q1y,q1r,q1y]
   simp only[List.length_cons,List.length_nil]
   omega
  rw[if_neg h10]
  by_cases h11:x.s.op=11
  ·rw[if_pos h11,q14,q1y]
   simp only[List.length_cons,List.length_nil]
   omega
  rw[if_neg h11]
  by_cases h12:x.s.op=12
  ·rw[if_pos h12,q14,q1y]
   simp only[List.length_cons,List.length_nil]
   omega
  rw[if_neg h12]
  by_cases h13:x.s.op=13
  ·have hl:=q32 hf (.inr (.inr h13))
   rw[if_pos h13,q14]
   obtain ⟨y,hy⟩ : ∃ y,x.a=[y]:=by
    match h:x.a,hl with
    | [y],_=>exact ⟨y,rfl⟩
   have:=ka y (by rw[hy]; simp)
   rw[hy] at e ⊢
   simp only[Kd,Kl,AV.bulks] at e
   show _+(wrM d y).bulk+15+30≤_
   simp only[List.length_cons,List.length_nil]
   omega
  ·rw[if_neg h13,q14,q3G]
   simp only[List.length_cons,List.length_nil]
   omega
theorem q3P {m:Nat} {k:List UInt8} {v:V} (h:Sh m v):Sh (m+1) (q0x k v):=qoM fun x hx=>by
 rw[Kx.1 hx]
 exact h
theorem qk4 (n:Int):Sh 0 (q2j n):=by
 unfold q2j
 split
 ·exact q22 rfl rfl
 ·exact q22 rfl rfl
theorem qpM (p:Prt):Sh 1 (q23 p):=qoM fun x hx=>by
 have h1 : ∀ (b:Bnd) (c o:List UInt8),x∈qoZ b c o→Sh 0 x.2:=fun b c o h=>by
  unfold qoZ at h
  split at h
  ·rw[Kx.1 h]
   exact q22 rfl rfl
  ·cases h
 rcases Kv.1 hx with hx | hx
 ·rcases Kv.1 hx with hx | hx
  ·exact h1 _ _ _ hx
  ·exact h1 _ _ _ hx
 ·unfold qrq at hx
  repeat' split at hx
  ·rw[Kx.1 hx]; exact q22 rfl rfl
  ·rw[Kx.1 hx]; exact q22 rfl rfl
  ·cases hx
theorem qq8 (m:Int) (k:Nat) : ∀ v,v∈q2W m k→Sh 0 v:=fun v hv=>by
 unfold q2W at hv
 obtain ⟨j,_,hj⟩:=KR.1 hv
 split at hj
 ·rw[Kx.1 hj]; exact q22 rfl rfl
 ·cases hj
theorem qqn : ∀ (d:Nat) (x:Sch),WrS d x→Sh (4 * d) (wrM d x)
 | 0,x,h=>h.elim
 | d+1,x,h=>by
  obtain ⟨hf,hk⟩:=h
  have ka : ∀ v,v∈x.a.map (wrM d)→Sh (4 * d) v:=fun v hv=>by
   obtain ⟨y,hy,rfl⟩:=KV.1 hv
   exact qqn d y (hk y (Kv.2 (.inr hy)))
  have kp : ∀ v,v∈x.p.map (q1V (wrM d))→Sh (4 * d+1) v:=fun v hv=>by
   obtain ⟨p,hp,rfl⟩:=KV.1 hv
   have h1:=qqn d p.2 (hk p.2 (Kv.2 (.inl (KV.2 ⟨p,hp,rfl⟩))))
   refine q3K fun v hv=>?_
   simp only[KA,Vq,or_false] at hv
   rcases hv with rfl | rfl | rfl
   ·exact Sh.mono (q22 rfl rfl) (Kn _)
   ·exact Sh.mono (q22 rfl rfl) (Kn _)
   ·exact h1
  have leaf : ∀ k s,Sh (4 * (d+1)) (q0x k (q1v s)):=fun k s=>Sh.mono (q3P (q22 (v:=q1v s) rfl rfl)) (by omega)
  have two : ∀ v,v∈[q5t (q5p x.s.min.toNat),q2j x.s.max]→Sh 0 v:=fun v hv=>by
   simp only[KA,Vq,or_false] at hv
   rcases hv with rfl | rfl
   ·exact q22 rfl rfl
   ·exact qk4 _
  show Sh _ (q10 (wrM d) x)
  unfold q10
  by_cases h1:x.s.op=1
  ·rw[if_pos h1]; exact Sh.mono (q22 rfl rfl) (Kn _)
  rw[if_neg h1]
  by_cases h2:x.s.op=2
  ·rw[if_pos h2]; exact Sh.mono (q22 rfl rfl) (Kn _)
  rw[if_neg h2]
  by_cases h3:x.s.op=3
  ·rw[if_pos h3]
   exact Sh.mono (q3P (q3K (qq8 x.s.mask 8))) (by omega)
  rw[if_neg h3]
  by_cases h4:x.s.op=4
  ·rw[if_pos h4]
   exact Sh.mono (q3P (q3K (m:=1) fun v hv=>by
    obtain ⟨p,_,rfl⟩:=KV.1 hv
    exact qpM p)) (by omega)
  rw[if_neg h4]
  by_cases h5:x.s.op=5
  ·rw[if_pos h5]
   exact Sh.mono (q3P (q3K two)) (by omega)
  rw[if_neg h5]
  by_cases h6:x.s.op=6
  ·rw[if_pos h6]; exact leaf _ _
  rw[if_neg h6]
  by_cases h7:x.s.op=7
  ·rw[if_pos h7]; exact leaf _ _
  rw[if_neg h7]
  by_cases h8:x.s.op=8
  ·rw[if_pos h8]
   exact Sh.mono (q3P (q3K (m:=0) fun v hv=>q22 (q9C hf h8 v hv).1 (q9C hf h8 v hv).2)) (by omega)
  rw[if_neg h8]
  by_cases h9:x.s.op=9
  ·rw[if_pos h9]
   exact Sh.mono (q3P (q3K (m:=4 * d) fun v hv=>by
    rcases Kv.1 hv with hv | hv
    ·exact (two v hv).mono (Kn _)
    ·exact ka v hv)) (by omega)
  rw[if_neg h9]
  by_cases h10:x.s.op=10
  ·rw[if_pos h10]
   exact Sh.mono (q3P (q3K (m:=4 * d+2) fun v hv=>by
    rcases KA.1 hv with rfl | hv
    ·exact q3K kp
    ·exact (ka v hv).mono (by omega))) (by omega)
  rw[if_neg h10]
  by_cases h11:x.s.op=11
  ·rw[if_pos h11]; exact Sh.mono (q3P (q3K ka)) (by omega)
  rw[if_neg h11]
  by_cases h12:x.s.op=12
  ·rw[if_pos h12]; exact Sh.mono (q3P (q3K ka)) (by omega)
  rw[if_neg h12]
  by_cases h13:x.s.op=13
  ·have hl:=q32 hf (.inr (.inr h13))
   obtain ⟨y,hy⟩ : ∃ y,x.a=[y]:=by
    match h:x.a,hl with
    | [y],_=>exact ⟨y,rfl⟩
   rw[if_pos h13]
   refine Sh.mono (q3P (m:=4 * d) (ka _ ?_)) (by omega)
   rw[hy]
   simp
  ·rw[if_neg h13]; exact leaf _ _
end Ago
set_option maxRecDepth 100000
set_option maxHeartbeats 4000000
namespace Ago
open Go (IntKind)
def lsV (f:AV):AV:=.agg [.int .i64 6,.bool false,.bool false,.str [],.int .i64 0,.int .i64 0,.int .i64 0,.int .i64 0,.int .i64 0,.str [],.snil 1,f,.snil 14]
def ouO (E:List AV):AV:=match E with | []=>.snil 13 | z::l=>.sref 13 3 0 (l.length+1)
def ouR (E:List AV):Heap:=match E with | []=>[] | z::l=>[.row 13 (z::l) false false 3]
def ofH (X:AV) (E:List AV):Heap:=[.row 15 [X] false true 0,.row 13 [zV] false true 1,.row 13 [lsV (ouO E)] false E.isEmpty 2]++ouR E
def qwy (X A:AV) (n k:Nat) (E:List AV):St:=
 { tmps:=q0i 23 [(1,.ptr 13 2 0 0),(3,.ptr 13 3 0 0),(6,A),(7,.int .i64 n),(8,.int .i64 k)], heap:=[.row 15 [X] false true 0,.row 13 [zV] false true 1,.row 13 [lsV (match E with | []=>.snil 13 | z::l=>.sref 13 4 0 (l.length+1))] false E.isEmpty 2,.row 13 [zV] false true 3]++(match E with | []=>[] | z::l=>[.row 13 (z::l) false false 4]),base:=3 }
def q8B (R:List (List Nat)) (base:Nat):Nat→List Nat→List Nat→List Nat
 | 0,_,seen=>seen
 | _+1,[],seen=>seen
 | k+1,r::todo,seen=>
  if r<base then q8B R base k todo seen
  else if seen.contains r then q8B R base k todo seen
  else
   match R[r]? with
   | none=>q8B R base k todo seen
   | some l=>q8B R base k (l++todo) (seen++[r])
theorem qd3 (H:Heap) (base:Nat) : ∀ (k:Nat) (todo seen:List Nat),q1M H base k todo seen=q8B (H.map Blk.refs) base k todo seen
 | 0,_,_=>rfl
 | _+1,[],_=>rfl
 | k+1,r::todo,seen=>by
  unfold q1M q8B
  rw[KH]
  cases H[r]? with
  | none=>simp only[Option.map_none,qd3 H base k]
  | some b=>simp only[KM,qd3 H base k]
theorem qhr {live:List Nat} {tm tm':List AV} {H H':Heap} {rb m:Nat} (R:List (List Nat)) (ks:List Nat) (hR:H.map Blk.refs=R) (hk:q8B R m 4000 ((q0l live 0 tm).flatMap (AV.refsN 6)++(R.take m).flatMap id) []=ks)
  (hc:((R.take m++ks.map fun r=>R.getD r []).all fun l=>l.all fun q=>(q0V m ks q).isSome)=true) (hd:q1c ks (H.drop m) m=[]) (ht:(q0l live 0 tm).map (AV.renN (q0V m ks) 6)=tm')
  (hh:(H.take m++ks.map fun r=>H.getD r .gone).map (Blk.ren (q0V m ks) (q2K H m ks))=H'):St.norm live ⟨tm,H,m,rb⟩=⟨tm',H',m,0⟩:=by
 have e1:(H.take m).flatMap Blk.refs=(R.take m).flatMap id:=by
  rw[←hR,←V9]
  simp [List.flatMap_def]
 have e2 : ∀ r,(H.getD r .gone).refs=R.getD r []:=fun r=>by
  rw[←hR,Ko,Ko,KH]
  cases H[r]?<;>rfl
 unfold St.norm St.normTm
 simp only[e1,qd3,hR,hk]
 unfold St.normBy
 have hcl:q1f (q0V m ks) (H.take m++ks.map fun r=>H.getD r .gone)=true:=by
  unfold q1f
  rw[List.all_append,List.all_map] at hc ⊢
  have e3:((H.take m).all fun b=>b.refs.all fun q=>(q0V m ks q).isSome)=((R.take m).all fun l=>l.all fun q=>(q0V m ks q).isSome):=by
   rw[←hR,←V9,List.all_map]
   rfl
  rw[e3]
  have e4:(ks.all ((fun b=>b.refs.all fun q=>(q0V m ks q).isSome) ∘ fun r=>H.getD r .gone))=ks.all ((fun l=>l.all fun q=>(q0V m ks q).isSome) ∘ fun r=>R.getD r []):=by
   congr 1
   funext r
   simp only[Function.comp]
   rw[e2]
  rw[e4]
  exact hc
 simp only[hd,hcl,q6U,q3i,V7,q4l,ht,hh]
theorem q3L {n:Nat} {els:List AV} {ro fl:Bool} {fam:Nat} (h : ∀ x,x∈els→q4B x):Blk.refs (.row n els ro fl fam)=[]:=by
 show (if fl=true then [] else els.flatMap (AV.refsN 6))=[]
 split
 ·rfl
 ·rw[VN]
  exact fun x hx=>(h x hx).1
theorem q4q {n:Nat} {els:List AV} {ro fl:Bool} {fam:Nat} {f:Nat→Option Nat} {g:Nat→Nat} (h : ∀ x,x∈els→q4B x):Blk.ren f g (.row n els ro fl fam) = .row n els ro fl (g fam):=by
 show Blk.row n (if fl=true then els else els.map (AV.renN f 6)) ro fl (g fam)=_
 have:els.map (AV.renN f 6)=els:=q9D fun x hx=>(h x hx).2 f
 rw[this]
 simp
theorem q8h (v:V):q4B (q0g v):=by
 rw[q07]
 exact ⟨rfl,fun _=>rfl⟩
theorem qaC (l:List AV) (z:AV):(l++[z])[l.length]?=some z:=by simp
theorem qa2 (l:List AV) (z v:AV):(l++[z]).set l.length v=l++[v]:=by simp
theorem qsd (X e0:AV) (es:List AV) (hst : ∀ x,x∈e0::es→q4B x):q7P 3 (lsV (.sref 13 4 0 (es.length+1))) [.row 15 [X] false true 0,.row 13 [zV] false true 1,.row 13 [lsV (.sref 13 4 0 (es.length+1))] false false 2,.row 13 [lsV (.sref 13 4 0 (es.length+1))] false false 3,.row 13 (e0::es) false false 4] =
  ⟨[lsV (.sref 13 3 0 (es.length+1))],[.row 15 [X] false true 0,.row 13 [zV] false true 1,.row 13 [lsV (.sref 13 3 0 (es.length+1))] false false 2,.row 13 (e0::es) false false 3],3,0⟩:=by
 refine qhr [[],[],[4],[4],[]] [4] ?_ rfl rfl rfl rfl ?_
 ·simp only[Kd,Kl,q3L hst]
  rfl
 ·simp only[K4,VC,Kd,Kl,Kf,Kh,Vr,Vx,q4q hst]
  rfl
theorem qo8 (f:Sch→V) (l:List Sch) (hl:l.length<2^24) (X:AV) (hk : ∀ y,y∈l→q0m CT 525 [q06 y] (q0g (f y))) :
  q1z CT 568 [.tsl 15 (l.map q06),.ptr 13 2 0 0] (ofH X []) (lsV (ouO (l.map fun y=>q0g (f y)))) (ofH X (l.map fun y=>q0g (f y))):=by
 refine q1s qn4 rfl ?_
 unfold ofH ouO ouR lsV zV
 (repeat' first|simp (disch:=omega) only[go_sem,qn4,enter,Ka]|(apply spl<;>intro h<;>try simp (disch:=omega) only[go_sem,h]))
 all_goals first | omega | skip
 refine q0a (α:=Nat) (fun k=>qwy X (.tsl 15 (l.map q06)) l.length k ((l.take k).map fun y=>q0g (f y))) (fun k=>k≤l.length) (fun k=>l.length-k) 0 rfl (Kn _) ?_
 intro k hk2
 unfold qwy lsV zV
 by_cases hlt:k<l.length
 ·obtain ⟨y,hy⟩:=q08 hlt
  have hym:=Kc hy
  have hy2:=q0d (g:=q06) hy
  have hr:=hk y hym
  have hen:(l.take (k+1)).map (fun y=>q0g (f y))=(l.take k).map (fun y=>q0g (f y))++[q0g (f y)]:=by rw[KD,hy]; simp
  have hle:((l.take k).map (fun y=>q0g (f y))).length=k:=by rw[Ka,KI]; omega
  have hst : ∀ x,x∈(l.take (k+1)).map (fun y=>q0g (f y))→q4B x:=fun x hx=>by
   obtain ⟨z,_,rfl⟩:=KV.1 hx
   exact q8h _
  rw[hen] at hst
  rw[q02] at hy2 hr
  rw[q07 (f y)] at hr hen hst
  generalize hE:(l.take k).map (fun y=>q0g (f y))=E at hen hle hst ⊢
  rcases E with _ | ⟨e0,es⟩
  all_goals
   simp only[List.length_cons,List.length_nil] at hle
   simp only[Kf,Kh] at hst
   (repeat' first|simp (disch:=omega) only[go_sem,hy2,Ka,List.length_cons,K9,KO,Kf,Kh,Kj]|(apply spl<;>intro h<;>try simp (disch:=omega) only[go_sem,h]))
   refine q1Z ?_ ?_ ?_
   rotate_left
   ·repeat' first | exact q1X | refine q1C ?_ ?_
    all_goals
     (repeat' first|simp (disch:=omega) only[go_sem,q20,List.length_cons,List.length_nil,qaC,qa2]|refine q00 _ (hr) ?_|(apply spl<;>intro h<;>try simp (disch:=omega) only[go_sem,h]))
     all_goals first | omega | rfl
   ·(repeat' first|simp (disch:=omega) only[go_sem,List.length_cons,List.length_nil]|(apply spl<;>intro h<;>try simp (disch:=omega) only[go_sem,h]))
    all_goals try omega
    all_goals
     refine ⟨k+1,?_,hlt,by omega⟩
     rw[hen]
     simp only[qwy,lsV,zV,Kf,Kh,Kb,List.length_cons,List.length_nil,KO,KS]
     first
     | rfl
     | (
      refine qhr [[],[],[7],[],[],[],[],[]] [3,7] ?_ rfl rfl rfl rfl ?_
      ·simp only[Kd,Kl,q3L hst]
       rfl
      ·simp only[K4,VC,Kd,Kl,Kf,Kh,Vr,Vx,q4q hst]
       rfl)
 ·obtain rfl:k=l.length:=by omega
  rw[Ky]
  have hst : ∀ x,x∈l.map (fun y=>q0g (f y))→q4B x:=fun x hx=>by
   obtain ⟨z,_,rfl⟩:=KV.1 hx
   exact q8h _
  generalize l.map (fun y=>q0g (f y))=E at hst ⊢
  rcases E with _ | ⟨e0,es⟩
  all_goals
   (repeat' first|simp (disch:=omega) only[go_sem,Ka,K9,KO,Kf,Kh,Kj]|(apply spl<;>intro h<;>try simp (disch:=omega) only[go_sem,h]))
   all_goals first | omega | exact q1D (.inr rfl) (lsV (ouO [])) rfl rfl rfl | exact q1D (.inr rfl) (lsV (.sref 13 4 0 (es.length+1))) rfl (congrArg (fun s:St=>s.tmps.getD 0 .dead) (qsd X e0 es hst)) (congrArg St.heap (qsd X e0 es hst))
end Ago
set_option maxRecDepth 100000
set_option maxHeartbeats 4000000
namespace Ago
open Go (IntKind)
theorem qs1 {f:Sch→V} {x:Sch} (h:x.s.op=1):q10 f x=q6n true:=by
 unfold q10
 rw[if_pos h]

theorem qrJ {f:Sch→V} {x:Sch} (h:x.s.op=2):q10 f x=q6n false:=by
 unfold q10
 rw[if_neg (by omega),if_pos h]

theorem que {f:Sch→V} {x:Sch} (h:x.s.op=3):q10 f x=q0x [107,105,110,100,115] (q0A (q2W x.s.mask 8)):=by
 unfold q10
 rw[if_neg (by omega),if_neg (by omega),if_pos h]

theorem qrO {f:Sch→V} {x:Sch} (h:x.s.op=4):q10 f x=q0x [110,117,109,98,101,114] (q0A (x.s.parts.map q23)):=by
 unfold q10
 rw[if_neg (by omega),if_neg (by omega),if_neg (by omega),if_pos h]

theorem qtM {f:Sch→V} {x:Sch} (h:x.s.op=5):q10 f x=q0x [116,101,120,116] (q0A [q5t (q5p x.s.min.toNat),q2j x.s.max]):=by
 unfold q10
 rw[if_neg (by omega),if_neg (by omega),if_neg (by omega),if_neg (by omega),if_pos h]

theorem qsq {f:Sch→V} {x:Sch} (h:x.s.op=6):q10 f x=q0x [109,97,116,99,104] (q1v (q0r 48 x.s.pat)):=by
 unfold q10
 rw[if_neg (by omega),if_neg (by omega),if_neg (by omega),if_neg (by omega),if_neg (by omega),if_pos h]

theorem qun {f:Sch→V} {x:Sch} (h:x.s.op=7):q10 f x=q0x [102,111,114,109,97,116] (q1v x.s.name):=by
 unfold q10
 rw[if_neg (by omega),if_neg (by omega),if_neg (by omega),if_neg (by omega),if_neg (by omega),if_neg (by omega),if_pos h]

theorem qta {f:Sch→V} {x:Sch} (h:x.s.op=8):q10 f x=q0x [118,97,108,117,101,115] (q0A x.s.vals):=by
 unfold q10
 rw[if_neg (by omega),if_neg (by omega),if_neg (by omega),if_neg (by omega),if_neg (by omega),if_neg (by omega),if_neg (by omega),if_pos h]

theorem qsk {f:Sch→V} {x:Sch} (h:x.s.op=9):q10 f x=q0x [108,105,115,116] (q0A ([q5t (q5p x.s.min.toNat),q2j x.s.max]++x.a.map f)):=by
 unfold q10
 rw[if_neg (by omega),if_neg (by omega),if_neg (by omega),if_neg (by omega),if_neg (by omega),if_neg (by omega),if_neg (by omega),if_neg (by omega),if_pos h]

theorem qoK {f:Sch→V} {x:Sch} (h:x.s.op=10):q10 f x=q0x [109,97,112] (q0A (q0A (x.p.map (q1V f))::x.a.map f)):=by
 unfold q10
 rw[if_neg (by omega),if_neg (by omega),if_neg (by omega),if_neg (by omega),if_neg (by omega),if_neg (by omega),if_neg (by omega),if_neg (by omega),if_neg (by omega),if_pos h]

theorem qub {f:Sch→V} {x:Sch} (h:x.s.op=11):q10 f x=q0x [97,108,108] (q0A (x.a.map f)):=by
 unfold q10
 rw[if_neg (by omega),if_neg (by omega),if_neg (by omega),if_neg (by omega),if_neg (by omega),if_neg (by omega),if_neg (by omega),if_neg (by omega),if_neg (by omega),if_neg (by omega),if_pos h]

theorem qs0 {f:Sch→V} {x:Sch} (h:x.s.op=12):q10 f x=q0x [97,110,121] (q0A (x.a.map f)):=by
 unfold q10
 rw[if_neg (by omega),if_neg (by omega),if_neg (by omega),if_neg (by omega),if_neg (by omega),if_neg (by omega),if_neg (by omega),if_neg (by omega),if_neg (by omega),if_neg (by omega),if_neg (by omega),if_pos h]

theorem qoC {f:Sch→V} {x:Sch} (h:x.s.op=13):q10 f x=q0x [110,111,116] ((x.a.map f).getD 0 qb5):=by
 unfold q10
 rw[if_neg (by omega),if_neg (by omega),if_neg (by omega),if_neg (by omega),if_neg (by omega),if_neg (by omega),if_neg (by omega),if_neg (by omega),if_neg (by omega),if_neg (by omega),if_neg (by omega),if_neg (by omega),if_pos h]

theorem qp1 {f:Sch→V} {x:Sch} (h:x.s.op=14):q10 f x=q0x [114,101,102] (q1v x.s.name):=by
 unfold q10
 rw[if_neg (by omega),if_neg (by omega),if_neg (by omega),if_neg (by omega),if_neg (by omega),if_neg (by omega),if_neg (by omega),if_neg (by omega),if_neg (by omega),if_neg (by omega),if_neg (by omega),if_neg (by omega),if_neg (by omega)]
theorem q8g {x:Sch} (h:x.a.length=1) : ∃ y,x.a=[y]:=by
 match h2:x.a,h with
 | [y],_=>exact ⟨y,rfl⟩
theorem qow (x:Sch) : ∀ v,v∈[q5t (q5p x.s.min.toNat),q2j x.s.max]→Sh 1000 v:=fun v hv=>by
 simp only[KA,Vq,or_false] at hv
 rcases hv with rfl | rfl
 ·exact Sh.mono (q22 rfl rfl) (Kn _)
 ·exact Sh.mono (qk4 _) (Kn _)
theorem qp4 {f:Sch→V} (x:Sch) (h:x.s.op=1):q0m CT 525 [q06 x] (q0g (q10 f x)):=by
 have b:=qaS true
 rw[qs1 h]
 refine q05 q3c rfl ?_
 rw[q3X] at b ⊢
 rw[q02]
 (repeat' first|simp (disch:=omega) only[go_sem,q3c,enter,h]|refine q00 _ (b) ?_)
 all_goals first | rfl
theorem qpx {f:Sch→V} (x:Sch) (h:x.s.op=2):q0m CT 525 [q06 x] (q0g (q10 f x)):=by
 have b:=qaS false
 rw[qrJ h]
 refine q05 q3c rfl ?_
 rw[q3X] at b ⊢
 rw[q02]
 (repeat' first|simp (disch:=omega) only[go_sem,q3c,enter,h]|refine q00 _ (b) ?_)
 all_goals first | rfl
theorem qpy {f:Sch→V} (x:Sch) (h:x.s.op=7):q0m CT 525 [q06 x] (q0g (q10 f x)):=by
 have b:=q4v x.s.name
 have d:=q1R [102,111,114,109,97,116] (q1v x.s.name)
 rw[qun h]
 generalize q0x [102,111,114,109,97,116] (q1v x.s.name)=D at *
 generalize q1v x.s.name=B at *
 rw[q07 D] at d ⊢
 rw[q07 B] at b d
 refine q05 q3c rfl ?_
 rw[q02]
 (repeat' first|simp (disch:=omega) only[go_sem,q3c,enter,h]|refine q00 _ (b) ?_|refine q00 _ (d) ?_)
 all_goals first | rfl
theorem qop {f:Sch→V} (x:Sch) (h:x.s.op=14):q0m CT 525 [q06 x] (q0g (q10 f x)):=by
 have b:=q4v x.s.name
 have d:=q1R [114,101,102] (q1v x.s.name)
 rw[qp1 h]
 generalize q0x [114,101,102] (q1v x.s.name)=D at *
 generalize q1v x.s.name=B at *
 rw[q07 D] at d ⊢
 rw[q07 B] at b d
 refine q05 q3c rfl ?_
 rw[q02]
 (repeat' first|simp (disch:=omega) only[go_sem,q3c,enter,h]|refine q00 _ (b) ?_|refine q00 _ (d) ?_)
 all_goals first | rfl
theorem qpg {f:Sch→V} (x:Sch) (hx:x.bulk≤2^24) (hf:q18 x=true) (h:x.s.op=6):q0m CT 525 [q06 x] (q0g (q10 f x)):=by
 have hp:=qca hf h
 have a:=qjf x.s.pat (by have:=(Sch.lens hx).pat; omega)
 rw[if_pos hp] at a
 have b:=q4v (q0r 48 x.s.pat)
 have d:=q1R [109,97,116,99,104] (q1v (q0r 48 x.s.pat))
 rw[qsq h]
 generalize q0x [109,97,116,99,104] (q1v (q0r 48 x.s.pat))=D at *
 generalize q1v (q0r 48 x.s.pat)=B at *
 generalize q0r 48 x.s.pat=T at *
 rw[q07 D] at d ⊢
 rw[q07 B] at b d
 rw[q0e] at a
 refine q05 q3c rfl ?_
 rw[q02]
 (repeat' first|simp (disch:=omega) only[go_sem,q3c,enter,h]|refine q00 _ (a) ?_|refine q00 _ (b) ?_|refine q00 _ (d) ?_)
 all_goals first | rfl
theorem qqz {f:Sch→V} (x:Sch) (hf:q18 x=true) (h:x.s.op=5):q0m CT 525 [q06 x] (q0g (q10 f x)):=by
 have hb:=q56 hf (.inl h)
 have a:=qgP x.s.min.toNat (by omega)
 rw[show ((x.s.min.toNat:Nat):Int)=x.s.min by omega] at a
 have b:=qdY x.s.max (by omega)
 have n1:=q7g (n:=x.s.min.toNat) (by omega)
 have n2:=q67 x.s.max (by omega)
 have c:=q7O [q5t (q5p x.s.min.toNat),q2j x.s.max] (qow x) (by rw[q1y,q1r,q1r,q5R]; simp only[Kl,AV.bulks]; omega)
 have d:=q1R [116,101,120,116] (q0A [q5t (q5p x.s.min.toNat),q2j x.s.max])
 rw[qtM h]
 simp only[Kd,Kl] at c
 generalize q0x [116,101,120,116] (q0A [q5t (q5p x.s.min.toNat),q2j x.s.max])=D at *
 generalize (q0A [q5t (q5p x.s.min.toNat),q2j x.s.max])=C at *
 generalize q5t (q5p x.s.min.toNat)=A at *
 generalize q2j x.s.max=B at *
 rw[q07 D] at d ⊢
 rw[q07 C] at c d
 rw[q07 A] at a c
 rw[q07 B] at b c
 refine q05 q3c rfl ?_
 rw[q02]
 (repeat' first|simp (disch:=omega) only[go_sem,q3c,enter,h,List.length_cons,List.length_nil,q0R,Blk.mark,K5,Vf,Vu]|refine q00 _ (a) ?_|refine q00 _ (b) ?_|refine q00 _ (c) ?_|refine q00 _ (d) ?_)
 all_goals first | rfl | omega
theorem qqY {f:Sch→V} (x:Sch) (hx:x.bulk≤2^24) (hf:q18 x=true) (h:x.s.op=9) (hr : ∀ y,y∈x.a→q0m CT 525 [q06 y] (q0g (f y))) (hs : ∀ y,y∈x.a→Sh 900 (f y)) (hbk:(q10 f x).bulk≤2^24):q0m CT 525 [q06 x] (q0g (q10 f x)):=by
 have hb:=q56 hf (.inr h)
 have a:=qgP x.s.min.toNat (by omega)
 rw[show ((x.s.min.toNat:Nat):Int)=x.s.min by omega] at a
 have b:=qdY x.s.max (by omega)
 obtain ⟨y,hy⟩:=q8g (q32 hf (.inl h))
 have r:=hr y (by rw[hy]; simp)
 have s:=hs y (by rw[hy]; simp)
 rw[qsk h,hy] at hbk ⊢
 rw[q14] at hbk
 have c:=q7O ([q5t (q5p x.s.min.toNat),q2j x.s.max]++[y].map f) (fun v hv=>by rcases Kv.1 hv with hv | hv; exact qow x v hv; simp only[Kd,Kl,Kx] at hv; subst hv; exact s.mono (by omega)) (by omega)
 have d:=q1R [108,105,115,116] (q0A ([q5t (q5p x.s.min.toNat),q2j x.s.max]++[y].map f))
 simp only[Kd,Kl,Kf,Kh] at c d ⊢
 generalize q0x [108,105,115,116] (q0A [q5t (q5p x.s.min.toNat),q2j x.s.max,f y])=D at *
 generalize q0A [q5t (q5p x.s.min.toNat),q2j x.s.max,f y]=C at *
 generalize q5t (q5p x.s.min.toNat)=A at *
 generalize q2j x.s.max=B at *
 generalize f y=Y at *
 rw[q07 D] at d ⊢
 rw[q07 C] at c d
 rw[q07 A] at a c
 rw[q07 B] at b c
 rw[q07 Y] at r c
 rw[q02] at r
 refine q05 q3c rfl ?_
 rw[q02,hy,Kd,Kl,q02 y]
 (repeat' first|simp (disch:=omega) only[go_sem,q3c,enter,h,List.length_cons,List.length_nil,q0R,Blk.mark,K5,Vf,Vu]|refine q00 _ (a) ?_|refine q00 _ (b) ?_|refine q00 _ (r) ?_|refine q00 _ (c) ?_|refine q00 _ (d) ?_)
 all_goals first | rfl | omega
theorem qnP {f:Sch→V} (x:Sch) (hf:q18 x=true) (h:x.s.op=13) (hr : ∀ y,y∈x.a→q0m CT 525 [q06 y] (q0g (f y))):q0m CT 525 [q06 x] (q0g (q10 f x)):=by
 obtain ⟨y,hy⟩:=q8g (q32 hf (.inr (.inr h)))
 have r:=hr y (by rw[hy]; simp)
 have d:=q1R [110,111,116] (f y)
 rw[qoC h,hy]
 show q0m CT 525 [q06 x] (q0g (q0x [110,111,116] (f y)))
 generalize q0x [110,111,116] (f y)=D at *
 generalize f y=Y at *
 rw[q07 D] at d ⊢
 rw[q07 Y] at r d
 rw[q02] at r
 refine q05 q3c rfl ?_
 rw[q02,hy,Kd,Kl,q02 y]
 (repeat' first|simp (disch:=omega) only[go_sem,q3c,enter,h,List.length_cons,List.length_nil]|refine q00 _ (r) ?_|refine q00 _ (d) ?_)
 all_goals first | rfl | omega
end Ago
set_option maxRecDepth 100000
set_option maxHeartbeats 4000000
namespace Ago
open Go (IntKind)
theorem fzE (H:Heap) (v:V):frz H 4 (q0g v)=some (q0g v):=by rw[q07]; rfl
theorem frE (H:Heap) (v:V):q0q H 4 (q0g v)=[]:=by rw[q07]; rfl
theorem fzL (H:Heap) : ∀ {l:List AV},(∀ x,x∈l→∃ v,x=q0g v)→q1L (frz H 4) l=some l
 | [],_=>rfl
 | x::l,h=>by
  obtain ⟨v,rfl⟩:=h x (Ku ..)
  have ih:=fzL H (l:=l) fun y hy=>h y (Kt _ hy)
  unfold q1L
  rw[fzE,ih]
theorem frL (H:Heap) {l:List AV} (h : ∀ x,x∈l→∃ v,x=q0g v):l.flatMap (q0q H 4)=[]:=by
 rw[VN]
 intro x hx
 obtain ⟨v,rfl⟩:=h x hx
 exact frE H v
theorem qx9 (f:Sch→V) (l:List Sch):(l.map f).map q0g=l.map fun y=>q0g (f y):=by rw[Vn]; rfl
theorem qkG (k:List UInt8) {f:Sch→V} (x:Sch) (hx:x.bulk≤2^24) (h:x.s.op=11∧k=[97,108,108]∨x.s.op=12∧k=[97,110,121]) (hr : ∀ y,y∈x.a→q0m CT 525 [q06 y] (q0g (f y))):q0m CT 525 [q06 x] (q0g (q0x k (q0A (x.a.map f)))):=by
 have L:=Sch.lens hx
 have A:=qo8 f x.a (by have:=L.args; omega) (q06 x) hr
 have d:=q1R k (q0A (x.a.map f))
 generalize q0x k (q0A (x.a.map f))=D at *
 rw[q07 D] at d ⊢
 rw[q58,qx9] at d
 have hst : ∀ z,z∈x.a.map (fun y=>q0g (f y))→∃ v,z=q0g v:=fun z hz=>by
  obtain ⟨y,_,rfl⟩:=KV.1 hz
  exact ⟨_,rfl⟩
 unfold ofH ouO ouR lsV zV at A
 rw[q02 x] at A ⊢
 generalize x.a.map (fun y=>q0g (f y))=E at *
 refine q05 q3c rfl ?_
 rcases E with _ | ⟨e0,es⟩
 ·simp only[K9,Kj] at A
  rcases h with ⟨h,rfl⟩ | ⟨h,rfl⟩
  all_goals
   simp only[h] at A
   (repeat' first|simp (disch:=omega) only[go_sem,q3c,enter,h,List.length_cons,List.length_nil]|(refine q0b _ _ A ?_)|refine q00 _ (d) ?_)
   all_goals first | rfl | omega
 ·have z0:=fun H=>fzL H (l:=[e0]) fun z hz=>hst z (by rw[Kx.1 hz]; simp)
  have z1:=fun H=>fzL H (l:=es) fun z hz=>hst z (Kt _ hz)
  have r1:=fun H=>frL H (l:=es) fun z hz=>hst z (Kt _ hz)
  obtain ⟨v0,rfl⟩:=hst e0 (Ku ..)
  have z2:=fun H=>fzE H v0
  have r2:=fun H=>frE H v0
  rw[q07 v0] at A d z2 r2
  simp only[K9,KO,Kj,Kf,Kh] at A
  rcases h with ⟨h,rfl⟩ | ⟨h,rfl⟩
  all_goals
   simp only[h] at A
   (repeat' first|simp (disch:=omega) only[go_sem,q3c,enter,h,List.length_cons,List.length_nil,z1,r1,z2,r2,q0R,Blk.mark,K5,Vf,Vu,K4,Ky]|(refine q0b _ _ A ?_)|refine q00 _ (d) ?_)
   all_goals first | rfl | omega
end Ago
set_option maxRecDepth 100000
set_option maxHeartbeats 4000000
namespace Ago
open Go (IntKind)
theorem qx5 (k:Nat) (hk:k<8):([.str [110,117,108,108],.str [98,111,111,108],.str [110,117,109,98,101,114],.str [116,105,109,101],.str [115,116,114,105,110,103],.str [98,105,110,97,114,121],.str [108,105,115,116],.str [109,97,112]]:List AV)[k]?=some (.str (qbb k)):=by
 obtain rfl | rfl | rfl | rfl | rfl | rfl | rfl | rfl:k=0∨k=1∨k=2∨k=3∨k=4∨k=5∨k=6∨k=7:=by omega
 all_goals rfl
theorem qvE (k:Nat) (hk:k<8):(q8w 1 8 [.str [110,117,108,108],.str [98,111,111,108],.str [110,117,109,98,101,114],.str [116,105,109,101],.str [115,116,114,105,110,103],.str [98,105,110,97,114,121],.str [108,105,115,116],.str [109,97,112]])[k]?=some (.str (qbb k)):=by
 obtain rfl | rfl | rfl | rfl | rfl | rfl | rfl | rfl:k=0∨k=1∨k=2∨k=3∨k=4∨k=5∨k=6∨k=7:=by omega
 all_goals rfl
theorem ql7 (k:Nat) (hk:k<8):q0m CT 534 [.int .i64 k] (.str (qbb k)):=by
 have hg:=qvE k hk
 refine q05 qko rfl ?_
 simp (maxSteps:=1000000) (disch:=omega) only[go_sem,qko,enter,hg]
 (repeat' first|simp (disch:=omega) only[go_sem,hg,qko,enter])
 all_goals first | omega | rfl
theorem qfQ (k:Nat) (hk:k<8):q0m CT 527 [.int .i64 k] (.str (qbb k)):=by
 have hg:=qx5 k hk
 refine q05 qon rfl ?_
 (repeat' first|simp (disch:=omega) only[go_sem,qon,enter,hg])
 all_goals first | omega | rfl
end Ago
set_option maxRecDepth 100000
set_option maxHeartbeats 4000000
namespace Ago
open Go (IntKind)
theorem qpc {f:Sch→V} (x:Sch) (h:x.s.op=1):q0m CT 496 [q06 x] (q0g (q10 f x)):=by
 have b:=q6G true
 rw[qs1 h]
 refine q05 q3v rfl ?_
 rw[q3X] at b ⊢
 rw[q02]
 (repeat' first|simp (disch:=omega) only[go_sem,q3v,enter,h]|refine q00 _ (b) ?_)
 all_goals first | rfl
theorem qqt {f:Sch→V} (x:Sch) (h:x.s.op=2):q0m CT 496 [q06 x] (q0g (q10 f x)):=by
 have b:=q6G false
 rw[qrJ h]
 refine q05 q3v rfl ?_
 rw[q3X] at b ⊢
 rw[q02]
 (repeat' first|simp (disch:=omega) only[go_sem,q3v,enter,h]|refine q00 _ (b) ?_)
 all_goals first | rfl
theorem qph {f:Sch→V} (x:Sch) (h:x.s.op=7):q0m CT 496 [q06 x] (q0g (q10 f x)):=by
 have b:=q2r x.s.name
 have d:=q1Q [102,111,114,109,97,116] (q1v x.s.name)
 rw[qun h]
 generalize q0x [102,111,114,109,97,116] (q1v x.s.name)=D at *
 generalize q1v x.s.name=B at *
 rw[q07 D] at d ⊢
 rw[q07 B] at b d
 refine q05 q3v rfl ?_
 rw[q02]
 (repeat' first|simp (disch:=omega) only[go_sem,q3v,enter,h]|refine q00 _ (b) ?_|refine q00 _ (d) ?_)
 all_goals first | rfl
theorem qnz {f:Sch→V} (x:Sch) (h:x.s.op=14):q0m CT 496 [q06 x] (q0g (q10 f x)):=by
 have b:=q2r x.s.name
 have d:=q1Q [114,101,102] (q1v x.s.name)
 rw[qp1 h]
 generalize q0x [114,101,102] (q1v x.s.name)=D at *
 generalize q1v x.s.name=B at *
 rw[q07 D] at d ⊢
 rw[q07 B] at b d
 refine q05 q3v rfl ?_
 rw[q02]
 (repeat' first|simp (disch:=omega) only[go_sem,q3v,enter,h]|refine q00 _ (b) ?_|refine q00 _ (d) ?_)
 all_goals first | rfl
theorem qrl {f:Sch→V} (x:Sch) (hx:x.bulk≤2^24) (hf:q18 x=true) (h:x.s.op=6):q0m CT 496 [q06 x] (q0g (q10 f x)):=by
 have hp:=qca hf h
 have a:=qff x.s.pat (by have:=(Sch.lens hx).pat; omega)
 rw[if_pos hp] at a
 have b:=q2r (q0r 48 x.s.pat)
 have d:=q1Q [109,97,116,99,104] (q1v (q0r 48 x.s.pat))
 rw[qsq h]
 generalize q0x [109,97,116,99,104] (q1v (q0r 48 x.s.pat))=D at *
 generalize q1v (q0r 48 x.s.pat)=B at *
 generalize q0r 48 x.s.pat=T at *
 rw[q07 D] at d ⊢
 rw[q07 B] at b d
 rw[q0e] at a
 refine q05 q3v rfl ?_
 rw[q02]
 (repeat' first|simp (disch:=omega) only[go_sem,q3v,enter,h]|refine q00 _ (a) ?_|refine q00 _ (b) ?_|refine q00 _ (d) ?_)
 all_goals first | rfl
theorem qrk {f:Sch→V} (x:Sch) (hf:q18 x=true) (h:x.s.op=5):q0m CT 496 [q06 x] (q0g (q10 f x)):=by
 have hb:=q56 hf (.inl h)
 have a:=q8t x.s.min.toNat (by omega)
 rw[show ((x.s.min.toNat:Nat):Int)=x.s.min by omega] at a
 have b:=q9G x.s.max (by omega)
 have n1:=q7g (n:=x.s.min.toNat) (by omega)
 have n2:=q67 x.s.max (by omega)
 have c:=q1G [q5t (q5p x.s.min.toNat),q2j x.s.max]
 have d:=q1Q [116,101,120,116] (q0A [q5t (q5p x.s.min.toNat),q2j x.s.max])
 rw[qtM h]
 simp only[Kd,Kl] at c
 generalize q0x [116,101,120,116] (q0A [q5t (q5p x.s.min.toNat),q2j x.s.max])=D at *
 generalize (q0A [q5t (q5p x.s.min.toNat),q2j x.s.max])=C at *
 generalize q5t (q5p x.s.min.toNat)=A at *
 generalize q2j x.s.max=B at *
 rw[q07 D] at d ⊢
 rw[q07 C] at c d
 rw[q07 A] at a c
 rw[q07 B] at b c
 refine q05 q3v rfl ?_
 rw[q02]
 (repeat' first|simp (disch:=omega) only[go_sem,q3v,enter,h,List.length_cons,List.length_nil,q0R,Blk.mark,K5,Vf,Vu]|refine q00 _ (a) ?_|refine q00 _ (b) ?_|refine q00 _ (c) ?_|refine q00 _ (d) ?_)
 all_goals first | rfl | omega
theorem qrd {f:Sch→V} (x:Sch) (hx:x.bulk≤2^24) (hf:q18 x=true) (h:x.s.op=9) (hr : ∀ y,y∈x.a→q0m CT 496 [q06 y] (q0g (f y))) (hs : ∀ y,y∈x.a→Sh 900 (f y)) (hbk:(q10 f x).bulk≤2^24):q0m CT 496 [q06 x] (q0g (q10 f x)):=by
 have hb:=q56 hf (.inr h)
 have a:=q8t x.s.min.toNat (by omega)
 rw[show ((x.s.min.toNat:Nat):Int)=x.s.min by omega] at a
 have b:=q9G x.s.max (by omega)
 obtain ⟨y,hy⟩:=q8g (q32 hf (.inl h))
 have r:=hr y (by rw[hy]; simp)
 have s:=hs y (by rw[hy]; simp)
 rw[qsk h,hy] at hbk ⊢
 rw[q14] at hbk
 have c:=q1G ([q5t (q5p x.s.min.toNat),q2j x.s.max]++[y].map f)
 have d:=q1Q [108,105,115,116] (q0A ([q5t (q5p x.s.min.toNat),q2j x.s.max]++[y].map f))
 simp only[Kd,Kl,Kf,Kh] at c d ⊢
 generalize q0x [108,105,115,116] (q0A [q5t (q5p x.s.min.toNat),q2j x.s.max,f y])=D at *
 generalize q0A [q5t (q5p x.s.min.toNat),q2j x.s.max,f y]=C at *
 generalize q5t (q5p x.s.min.toNat)=A at *
 generalize q2j x.s.max=B at *
 generalize f y=Y at *
 rw[q07 D] at d ⊢
 rw[q07 C] at c d
 rw[q07 A] at a c
 rw[q07 B] at b c
 rw[q07 Y] at r c
 rw[q02] at r
 refine q05 q3v rfl ?_
 rw[q02,hy,Kd,Kl,q02 y]
 (repeat' first|simp (disch:=omega) only[go_sem,q3v,enter,h,List.length_cons,List.length_nil,q0R,Blk.mark,K5,Vf,Vu]|refine q00 _ (a) ?_|refine q00 _ (b) ?_|refine q00 _ (r) ?_|refine q00 _ (c) ?_|refine q00 _ (d) ?_)
 all_goals first | rfl | omega
theorem qo4 {f:Sch→V} (x:Sch) (hf:q18 x=true) (h:x.s.op=13) (hr : ∀ y,y∈x.a→q0m CT 496 [q06 y] (q0g (f y))):q0m CT 496 [q06 x] (q0g (q10 f x)):=by
 obtain ⟨y,hy⟩:=q8g (q32 hf (.inr (.inr h)))
 have r:=hr y (by rw[hy]; simp)
 have d:=q1Q [110,111,116] (f y)
 rw[qoC h,hy]
 show q0m CT 496 [q06 x] (q0g (q0x [110,111,116] (f y)))
 generalize q0x [110,111,116] (f y)=D at *
 generalize f y=Y at *
 rw[q07 D] at d ⊢
 rw[q07 Y] at r d
 rw[q02] at r
 refine q05 q3v rfl ?_
 rw[q02,hy,Kd,Kl,q02 y]
 (repeat' first|simp (disch:=omega) only[go_sem,q3v,enter,h,List.length_cons,List.length_nil]|refine q00 _ (r) ?_|refine q00 _ (d) ?_)
 all_goals first | rfl | omega
end Ago
