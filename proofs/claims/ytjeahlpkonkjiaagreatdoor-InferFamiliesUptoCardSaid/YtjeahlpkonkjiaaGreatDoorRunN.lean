/- Infer: joins,on both sides,of schemas of the family's form. -/
import Derived.Test.YtjeahlpkonkjiaaGreatDoorRunL
import Derived.Test.YtjeahlpkonkjiaaGreatDoorRunM
import Derived.Test.YtjeahlpkonkjiaaGreatDoorRunH
import Derived.Test.YtjeahlpkonkjiaaGreatDoorRunA
set_option linter.unusedSimpArgs false
set_option linter.unusedVariables false
set_option maxRecDepth 100000
set_option maxHeartbeats 4000000
namespace Ago
open Go (IntKind)
theorem FamF.op {x:Sch} (h:FamF x):x.s.op=12:=by
 obtain ⟨l,rfl,_⟩:=h
 rfl
theorem qbK {p:List (PK × Sch)} {x:PK × Sch} (h:x∈p):x.2.bulk+2≤pb p:=by
 have:=q1U (Vf (f:=q0g) h)
 rw[qbT] at this
 show _≤AV.bulks (p.map q0g)
 omega
theorem qhs (p:List (PK × Sch)):p.length≤pb p:=by
 have:=q1I (p.map q0g)
 rw[Ka] at this
 exact this
def qqY (n:Nat):Prop:=∀ a b,FamN a→FamN b→a.bulk+b.bulk≤n→q0e CI 974 [q03 a,q03 b] (q03 (q2w n a b))∧q0e CI 978 [q03 a,q03 b] (q03 (q2w n a b))
theorem qm4 {n:Nat} (hn:n≤2^24) (hJ:qqY n) {x y:Sch} (h:Two x y) (hb:x.bulk+y.bulk≤n):q0e CI 987 [q03 x,q03 y] (q03 (q3M (q2w n) x y))∧q0e CI 991 [q03 x,q03 y] (q03 (q3M (q2w n) x y)):=by
 cases h with
 | kind m y=>exact ⟨qkH _ _ _,qdw _ _ _⟩
 | num p q h1 h2 h3 h4=>exact ⟨qql _ _ _ h1 h2 h3 h4,qgS _ _ _ h1 h2 h3 h4⟩
 | text a b c d=>exact ⟨qnr _ _ _ _ _,qfa _ _ _ _ _⟩
 | list a b c d x y hx hy=>
  have h1:=q2T a b x
  have h2:=q2T c d y
  obtain ⟨j1,j2⟩:=hJ x y hx hy (by omega)
  exact ⟨qnu _ _ _ _ _ _ _ (by omega) j1,qdX _ _ _ _ _ _ _ j2⟩
 | map p q hp hq=>
  have h1:=q3L p
  have h2:=q3L q
  have h3:=qhs p
  have h4:=qhs q
  have hj : ∀ x,x∈p→∀ y,y∈q→q0e CI 974 [q03 x.2,q03 y.2] (q03 (q2w n x.2 y.2))∧q0e CI 978 [q03 x.2,q03 y.2] (q03 (q2w n x.2 y.2)):=fun x hx y hy=>by
   have h5:=qbK hx
   have h6:=qbK hy
   exact hJ _ _ (.inr (hp x hx)) (.inr (hq y hy)) (by omega)
  exact ⟨qo2 _ _ _ (by omega) (qmm _ p q (fun x hx=>⟨by rw[(hp x hx).op]; decide,by have:=qbK hx; omega⟩) (fun x hx=>⟨by rw[(hq x hx).op]; decide,by have:=qbK hx; omega⟩) (by omega) fun x hx y hy=>(hj x hx y hy).1),
   qfz _ _ _ (qf2 _ p q (by omega) fun x hx y hy=>(hj x hx y hy).2)⟩
theorem qnv : ∀ n,n≤2^24→qqY n
 | 0,_=>fun a b _ _ h=>by
  have:1≤a.bulk:=q1r _
  omega
 | n+1,hn=>fun a b ha hb h=>by
  have hJ:=qnv n (by omega)
  exact ⟨qor n (by omega) (fun x y hxy hs=>(qm4 (by omega) hJ hxy hs).1) a b ha hb h,qg1 n (by omega) (fun x y hxy hs=>(qm4 (by omega) hJ hxy hs).2) a b ha hb h⟩
theorem qeM {a b:Sch} (ha:FamN a) (hb:FamN b) (h:a.bulk+b.bulk≤2^24):q0e CI 974 [q03 a,q03 b] (q03 (jM a b))∧q0e CI 978 [q03 a,q03 b] (q03 (jM a b)):=
 qnv jn (by rw[qwl]; exact Kr _) a b ha hb (by rw[qwl]; exact h)
end Ago
set_option maxRecDepth 100000
set_option maxHeartbeats 4000000
namespace Ago
open Go (IntKind)
theorem qht (n:Nat) (v:V):ofM (n+1) v=q1J [if v.s.kind=2 then q4S (qax v.s.num) else if v.s.kind=4 then q2j (qfv v.s.text:Nat) (qfv v.s.text:Nat) else if v.s.kind=6 then q1X v.l.length v.l.length ((v.l.map (ofM n)).foldl jM noneX)
   else if v.s.kind=7 then q3T ((q3Y v.f).map fun y=>(⟨y.1,true⟩,ofM n y.2)) else q2Z (IntKind.i64.wrap (1 * 2^min v.s.kind.toNat 64))]:=rfl
def prF (n:Nat) (y:List UInt8 × V):PK × Sch:=(⟨y.1,true⟩,ofM n y.2)
theorem qms (s:List UInt8):qfy s=qfv s:=by
 have : ∀ f k,q8f ⟨s.toArray⟩ f k=q7z s f k:=by
  intro f
  induction f with
  | zero=>intro k; rfl
  | succ f ih=>
   intro k
   unfold q8f q7z
   rw[ih]
   have hsz:(ByteArray.mk s.toArray).size=s.length:=by show s.toArray.size=_; simp
   rw[hsz]
 exact this _ _
theorem qq0 (s:List UInt8) (hs:s.length<2^24):q0e CI 988 [.str s] (.int .i64 (qfv s:Nat)):=by
 rw[←qms]
 refine qy3 (qdK (C:=q6s (q6F qaR qgj qhB) noI lnI ssQ) (qrp rfl s ?_))
 show s.length≤2147483648
 omega
def xZ (op a b:Int) (props args:AV):AV:=.agg [.int .i64 op,.int .i64 0,.int .i64 a,.int .i64 b,.str [],.snil 11,.int .i64 0,.int .i64 0,.int .i64 0,.int .i64 0,.int .i64 0,.snil 6,.snil 13,props,args]
def q3z:AV:=xZ 2 0 0 (.snil 17) (.snil 15)
def qtf (l:List V) (k:Nat) (e:AV):St:={ tmps:=q0h 101 [(2,.ptr 15 0 0 0),(3,.ptr 15 1 0 0),(55,.tsl 13 (l.map q0u)),(56,.int .i64 l.length),(57,.int .i64 k)],heap:=[.row 15 [q14] false true 0,.row 15 [xZ 9 l.length l.length (.snil 17) (.sref 15 2 0 1)] false false 1,.row 15 [e] false false 2],base:=0 }
def qwv (f:List (List UInt8 × V)) (k:Nat) (E:List AV):St:={ tmps:=q0h 101 [(2,.ptr 15 0 0 0),(3,.ptr 15 1 0 0),(77,.tsl 14 (f.map q0C)),(78,.int .i64 f.length),(79,.int .i64 k)],heap:=[.row 15 [q14] false true 0,.row 15 [xZ 10 0 0 (q31 17 2 E) (.sref 15 (if E.isEmpty then 2 else 3) 0 1)] false false 1]++q32 17 2 E++[.row 15 [q3z] false false (if E.isEmpty then 2 else 3)],base:=0 }
theorem qcx (k:Nat) (l:List Sch):sb (l.take k)≤sb l:=by
 conv=>rhs; rw[←Ve k l]
 rw[q4P]
 omega
theorem qkS {n:Nat} {l:List V} (h : ∀ x,x∈l→(ofM n x).bulk≤4 * x.bulk):sb (l.map (ofM n))≤4 * AV.bulks (l.map q0u):=by
 induction l with
 | nil=>show 0≤_; omega
 | cons x l ih=>
  have a1:=ih fun y hy=>h y (Kp _ hy)
  have a2:=h x (Kn ..)
  rw[Kj,q4C]
  simp only[Kj,AV.bulks]
  have a3:(q0u x).bulk=x.bulk:=rfl
  omega
end Ago
set_option maxRecDepth 100000
set_option maxHeartbeats 4000000
namespace Ago
open Go (IntKind)
theorem q8H : ∀ (l pre:List (List UInt8)),q5X pre l=0→l.Nodup∧∀ x,x∈l→x∉pre
 | [],pre,_=>⟨List.nodup_nil,fun x hx=>by cases hx⟩
 | x::l,pre,h=>by
  unfold q5X at h
  split at h
  ·cases h
  ·split at h
   ·cases h
   ·split at h
    ·cases h
    ·rename_i hc
     obtain ⟨h1,h2⟩:=q8H l _ h
     refine ⟨List.nodup_cons.2 ⟨fun hx=>h2 x hx (by simp),h1⟩,fun y hy hp=>?_⟩
     rcases KI.1 hy with rfl | hy
     ·exact hc (by simpa using hp)
     ·exact h2 y hy (by simp [hp])
theorem qlo {α:Type} : ∀ {l:List (List UInt8 × α)},(l.map (·.1)).Nodup→∀ a b,a∈l→b∈l→a.1=b.1→a=b
 | [],_,a,_,h,_,_=>by cases h
 | x::l,hn,a,b,ha,hb,he=>by
  rw[Kj,List.nodup_cons] at hn
  rcases KI.1 ha with h1 | h1
  ·rcases KI.1 hb with h2 | h2
   ·rw[h1,h2]
   ·refine absurd ?_ hn.1
    rw[←h1,he]
    exact Vf (f:=(·.1)) h2
  ·rcases KI.1 hb with h2 | h2
   ·refine absurd ?_ hn.1
    rw[←h2,←he]
    exact Vf (f:=(·.1)) h1
   ·exact qlo hn.2 a b h1 h2 he
theorem qrN {m:Nat} {e:List AV} {r g:Bool} {fam:Nat} (h:fam≠2) : ∀ (m':Nat) (e':List AV) (r' g':Bool) (fam':Nat),Blk.row m e r g fam = .row m' e' r' g' fam'→fam'≠2:=by
 intro _ _ _ _ _ h2
 cases h2
 exact h
def qyG:AV→List UInt8
 | .agg (.str k::_)=>k
 | _=>[]
def qkL (x y:AV):Int:=qhw (qyG x) (qyG y)
theorem q5a {a b:List UInt8}:qhw a b<0↔Go.Op.bytesLess a b=true:=by
 unfold qhw
 cases h:Go.Op.bytesLess a b with
 | true=>simp
 | false=>
  rw[if_neg (by simp)]
  split<;>simp
theorem qpN (x y:PK × Sch):q0e CI0 989 [q0g x,q0g y] (.int .i64 (qhw x.1.key y.1.key)):=by
 have hc:=qtC (upS (qhM x.1.key y.1.key))
 refine q04 (C:=CI0) qnK rfl ?_
 rw[q0f,q0f]
 (repeat' first|simp (disch:=omega) only[go_sem,qnK,enter]|refine q00 _ (hc) ?_)
 all_goals rfl
theorem qrh {n:Nat} {f:List (List UInt8 × V)} (hn:(f.map (·.1)).Nodup):OrdOn qkL ((f.map (prF n)).map q0g):=by
 have key : ∀ x,x∈(f.map (prF n)).map q0g→∃ y,y∈f∧x=q0g (prF n y):=fun x hx=>by
  obtain ⟨c,h,rfl⟩:=K0.1 hx
  obtain ⟨y,hy,rfl⟩:=K0.1 h
  exact ⟨y,hy,rfl⟩
 have ck : ∀ a b:List UInt8 × V,qkL (q0g (prF n a)) (q0g (prF n b))=qhw a.1 b.1:=fun a b=>rfl
 refine ⟨fun x hx=>?_,fun x y z hx hy hz=>?_,fun x y hx hy=>?_⟩
 ·obtain ⟨a,ha,rfl⟩:=key x hx
  rw[ck,q5a,qhf]
  simp
 ·obtain ⟨a,ha,rfl⟩:=key x hx
  obtain ⟨b,hb,rfl⟩:=key y hy
  obtain ⟨c,hc,rfl⟩:=key z hz
  rw[ck,ck,ck,q5a,q5a,q5a]
  exact qcb _ _ _
 ·obtain ⟨a,ha,rfl⟩:=key x hx
  obtain ⟨b,hb,rfl⟩:=key y hy
  rw[ck,ck,q5a,q5a]
  intro h3 h4
  rw[qlo hn a b ha hb (qf5 _ _ (by simpa using h3) (by simpa using h4))]
theorem qlM {n:Nat} {f:List (List UInt8 × V)} (hn:(f.map (·.1)).Nodup) (hne:f≠[]) (hl:f.length<2^24) (b0 b1 b3:Blk) (h0 : ∀ m e r g fam,b0 = .row m e r g fam→fam≠2) (h1 : ∀ m e r g fam,b1 = .row m e r g fam→fam≠2) (h3 : ∀ m e r g fam,b3 = .row m e r g fam→fam≠2) :
  q1K CI 861 [.sref 17 2 0 f.length,.fn 989 []] [b0,b1,.row 17 ((f.map (prF n)).map q0g) false true 2,b3] (.tup []) [b0,b1,.row 17 (((q3Y f).map (prF n)).map q0g) false true 2,b3]:=by
 have hstr:Heap.strike [b0,b1,.row 17 ((f.map (prF n)).map q0g) false true 2,b3] 2 2 0=some [b0,b1,.row 17 ((f.map (prF n)).map q0g) false true 2,b3]:=by
  have e : ∀ (b:Blk) (bs bs':List Blk) (j:Nat),(∀ m e r g fam,b = .row m e r g fam→fam≠2)→q1y 2 2 0 bs (j+1)=some bs'→q1y 2 2 0 (b::bs) j=some (b::bs'):=by
   intro b bs bs' j hb h
   unfold q1y
   rw[h]
   cases b with
   | row m e r g fam=>
    have:=hb m e r g fam rfl
    simp [this]
   | _=>rfl
  show q1y 2 2 0 _ 0=_
  refine e _ _ _ _ h0 (e _ _ _ _ h1 ?_)
  have e3:=e b3 [] [] 3 h3 rfl
  unfold q1y
  rw[e3]
  simp
 have h:=ql0 (C:=CI0) (so:=soI) (f:=861) (r:=2) (g:=989) (fam:=2) (k:=17) (els:=(f.map (prF n)).map q0g) (els':=((q3Y f).map (prF n)).map q0g) (H:=[b0,b1,.row 17 ((f.map (prF n)).map q0g) false true 2,b3]) (H1:=[b0,b1,.row 17 ((f.map (prF n)).map q0g) false true 2,b3]) qkL rfl (by simpa using hne) (by simp only[Ka,lim]; omega) rfl hstr (qrh hn)
  (fun x hx=>by
   obtain ⟨c,hc,rfl⟩:=K0.1 hx
   exact ⟨_,q0f c,rfl,rfl⟩) (fun x y hx hy=>by
   obtain ⟨a,ha,rfl⟩:=K0.1 hx
   obtain ⟨b,hb,rfl⟩:=K0.1 hy
   exact qpN a b) (((q34 f).symm.map _).map _) (by
   rw[List.pairwise_map,List.pairwise_map]
   refine (qhg f).imp fun {a b} h=>?_
   show ¬ qhw b.1 a.1<0
   rw[q5a]
   unfold leB at h
   simpa using h) (n:=f.length) (by simp)
 exact qad h
theorem of_run : ∀ (n k:Nat) (v:V),Gd k v→k≤n→v.bulk≤2^22→q0e CI 975 [q0u v] (q03 (ofM n v))
 | 0,k,v,h,hk,_=>by
  cases h
  omega
 | n+1,0,v,h,hk,_=>by cases h
 | n+1,k+1,v,h,hk,hb=>by
  have ih:=fun x hx hy=>of_run n k x (h.kids x hx) (by omega) hy
  have hfam:=fun x hx=>q5N n k x (h.kids x hx).fit (by omega)
  have hbl:=fun x hx=>q8w n k x (h.kids x hx).fit (by omega)
  obtain ⟨hown,hdec,hut,hkey⟩:ownM v=true∧q0c v.s.num=true∧utf v.s.text=true∧q5y (v.f.map (·.1))=0:=by
   cases h with
   | mk h _=>
    obtain ⟨a,b,_,c,_,_,d⟩:=qcf h
    exact ⟨a,b,c,d⟩
  obtain ⟨hk0,hk7⟩:=qhd hown
  have L:=V.lens (v:=v) (N:=2^24) (by omega)
  have l1:=L.list
  have l2:=L.fields
  have l3:=L.text
  have hns:=q0T
  refine q04 qcK rfl ?_
  rw[qht]
  by_cases h2:v.s.kind=2
  ·have hwh:=q9h (q40 v.s.num)
   rw[if_pos h2,q1P,Kj,Kt,q2I,q0a]
   unfold qax q0n
   unfold q0b at hwh
   by_cases hex:0≤v.s.num.exp
   ·rw[decide_eq_true hex] at hwh
    rw[if_pos hex]
    (repeat' first|simp (disch:=omega) only[go_sem,qcK,enter,h2]|refine q00 _ (hwh) ?_)
    all_goals rfl
   ·rw[decide_eq_false hex] at hwh
    rw[if_neg hex]
    (repeat' first|simp (disch:=omega) only[go_sem,qcK,enter,h2]|refine q00 _ (hwh) ?_)
    all_goals rfl
  rw[if_neg h2]
  by_cases h4:v.s.kind=4
  ·have hln:q0e CI 988 [.str v.s.text] (.int .i64 (qfv v.s.text:Nat)):=qq0 _ (by omega)
   rw[if_pos h4,q1P,Kj,Kt,q2p,q0a]
   (repeat' first|simp (disch:=omega) only[go_sem,qcK,enter,h4]|refine q00 _ (hln) ?_)
   all_goals rfl
  rw[if_neg h4]
  by_cases h6:v.s.kind=6
  ·rw[if_pos h6,q1P,Kj,Kt,q2t]
   have hkl : ∀ x,x∈v.l→x∈v.kids:=fun x hx=>by
    unfold V.kids
    rw[if_neg (by omega)]
    exact hx
   have hall : ∀ y,y∈v.l.map (ofM n)→FamF y:=fun y hy=>by
    obtain ⟨x,hx,rfl⟩:=K0.1 hy
    exact hfam x (hkl x hx)
   have hsum:16+sb (v.l.map (ofM n))≤2^24:=by
    have h2 : ∀ l:List V,(∀ x,x∈l→(ofM n x).bulk≤4 * x.bulk)→sb (l.map (ofM n))≤4 * AV.bulks (l.map q0u):=by
     intro l
     induction l with
     | nil=>intro _; show 0≤_; omega
     | cons x l ih=>
      intro hl
      have a1:=ih fun y hy=>hl y (Kp _ hy)
      have a2:=hl x (Kn ..)
      rw[Kj,q4C]
      simp only[Kj,AV.bulks]
      have a3:(q0u x).bulk=x.bulk:=rfl
      omega
    have h3:=h2 v.l fun x hx=>hbl x (hkl x hx)
    have h4:=v.bulk_eq
    omega
   generalize hR:q03 ((v.l.map (ofM n)).foldl jM noneX)=R
   rw[q0a]
   (repeat' first|simp (disch:=omega) only[go_sem,qcK,enter,h6,Ka]|(apply spl<;>intro h<;>try simp (disch:=omega) only[go_sem,h]))
   refine q06 (α:=Nat × AV) (fun a=>qtf v.l a.1 a.2) (fun a=>a.1≤v.l.length∧((a.1=0∧a.2=q3z)∨(0<a.1∧a.2=q03 (((v.l.take a.1).map (ofM n)).foldl jM noneX)))) (fun a=>v.l.length-a.1) (0,q3z) rfl ⟨Km _,.inl ⟨rfl,rfl⟩⟩ ?_
   rintro ⟨i,e⟩ ⟨hi,he⟩
   simp only at hi he
   by_cases hlt:i<v.l.length
   ·obtain ⟨y,hy⟩:=q05 hlt
    have hym:=Kc hy
    have hy2:=q09 (g:=q0u) hy
    have hyb:=(V.lens (v:=v) (N:=2^24) (by omega)).kids y hym
    have hrec:=ih y (hkl y hym) (by omega)
    have hnew:((v.l.take (i+1)).map (ofM n)).foldl jM noneX=jM (((v.l.take i).map (ofM n)).foldl jM noneX) (ofM n y):=by
     rw[KB,hy]
     simp
    have hmem : ∀ z,z∈(v.l.take i).map (ofM n)→FamF z:=fun z hz=>by
     obtain ⟨x,hx,rfl⟩:=K0.1 hz
     exact hfam x (hkl x (Ky hx))
    have hF:FamN (((v.l.take i).map (ofM n)).foldl jM noneX):=q5P (.inl rfl) hmem
    have hFb:=q3A (e:=noneX) (.inl rfl) hmem
    rw[q2X] at hFb
    have htk:=qcx (i+1) (v.l.map (ofM n))
    rw[←List.map_take,KB,hy] at htk
    simp only[Option.toList_some,V8,Kj,Kt,q4P,q4C] at htk
    have hjn:=(qeM hF (.inr (hfam y (hkl y hym))) (by omega)).1
    rw[←hnew] at hjn
    have hfin:q03 (((v.l.take (i+1)).map (ofM n)).foldl jM noneX)=q03 (((v.l.take (i+1)).map (ofM n)).foldl jM noneX):=rfl
    generalize hX:((v.l.take (i+1)).map (ofM n)).foldl jM noneX=X at hjn
    rw[q0a y] at hy2 hrec
    rw[q01 X] at hjn
    rcases he with ⟨rfl,rfl⟩ | ⟨hpos,rfl⟩
    ·rw[show ((v.l.take 0).map (ofM n)).foldl jM noneX=noneX from rfl,q0T] at hjn
     rw[q01 (ofM n y)] at hrec hjn
     simp only[qtf,q3z,xZ]
     (repeat' first|simp (disch:=omega) only[go_sem,hy2,Ka,q14]|refine q00 _ (hrec) ?_|refine q00 _ (hjn) ?_|(apply spl<;>intro h<;>try simp (disch:=omega) only[go_sem,h]))
     refine ⟨(0+1,q03 X),?_,⟨by simp only; omega,.inr ⟨by simp only; omega,by simp only; rw[←hX]⟩⟩,by simp only; omega⟩
     rw[q01 X]
     rfl
    ·generalize ((v.l.take i).map (ofM n)).foldl jM noneX=F at *
     rw[q01 F] at hjn
     rw[q01 (ofM n y)] at hrec hjn
     rw[q01 F]
     simp only[qtf,xZ]
     (repeat' first|simp (disch:=omega) only[go_sem,hy2,Ka,q14]|refine q00 _ (hrec) ?_|refine q00 _ (hjn) ?_|(apply spl<;>intro h<;>try simp (disch:=omega) only[go_sem,h]))
     refine ⟨(i+1,q03 X),?_,⟨by simp only; omega,.inr ⟨by simp only; omega,by simp only; rw[←hX]⟩⟩,by simp only; omega⟩
     rw[q01 X]
     rfl
   ·obtain rfl:i=v.l.length:=by omega
    rw[Kx,hR] at he
    rcases he with ⟨h0,rfl⟩ | ⟨hpos,rfl⟩
    ·have:v.l=[]:=KU.1 h0
     have hR2:R=q03 noneX:=by rw[←hR,this]; rfl
     rw[hR2,q0T]
     simp only[qtf,q3z,xZ]
     (repeat' first|simp (disch:=omega) only[go_sem,Ka,q14])
     all_goals first | rfl | (simp; done)
    ·rw[←hR]
     generalize (v.l.map (ofM n)).foldl jM noneX=X
     rw[q01 X]
     simp only[qtf,xZ]
     (repeat' first|simp (disch:=omega) only[go_sem,Ka,q14])
     all_goals first | rfl | (simp; done)
  rw[if_neg h6]
  by_cases h7:v.s.kind=7
  ·rw[if_pos h7,q1P,Kj,Kt,q0A]
   have hkl : ∀ x,x∈v.f→x.2∈v.kids:=fun x hx=>by
    unfold V.kids
    rw[if_pos h7]
    exact K0.2 ⟨x,hx,rfl⟩
   have hnd:(v.f.map (·.1)).Nodup:=(q8H _ [] hkey).1
   generalize hR:((q3Y v.f).map fun y=>((⟨y.1,true⟩,ofM n y.2):PK × Sch)).map q0g=R
   have hR2:((q3Y v.f).map (prF n)).map q0g=R:=hR
   have hRl:R.length=v.f.length:=by rw[←hR,Ka,Ka,q98]
   rw[q0a]
   (repeat' first|simp (disch:=omega) only[go_sem,qcK,enter,h7,Ka]|(apply spl<;>intro h<;>try simp (disch:=omega) only[go_sem,h]))
   refine q06 (α:=Nat × List AV) (fun a=>qwv v.f a.1 a.2) (fun a=>a.1≤v.f.length∧a.2=((v.f.take a.1).map (prF n)).map q0g) (fun a=>v.f.length-a.1) (0,[]) rfl ⟨Km _,rfl⟩ ?_
   rintro ⟨i,E⟩ ⟨hi,hE⟩
   simp only at hi hE
   by_cases hlt:i<v.f.length
   ·obtain ⟨y,hy⟩:=q05 hlt
    have hym:=Kc hy
    have hy2:=q09 (g:=q0C) hy
    have hyb:=((V.lens (v:=v) (N:=2^24) (by omega)).fkids y hym).1
    have hrec:=ih y.2 (hkl y hym) (by omega)
    have hnew:E++[q0g (prF n y)]=((v.f.take (i+1)).map (prF n)).map q0g:=by rw[hE,KB,hy]; simp
    have hEl:E.length=i:=by rw[hE]; simp; omega
    rw[q0S] at hy2
    rw[q0a y.2,q01 (ofM n y.2)] at hrec
    rcases E with _ | ⟨e0,es⟩
    all_goals
     simp only[Kb,Kd] at hEl
     simp only[qwv,q31,q32,q3z,xZ,Ku,Kq,if_true,Ke,if_false,Ko,Ks,Kb]
     (repeat' first|simp (disch:=omega) only[go_sem,hy2,Ka,q14,Kb]|refine q00 _ (hrec) ?_|(apply spl<;>intro h<;>try simp (disch:=omega) only[go_sem,h]))
     refine ⟨(i+1,_++[q0g (prF n y)]),?_,⟨hlt,hnew⟩,by simp only; omega⟩
     simp only[qwv,q31,q32,q3z,xZ,Ku,Kq,if_true,Ke,if_false,Ko,Ks,Kh,Kb,Kd]
     rw[q0f (prF n y)]
     rfl
   ·obtain rfl:i=v.f.length:=by omega
    rw[Kx] at hE
    have hEl:E.length=v.f.length:=by rw[hE]; simp
    rw[q0T]
    rcases E with _ | ⟨e0,es⟩
    ·have hR0:R=[]:=by
      have h0:R.length=0:=by rw[hRl,←hEl]; rfl
      exact KU.1 h0
     rw[hR0]
     have hs:=fun H=>qad (f0:=985) (L:=cpL) (qkf (C:=CI0) (so:=soI) (f:=861) (g:=989) (k:=17) (H:=H) rfl)
     simp only[qwv,q31,q32,q3z,xZ,Ku,Kq,if_true,Ke,if_false,Ko,Ks,Kb]
     (repeat' first|simp (disch:=omega) only[go_sem,Ka,q14]|(refine q0l _ _ (hs _) ?_))
     all_goals first | rfl | (simp; done)
    ·have hne:v.f≠[]:=fun e=>by rw[e] at hEl; cases hEl
     have hs:=fun b0 b1 b3=>qlM (n:=n) hnd hne l2 b0 b1 b3
     simp only[Kb] at hEl
     rw[←hE,←hEl,hR2] at hs
     have htk:R.take (es.length+1)=R:=KG (by omega)
     simp only[qwv,q31,q32,q3z,xZ,Ku,Kq,if_true,Ke,if_false,Ko,Ks,Kb]
     (repeat' first|simp (disch:=omega) only[go_sem,Ka,q14,Kb,htk,hRl]|(refine q0l _ _ (hs _ _ _ (qrN (by decide)) (qrN (by decide)) (qrN (by decide))) ?_))
     all_goals first | rfl | (simp; done) | trace_state
  have hneg:(v.s.kind<0)=False:=by simp; omega
  rw[if_neg h7,q1P,Kj,Kt,q59,q0a]
  (repeat' first|simp (disch:=omega) only[go_sem,qcK,enter,h2,h4,h6,h7,hneg])
  all_goals rfl
end Ago
