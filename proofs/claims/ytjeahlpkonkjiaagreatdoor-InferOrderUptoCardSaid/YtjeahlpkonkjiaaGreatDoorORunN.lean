/- Infer: joins,on both sides,of schemas of the family's form. -/
import Derived.Test.YtjeahlpkonkjiaaGreatDoorORunL
import Derived.Test.YtjeahlpkonkjiaaGreatDoorORunM
import Derived.Test.YtjeahlpkonkjiaaGreatDoorORunH
import Derived.Test.YtjeahlpkonkjiaaGreatDoorORunA
set_option linter.unusedSimpArgs false
set_option linter.unusedVariables false
set_option maxRecDepth 100000
set_option maxHeartbeats 4000000
namespace Ago
open Go (IntKind)
theorem FamF.op {x:Sch} (h:FamF x):x.s.op=12:=by
 obtain ⟨l,rfl,_⟩:=h
 rfl
theorem qaj {p:List (PK × Sch)} {x:PK × Sch} (h:x∈p):x.2.bulk+2≤pb p:=by
 have:=q1L (Va (f:=q0i) h)
 rw[qaU] at this
 show _≤AV.bulks (p.map q0i)
 omega
theorem qfZ (p:List (PK × Sch)):p.length≤pb p:=by
 have:=q1s (p.map q0i)
 rw[Ka] at this
 exact this
def qov (n:Nat):Prop:=∀ a b,FamN a→FamN b→a.bulk+b.bulk≤n→q0k CI 974 [q03 a,q03 b] (q03 (q1C n a b))∧True
theorem qpB {n:Nat} (hn:n≤2^24) (hJ:qov n) {x y:Sch} (h:Two x y) (hb:x.bulk+y.bulk≤n):q0k CI 987 [q03 x,q03 y] (q03 (q2W (q1C n) x y))∧True:=by
 cases h with
 | kind m y=>exact ⟨qiJ _ _ _,trivial⟩
 | num p q h1 h2 h3 h4=>exact ⟨qng _ _ _ h1 h2 h3 h4,trivial⟩
 | text a b c d=>exact ⟨qio _ _ _ _ _,trivial⟩
 | list a b c d x y hx hy=>
  have h1:=q26 a b x
  have h2:=q26 c d y
  obtain ⟨j1,j2⟩:=hJ x y hx hy (by omega)
  exact ⟨qkS _ _ _ _ _ _ _ (by omega) j1,trivial⟩
 | map p q hp hq=>
  have h1:=q2L p
  have h2:=q2L q
  have h3:=qfZ p
  have h4:=qfZ q
  have hj : ∀ x,x∈p→∀ y,y∈q→q0k CI 974 [q03 x.2,q03 y.2] (q03 (q1C n x.2 y.2))∧True:=fun x hx y hy=>by
   have h5:=qaj hx
   have h6:=qaj hy
   exact hJ _ _ (.inr (hp x hx)) (.inr (hq y hy)) (by omega)
  exact ⟨qnX _ _ _ (by omega) (qle _ p q (fun x hx=>⟨by rw[(hp x hx).op]; decide,by have:=qaj hx; omega⟩) (fun x hx=>⟨by rw[(hq x hx).op]; decide,by have:=qaj hx; omega⟩) (by omega) fun x hx y hy=>(hj x hx y hy).1),trivial⟩
theorem qjD : ∀ n,n≤2^24→qov n
 | 0,_=>fun a b _ _ h=>by
  have:1≤a.bulk:=q1B _
  omega
 | n+1,hn=>fun a b ha hb h=>by
  have hJ:=qjD n (by omega)
  exact ⟨qlz n (by omega) (fun x y hxy hs=>(qpB (by omega) hJ hxy hs).1) a b ha hb h,trivial⟩
theorem qoT {a b:Sch} (ha:FamN a) (hb:FamN b) (h:a.bulk+b.bulk≤2^24):q0k CI 974 [q03 a,q03 b] (q03 (jM a b))∧True:=
 qjD jn (by rw[qmq]; exact Ko _) a b ha hb (by rw[qmq]; exact h)
end Ago
set_option maxRecDepth 100000
set_option maxHeartbeats 4000000
namespace Ago
open Go (IntKind)
theorem qoa (n:Nat) (v:V):ofM (n+1) v=q1c [if v.s.kind=2 then q4j (qfo v.s.num) else if v.s.kind=4 then q24 (qpj v.s.text:Nat) (qpj v.s.text:Nat) else if v.s.kind=6 then q1I v.l.length v.l.length ((v.l.map (ofM n)).foldl jM noneX)
   else if v.s.kind=7 then q3Z ((qgr v.f).map fun y=>(⟨y.1,true⟩,ofM n y.2)) else q1W (IntKind.i64.wrap (1 * 2^min v.s.kind.toNat 64))]:=rfl
def prF (n:Nat) (y:List UInt8 × V):PK × Sch:=(⟨y.1,true⟩,ofM n y.2)
theorem qko (s:List UInt8):qec s=qpj s:=by
 have : ∀ f k,q7f ⟨s.toArray⟩ f k=qmj s f k:=by
  intro f
  induction f with
  | zero=>intro k; rfl
  | succ f ih=>
   intro k
   unfold q7f qmj
   rw[ih]
   have hsz:(ByteArray.mk s.toArray).size=s.length:=by show s.toArray.size=_; simp
   rw[hsz]
 exact this _ _
theorem qnK (s:List UInt8) (hs:s.length<2^24):q0k CI 988 [.str s] (.int .i64 (qpj s:Nat)):=by
 rw[←qko]
 refine qwV (qcN (C:=q5U (q69 qa9 qf7 qfb) noI lnI ssQ) (qq7 rfl s ?_))
 show s.length≤2147483648
 omega
def xZ (op a b:Int) (props args:AV):AV:=.agg [.int .i64 op,.int .i64 0,.int .i64 a,.int .i64 b,.str [],.snil 11,.int .i64 0,.int .i64 0,.int .i64 0,.int .i64 0,.int .i64 0,.snil 6,.snil 13,props,args]
def q3r:AV:=xZ 2 0 0 (.snil 17) (.snil 15)
def qu2 (l:List V) (k:Nat) (e:AV):St:={ tmps:=q0q 101 [(2,.ptr 15 0 0 0),(3,.ptr 15 1 0 0),(55,.tsl 13 (l.map q0u)),(56,.int .i64 l.length),(57,.int .i64 k)],heap:=[.row 15 [q1Z] false true 0,.row 15 [xZ 9 l.length l.length (.snil 17) (.sref 15 2 0 1)] false false 1,.row 15 [e] false false 2],base:=0 }
def qt4 (f:List (List UInt8 × V)) (k:Nat) (E:List AV):St:={ tmps:=q0q 101 [(2,.ptr 15 0 0 0),(3,.ptr 15 1 0 0),(77,.tsl 14 (f.map q10)),(78,.int .i64 f.length),(79,.int .i64 k)],heap:=[.row 15 [q1Z] false true 0,.row 15 [xZ 10 0 0 (q5O 17 2 E) (.sref 15 (if E.isEmpty then 2 else 3) 0 1)] false false 1]++q5Q 17 2 E++[.row 15 [q3r] false false (if E.isEmpty then 2 else 3)],base:=0 }
theorem ql9 (k:Nat) (l:List Sch):sb (l.take k)≤sb l:=by
 conv=>rhs; rw[←K6 k l]
 rw[q6X]
 omega
theorem qiK {n:Nat} {l:List V} (h : ∀ x,x∈l→(ofM n x).bulk≤4 * x.bulk):sb (l.map (ofM n))≤4 * AV.bulks (l.map q0u):=by
 induction l with
 | nil=>show 0≤_; omega
 | cons x l ih=>
  have a1:=ih fun y hy=>h y (Kl _ hy)
  have a2:=h x (Kj ..)
  rw[Km,q4d]
  simp only[Km,AV.bulks]
  have a3:(q0u x).bulk=x.bulk:=rfl
  omega
end Ago
set_option maxRecDepth 100000
set_option maxHeartbeats 4000000
namespace Ago
open Go (IntKind)
theorem q5i : ∀ (l pre:List (List UInt8)),q6w pre l=0→l.Nodup∧∀ x,x∈l→x∉pre
 | [],pre,_=>⟨List.nodup_nil,fun x hx=>by cases hx⟩
 | x::l,pre,h=>by
  unfold q6w at h
  split at h
  ·cases h
  ·split at h
   ·cases h
   ·split at h
    ·cases h
    ·rename_i hc
     obtain ⟨h1,h2⟩:=q5i l _ h
     refine ⟨List.nodup_cons.2 ⟨fun hx=>h2 x hx (by simp),h1⟩,fun y hy hp=>?_⟩
     rcases Ks.1 hy with rfl | hy
     ·exact hc (by simpa using hp)
     ·exact h2 y hy (by simp [hp])
theorem qkc {α:Type} : ∀ {l:List (List UInt8 × α)},(l.map (·.1)).Nodup→∀ a b,a∈l→b∈l→a.1=b.1→a=b
 | [],_,a,_,h,_,_=>by cases h
 | x::l,hn,a,b,ha,hb,he=>by
  rw[Km,List.nodup_cons] at hn
  rcases Ks.1 ha with h1 | h1
  ·rcases Ks.1 hb with h2 | h2
   ·rw[h1,h2]
   ·refine absurd ?_ hn.1
    rw[←h1,he]
    exact Va (f:=(·.1)) h2
  ·rcases Ks.1 hb with h2 | h2
   ·refine absurd ?_ hn.1
    rw[←h2,←he]
    exact Va (f:=(·.1)) h1
   ·exact qkc hn.2 a b h1 h2 he
theorem qqa {m:Nat} {e:List AV} {r g:Bool} {fam:Nat} (h:fam≠2) : ∀ (m':Nat) (e':List AV) (r' g':Bool) (fam':Nat),Blk.row m e r g fam = .row m' e' r' g' fam'→fam'≠2:=by
 intro _ _ _ _ _ h2
 cases h2
 exact h
def qxv:AV→List UInt8
 | .agg (.str k::_)=>k
 | _=>[]
def qiT (x y:AV):Int:=qgh (qxv x) (qxv y)
theorem q4B {a b:List UInt8}:qgh a b<0↔Go.Op.bytesLess a b=true:=by
 unfold qgh
 cases h:Go.Op.bytesLess a b with
 | true=>simp
 | false=>
  rw[if_neg (by simp)]
  split<;>simp
theorem qmT (x y:PK × Sch):q0k CI0 989 [q0i x,q0i y] (.int .i64 (qgh x.1.key y.1.key)):=by
 have hc:=qvl (upS (qgd x.1.key y.1.key))
 refine q04 (C:=CI0) qn2 rfl ?_
 rw[q0o,q0o]
 (repeat' first|simp (disch:=omega) only[go_sem,qn2,enter]|refine q00 _ (hc) ?_)
 all_goals rfl
theorem qpm {n:Nat} {f:List (List UInt8 × V)} (hn:(f.map (·.1)).Nodup):OrdOn qiT ((f.map (prF n)).map q0i):=by
 have key : ∀ x,x∈(f.map (prF n)).map q0i→∃ y,y∈f∧x=q0i (prF n y):=fun x hx=>by
  obtain ⟨c,h,rfl⟩:=KQ.1 hx
  obtain ⟨y,hy,rfl⟩:=KQ.1 h
  exact ⟨y,hy,rfl⟩
 have ck : ∀ a b:List UInt8 × V,qiT (q0i (prF n a)) (q0i (prF n b))=qgh a.1 b.1:=fun a b=>rfl
 refine ⟨fun x hx=>?_,fun x y z hx hy hz=>?_,fun x y hx hy=>?_⟩
 ·obtain ⟨a,ha,rfl⟩:=key x hx
  rw[ck,q4B,qfd]
  simp
 ·obtain ⟨a,ha,rfl⟩:=key x hx
  obtain ⟨b,hb,rfl⟩:=key y hy
  obtain ⟨c,hc,rfl⟩:=key z hz
  rw[ck,ck,ck,q4B,q4B,q4B]
  exact q8g _ _ _
 ·obtain ⟨a,ha,rfl⟩:=key x hx
  obtain ⟨b,hb,rfl⟩:=key y hy
  rw[ck,ck,q4B,q4B]
  intro h3 h4
  rw[qkc hn a b ha hb (qaN _ _ (by simpa using h3) (by simpa using h4))]
theorem qjG {n:Nat} {f:List (List UInt8 × V)} (hn:(f.map (·.1)).Nodup) (hne:f≠[]) (hl:f.length<2^24) (b0 b1 b3:Blk) (h0 : ∀ m e r g fam,b0 = .row m e r g fam→fam≠2) (h1 : ∀ m e r g fam,b1 = .row m e r g fam→fam≠2) (h3 : ∀ m e r g fam,b3 = .row m e r g fam→fam≠2) :
  q1u CI 861 [.sref 17 2 0 f.length,.fn 989 []] [b0,b1,.row 17 ((f.map (prF n)).map q0i) false true 2,b3] (.tup []) [b0,b1,.row 17 (((qgr f).map (prF n)).map q0i) false true 2,b3]:=by
 have hstr:Heap.strike [b0,b1,.row 17 ((f.map (prF n)).map q0i) false true 2,b3] 2 2 0=some [b0,b1,.row 17 ((f.map (prF n)).map q0i) false true 2,b3]:=by
  have e : ∀ (b:Blk) (bs bs':List Blk) (j:Nat),(∀ m e r g fam,b = .row m e r g fam→fam≠2)→q1i 2 2 0 bs (j+1)=some bs'→q1i 2 2 0 (b::bs) j=some (b::bs'):=by
   intro b bs bs' j hb h
   unfold q1i
   rw[h]
   cases b with
   | row m e r g fam=>
    have:=hb m e r g fam rfl
    simp [this]
   | _=>rfl
  show q1i 2 2 0 _ 0=_
  refine e _ _ _ _ h0 (e _ _ _ _ h1 ?_)
  have e3:=e b3 [] [] 3 h3 rfl
  unfold q1i
  rw[e3]
  simp
 have h:=qk2 (C:=CI0) (so:=soI) (f:=861) (r:=2) (g:=989) (fam:=2) (k:=17) (els:=(f.map (prF n)).map q0i) (els':=((qgr f).map (prF n)).map q0i) (H:=[b0,b1,.row 17 ((f.map (prF n)).map q0i) false true 2,b3]) (H1:=[b0,b1,.row 17 ((f.map (prF n)).map q0i) false true 2,b3]) qiT rfl (by simpa using hne) (by simp only[Ka,lim]; omega) rfl hstr (qpm hn)
  (fun x hx=>by
   obtain ⟨c,hc,rfl⟩:=KQ.1 hx
   exact ⟨_,q0o c,rfl,rfl⟩) (fun x y hx hy=>by
   obtain ⟨a,ha,rfl⟩:=KQ.1 hx
   obtain ⟨b,hb,rfl⟩:=KQ.1 hy
   exact qmT a b) (((q3h f).symm.map _).map _) (by
   rw[List.pairwise_map,List.pairwise_map]
   refine (qfH f).imp fun {a b} h=>?_
   show ¬ qgh b.1 a.1<0
   rw[q4B]
   unfold leB at h
   simpa using h) (n:=f.length) (by simp)
 exact q8L h
theorem of_run : ∀ (n k:Nat) (v:V),Gd k v→k≤n→v.bulk≤2^22→q0k CI 975 [q0u v] (q03 (ofM n v))
 | 0,k,v,h,hk,_=>by
  cases h
  omega
 | n+1,0,v,h,hk,_=>by cases h
 | n+1,k+1,v,h,hk,hb=>by
  have ih:=fun x hx hy=>of_run n k x (h.kids x hx) (by omega) hy
  have hfam:=fun x hx=>q6F n k x (h.kids x hx).fit (by omega)
  have hbl:=fun x hx=>q79 n k x (h.kids x hx).fit (by omega)
  obtain ⟨hown,hdec,hut,hkey⟩:ownM v=true∧q0a v.s.num=true∧utf v.s.text=true∧q5N (v.f.map (·.1))=0:=by
   cases h with
   | mk h _=>
    obtain ⟨a,b,_,c,_,_,d⟩:=q85 h
    exact ⟨a,b,c,d⟩
  obtain ⟨hk0,hk7⟩:=qbO hown
  have L:=V.lens (v:=v) (N:=2^24) (by omega)
  have l1:=L.list
  have l2:=L.fields
  have l3:=L.text
  have hns:=q3A
  refine q04 qbn rfl ?_
  rw[qoa]
  by_cases h2:v.s.kind=2
  ·have hwh:=qll (q3E v.s.num)
   rw[if_pos h2,q4f,Km,Kx,q4N,q08]
   unfold qfo q0m
   unfold q0h at hwh
   by_cases hex:0≤v.s.num.exp
   ·rw[decide_eq_true hex] at hwh
    rw[if_pos hex]
    (repeat' first|simp (disch:=omega) only[go_sem,qbn,enter,h2]|refine q00 _ (hwh) ?_)
    all_goals rfl
   ·rw[decide_eq_false hex] at hwh
    rw[if_neg hex]
    (repeat' first|simp (disch:=omega) only[go_sem,qbn,enter,h2]|refine q00 _ (hwh) ?_)
    all_goals rfl
  rw[if_neg h2]
  by_cases h4:v.s.kind=4
  ·have hln:q0k CI 988 [.str v.s.text] (.int .i64 (qpj v.s.text:Nat)):=qnK _ (by omega)
   rw[if_pos h4,q4f,Km,Kx,q4W,q08]
   (repeat' first|simp (disch:=omega) only[go_sem,qbn,enter,h4]|refine q00 _ (hln) ?_)
   all_goals rfl
  rw[if_neg h4]
  by_cases h6:v.s.kind=6
  ·rw[if_pos h6,q4f,Km,Kx,q4Q]
   have hkl : ∀ x,x∈v.l→x∈v.kids:=fun x hx=>by
    unfold V.kids
    rw[if_neg (by omega)]
    exact hx
   have hall : ∀ y,y∈v.l.map (ofM n)→FamF y:=fun y hy=>by
    obtain ⟨x,hx,rfl⟩:=KQ.1 hy
    exact hfam x (hkl x hx)
   have hsum:16+sb (v.l.map (ofM n))≤2^24:=by
    have h2 : ∀ l:List V,(∀ x,x∈l→(ofM n x).bulk≤4 * x.bulk)→sb (l.map (ofM n))≤4 * AV.bulks (l.map q0u):=by
     intro l
     induction l with
     | nil=>intro _; show 0≤_; omega
     | cons x l ih=>
      intro hl
      have a1:=ih fun y hy=>hl y (Kl _ hy)
      have a2:=hl x (Kj ..)
      rw[Km,q4d]
      simp only[Km,AV.bulks]
      have a3:(q0u x).bulk=x.bulk:=rfl
      omega
    have h3:=h2 v.l fun x hx=>hbl x (hkl x hx)
    have h4:=v.bulk_eq
    omega
   generalize hR:q03 ((v.l.map (ofM n)).foldl jM noneX)=R
   rw[q08]
   (repeat' first|simp (disch:=omega) only[go_sem,qbn,enter,h6,Ka]|(apply spl<;>intro h<;>try simp (disch:=omega) only[go_sem,h]))
   refine q07 (α:=Nat × AV) (fun a=>qu2 v.l a.1 a.2) (fun a=>a.1≤v.l.length∧((a.1=0∧a.2=q3r)∨(0<a.1∧a.2=q03 (((v.l.take a.1).map (ofM n)).foldl jM noneX)))) (fun a=>v.l.length-a.1) (0,q3r) rfl ⟨Kp _,.inl ⟨rfl,rfl⟩⟩ ?_
   rintro ⟨i,e⟩ ⟨hi,he⟩
   simp only at hi he
   by_cases hlt:i<v.l.length
   ·obtain ⟨y,hy⟩:=q06 hlt
    have hym:=Kc hy
    have hy2:=q0c (g:=q0u) hy
    have hyb:=(V.lens (v:=v) (N:=2^24) (by omega)).kids y hym
    have hrec:=ih y (hkl y hym) (by omega)
    have hnew:((v.l.take (i+1)).map (ofM n)).foldl jM noneX=jM (((v.l.take i).map (ofM n)).foldl jM noneX) (ofM n y):=by
     rw[KG,hy]
     simp
    have hmem : ∀ z,z∈(v.l.take i).map (ofM n)→FamF z:=fun z hz=>by
     obtain ⟨x,hx,rfl⟩:=KQ.1 hz
     exact hfam x (hkl x (Kt hx))
    have hF:FamN (((v.l.take i).map (ofM n)).foldl jM noneX):=q8N (.inl rfl) hmem
    have hFb:=q4t (e:=noneX) (.inl rfl) hmem
    rw[q4p] at hFb
    have htk:=ql9 (i+1) (v.l.map (ofM n))
    rw[←List.map_take,KG,hy] at htk
    simp only[Option.toList_some,VX,Km,Kx,q6X,q4d] at htk
    have hjn:=(qoT hF (.inr (hfam y (hkl y hym))) (by omega)).1
    rw[←hnew] at hjn
    have hfin:q03 (((v.l.take (i+1)).map (ofM n)).foldl jM noneX)=q03 (((v.l.take (i+1)).map (ofM n)).foldl jM noneX):=rfl
    generalize hX:((v.l.take (i+1)).map (ofM n)).foldl jM noneX=X at hjn
    rw[q08 y] at hy2 hrec
    rw[q02 X] at hjn
    rcases he with ⟨rfl,rfl⟩ | ⟨hpos,rfl⟩
    ·rw[show ((v.l.take 0).map (ofM n)).foldl jM noneX=noneX from rfl,q3A] at hjn
     rw[q02 (ofM n y)] at hrec hjn
     simp only[qu2,q3r,xZ]
     (repeat' first|simp (disch:=omega) only[go_sem,hy2,Ka,q1Z]|refine q00 _ (hrec) ?_|refine q00 _ (hjn) ?_|(apply spl<;>intro h<;>try simp (disch:=omega) only[go_sem,h]))
     refine ⟨(0+1,q03 X),?_,⟨by simp only; omega,.inr ⟨by simp only; omega,by simp only; rw[←hX]⟩⟩,by simp only; omega⟩
     rw[q02 X]
     rfl
    ·generalize ((v.l.take i).map (ofM n)).foldl jM noneX=F at *
     rw[q02 F] at hjn
     rw[q02 (ofM n y)] at hrec hjn
     rw[q02 F]
     simp only[qu2,xZ]
     (repeat' first|simp (disch:=omega) only[go_sem,hy2,Ka,q1Z]|refine q00 _ (hrec) ?_|refine q00 _ (hjn) ?_|(apply spl<;>intro h<;>try simp (disch:=omega) only[go_sem,h]))
     refine ⟨(i+1,q03 X),?_,⟨by simp only; omega,.inr ⟨by simp only; omega,by simp only; rw[←hX]⟩⟩,by simp only; omega⟩
     rw[q02 X]
     rfl
   ·obtain rfl:i=v.l.length:=by omega
    rw[Kz,hR] at he
    rcases he with ⟨h0,rfl⟩ | ⟨hpos,rfl⟩
    ·have:v.l=[]:=KX.1 h0
     have hR2:R=q03 noneX:=by rw[←hR,this]; rfl
     rw[hR2,q3A]
     simp only[qu2,q3r,xZ]
     (repeat' first|simp (disch:=omega) only[go_sem,Ka,q1Z])
     all_goals first | rfl | (simp; done)
    ·rw[←hR]
     generalize (v.l.map (ofM n)).foldl jM noneX=X
     rw[q02 X]
     simp only[qu2,xZ]
     (repeat' first|simp (disch:=omega) only[go_sem,Ka,q1Z])
     all_goals first | rfl | (simp; done)
  rw[if_neg h6]
  by_cases h7:v.s.kind=7
  ·rw[if_pos h7,q4f,Km,Kx,q1f]
   have hkl : ∀ x,x∈v.f→x.2∈v.kids:=fun x hx=>by
    unfold V.kids
    rw[if_pos h7]
    exact KQ.2 ⟨x,hx,rfl⟩
   have hnd:(v.f.map (·.1)).Nodup:=(q5i _ [] hkey).1
   generalize hR:((qgr v.f).map fun y=>((⟨y.1,true⟩,ofM n y.2):PK × Sch)).map q0i=R
   have hR2:((qgr v.f).map (prF n)).map q0i=R:=hR
   have hRl:R.length=v.f.length:=by rw[←hR,Ka,Ka,qlD]
   rw[q08]
   (repeat' first|simp (disch:=omega) only[go_sem,qbn,enter,h7,Ka]|(apply spl<;>intro h<;>try simp (disch:=omega) only[go_sem,h]))
   refine q07 (α:=Nat × List AV) (fun a=>qt4 v.f a.1 a.2) (fun a=>a.1≤v.f.length∧a.2=((v.f.take a.1).map (prF n)).map q0i) (fun a=>v.f.length-a.1) (0,[]) rfl ⟨Kp _,rfl⟩ ?_
   rintro ⟨i,E⟩ ⟨hi,hE⟩
   simp only at hi hE
   by_cases hlt:i<v.f.length
   ·obtain ⟨y,hy⟩:=q06 hlt
    have hym:=Kc hy
    have hy2:=q0c (g:=q10) hy
    have hyb:=((V.lens (v:=v) (N:=2^24) (by omega)).fkids y hym).1
    have hrec:=ih y.2 (hkl y hym) (by omega)
    have hnew:E++[q0i (prF n y)]=((v.f.take (i+1)).map (prF n)).map q0i:=by rw[hE,KG,hy]; simp
    have hEl:E.length=i:=by rw[hE]; simp; omega
    rw[q2a] at hy2
    rw[q08 y.2,q02 (ofM n y.2)] at hrec
    rcases E with _ | ⟨e0,es⟩
    all_goals
     simp only[Kb,Kg] at hEl
     simp only[qt4,q5O,q5Q,q3r,xZ,KA,Ku,if_true,Ke,if_false,Kr,Kv,Kb]
     (repeat' first|simp (disch:=omega) only[go_sem,hy2,Ka,q1Z,Kb]|refine q00 _ (hrec) ?_|(apply spl<;>intro h<;>try simp (disch:=omega) only[go_sem,h]))
     refine ⟨(i+1,_++[q0i (prF n y)]),?_,⟨hlt,hnew⟩,by simp only; omega⟩
     simp only[qt4,q5O,q5Q,q3r,xZ,KA,Ku,if_true,Ke,if_false,Kr,Kv,Kk,Kb,Kg]
     rw[q0o (prF n y)]
     rfl
   ·obtain rfl:i=v.f.length:=by omega
    rw[Kz] at hE
    have hEl:E.length=v.f.length:=by rw[hE]; simp
    rw[q3A]
    rcases E with _ | ⟨e0,es⟩
    ·have hR0:R=[]:=by
      have h0:R.length=0:=by rw[hRl,←hEl]; rfl
      exact KX.1 h0
     rw[hR0]
     have hs:=fun H=>q8L (f0:=985) (L:=cpL) (qkf (C:=CI0) (so:=soI) (f:=861) (g:=989) (k:=17) (H:=H) rfl)
     simp only[qt4,q5O,q5Q,q3r,xZ,KA,Ku,if_true,Ke,if_false,Kr,Kv,Kb]
     (repeat' first|simp (disch:=omega) only[go_sem,Ka,q1Z]|(refine q0f _ _ (hs _) ?_))
     all_goals first | rfl | (simp; done)
    ·have hne:v.f≠[]:=fun e=>by rw[e] at hEl; cases hEl
     have hs:=fun b0 b1 b3=>qjG (n:=n) hnd hne l2 b0 b1 b3
     simp only[Kb] at hEl
     rw[←hE,←hEl,hR2] at hs
     have htk:R.take (es.length+1)=R:=KJ (by omega)
     simp only[qt4,q5O,q5Q,q3r,xZ,KA,Ku,if_true,Ke,if_false,Kr,Kv,Kb]
     (repeat' first|simp (disch:=omega) only[go_sem,Ka,q1Z,Kb,htk,hRl]|(refine q0f _ _ (hs _ _ _ (qqa (by decide)) (qqa (by decide)) (qqa (by decide))) ?_))
     all_goals first | rfl | (simp; done) | trace_state
  have hneg:(v.s.kind<0)=False:=by simp; omega
  rw[if_neg h7,q4f,Km,Kx,q8j,q08]
  (repeat' first|simp (disch:=omega) only[go_sem,qbn,enter,h2,h4,h6,h7,hneg])
  all_goals rfl
end Ago
