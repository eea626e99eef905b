/- Infer: joins,on both sides,of schemas of the family's form. -/
import Derived.Test.YtkibapblgbdhmaaGreatDoorRunL
import Derived.Test.YtkibapblgbdhmaaGreatDoorRunM
import Derived.Test.YtkibapblgbdhmaaGreatDoorRunH
import Derived.Test.YtkibapblgbdhmaaGreatDoorRunA
set_option linter.unusedSimpArgs false
set_option linter.unusedVariables false
set_option maxRecDepth 100000
set_option maxHeartbeats 4000000
namespace Ago
open Go (IntKind)
theorem FamF.op {x:Sch} (h:FamF x):x.s.op=12:=by
 obtain ⟨l,rfl,_⟩:=h
 rfl
theorem qe5 {p:List (PK × Sch)} {x:PK × Sch} (h:x∈p):x.2.bulk+2≤pb p:=by
 have:=q1r (List.mem_map_of_mem (f:=q0h) h)
 rw[q91] at this
 show _≤AV.bulks (p.map q0h)
 omega
theorem qly (p:List (PK × Sch)):p.length≤pb p:=by
 have:=q1g (p.map q0h)
 rw[List.length_map] at this
 exact this
def qlp (n:Nat):Prop:=∀ a b,q8u a→q8u b→a.bulk+b.bulk≤n→q0f CI 974 [q03 a,q03 b] (q03 (q1Y n a b))∧q0f CI 978 [q03 a,q03 b] (q03 (q1Y n a b))
theorem qiA {n:Nat} (hn:n≤2^24) (hJ:qlp n) {x y:Sch} (h:Two x y) (hb:x.bulk+y.bulk≤n):q0f CI 987 [q03 x,q03 y] (q03 (q2U (q1Y n) x y))∧q0f CI 991 [q03 x,q03 y] (q03 (q2U (q1Y n) x y)):=by
 cases h with
 | kind m y=>exact ⟨qhF _ _ _,qci _ _ _⟩
 | num p q h1 h2 h3 h4=>exact ⟨ql7 _ _ _ h1 h2 h3 h4,qdw _ _ _ h1 h2 h3 h4⟩
 | text a b c d=>exact ⟨qhG _ _ _ _ _,qcb _ _ _ _ _⟩
 | list a b c d x y hx hy=>
  have h1:=q3b a b x
  have h2:=q3b c d y
  obtain ⟨j1,j2⟩:=hJ x y hx hy (by omega)
  exact ⟨qio _ _ _ _ _ _ _ (by omega) j1,qbF _ _ _ _ _ _ _ j2⟩
 | map p q hp hq=>
  have h1:=q3P p
  have h2:=q3P q
  have h3:=qly p
  have h4:=qly q
  have hj : ∀ x,x∈p→∀ y,y∈q→q0f CI 974 [q03 x.2,q03 y.2] (q03 (q1Y n x.2 y.2))∧q0f CI 978 [q03 x.2,q03 y.2] (q03 (q1Y n x.2 y.2)):=fun x hx y hy=>by
   have h5:=qe5 hx
   have h6:=qe5 hy
   exact hJ _ _ (.inr (hp x hx)) (.inr (hq y hy)) (by omega)
  exact ⟨qjL _ _ _ (by omega) (qi2 _ p q (fun x hx=>⟨by rw[(hp x hx).op]; decide,by have:=qe5 hx; omega⟩) (fun x hx=>⟨by rw[(hq x hx).op]; decide,by have:=qe5 hx; omega⟩) (by omega) fun x hx y hy=>(hj x hx y hy).1),
   qdq _ _ _ (qcl _ p q (by omega) fun x hx y hy=>(hj x hx y hy).2)⟩
theorem qhr : ∀ n,n≤2^24→qlp n
 | 0,_=>fun a b _ _ h=>by
  have:1≤a.bulk:=q1b _
  omega
 | n+1,hn=>fun a b ha hb h=>by
  have hJ:=qhr n (by omega)
  exact ⟨qj3 n (by omega) (fun x y hxy hs=>(qiA (by omega) hJ hxy hs).1) a b ha hb h,qdv n (by omega) (fun x y hxy hs=>(qiA (by omega) hJ hxy hs).2) a b ha hb h⟩
theorem qex {a b:Sch} (ha:q8u a) (hb:q8u b) (h:a.bulk+b.bulk≤2^24):q0f CI 974 [q03 a,q03 b] (q03 (jM a b))∧q0f CI 978 [q03 a,q03 b] (q03 (jM a b)):=
 qhr jn (by rw[qmz]; exact Nat.le_refl _) a b ha hb (by rw[qmz]; exact h)
end Ago
set_option maxRecDepth 100000
set_option maxHeartbeats 4000000
namespace Ago
open Go (IntKind)
theorem qez (n:Nat) (v:V):ofM (n+1) v=q1n [if v.s.kind=2 then q68 (q8r v.s.num) else if v.s.kind=4 then q3l (qcq v.s.text:Nat) (qcq v.s.text:Nat) else if v.s.kind=6 then q2V v.l.length v.l.length ((v.l.map (ofM n)).foldl jM noneX)
   else if v.s.kind=7 then q6e ((q30 v.f).map fun y=>(⟨y.1,true⟩,ofM n y.2)) else q35 (IntKind.i64.wrap (1 * 2^min v.s.kind.toNat 64))]:=rfl
def prF (n:Nat) (y:List UInt8 × V):PK × Sch:=(⟨y.1,true⟩,ofM n y.2)
theorem qh9 (s:List UInt8):qda s=qcq s:=by
 have : ∀ f k,q6k ⟨s.toArray⟩ f k=q5z s f k:=by
  intro f
  induction f with
  | zero=>intro k; rfl
  | succ f ih=>
   intro k
   unfold q6k q5z
   rw[ih]
   have hsz:(ByteArray.mk s.toArray).size=s.length:=by show s.toArray.size=_; simp
   rw[hsz]
 exact this _ _
theorem qji (s:List UInt8) (hs:s.length<2^24):q0f CI 988 [.str s] (.int .i64 (qcq s:Nat)):=by
 rw[←qh9]
 refine qr1 (qbt (C:=q5c (q5g q8S qd3 qdJ) noI lnI ssQ) (qmF rfl s ?_))
 show s.length≤2147483648
 omega
def xZ (op a b:Int) (props args:AV):AV:=.agg [.int .i64 op,.int .i64 0,.int .i64 a,.int .i64 b,.str [],.snil 11,.int .i64 0,.int .i64 0,.int .i64 0,.int .i64 0,.int .i64 0,.snil 6,.snil 13,props,args]
def q2D:AV:=xZ 2 0 0 (.snil 17) (.snil 15)
def qpg (l:List V) (k:Nat) (e:AV):St:={ tmps:=q0i 101 [(2,.ptr 15 0 0 0),(3,.ptr 15 1 0 0),(55,.tsl 13 (l.map q0j)),(56,.int .i64 l.length),(57,.int .i64 k)],heap:=[.row 15 [q0O] false true 0,.row 15 [xZ 9 l.length l.length (.snil 17) (.sref 15 2 0 1)] false false 1,.row 15 [e] false false 2],base:=0 }
def qnz (f:List (List UInt8 × V)) (k:Nat) (E:List AV):St:={ tmps:=q0i 101 [(2,.ptr 15 0 0 0),(3,.ptr 15 1 0 0),(77,.tsl 14 (f.map q0r)),(78,.int .i64 f.length),(79,.int .i64 k)],heap:=[.row 15 [q0O] false true 0,.row 15 [xZ 10 0 0 (q2k 17 2 E) (.sref 15 (if E.isEmpty then 2 else 3) 0 1)] false false 1]++q2j 17 2 E++[.row 15 [q2D] false false (if E.isEmpty then 2 else 3)],base:=0 }
theorem qaD (k:Nat) (l:List Sch):sb (l.take k)≤sb l:=by
 conv=>rhs; rw[←List.take_append_drop k l]
 rw[q3V]
 omega
theorem qeH {n:Nat} {l:List V} (h : ∀ x,x∈l→(ofM n x).bulk≤4 * x.bulk):sb (l.map (ofM n))≤4 * AV.bulks (l.map q0j):=by
 induction l with
 | nil=>show 0≤_; omega
 | cons x l ih=>
  have a1:=ih fun y hy=>h y (List.mem_cons_of_mem _ hy)
  have a2:=h x (List.mem_cons_self ..)
  rw[List.map_cons,q3u]
  simp only[List.map_cons,AV.bulks]
  have a3:(q0j x).bulk=x.bulk:=rfl
  omega
end Ago
set_option maxRecDepth 100000
set_option maxHeartbeats 4000000
namespace Ago
open Go (IntKind)
theorem q6D : ∀ (l pre:List (List UInt8)),q4y pre l=0→l.Nodup∧∀ x,x∈l→x∉pre
 | [],pre,_=>⟨List.nodup_nil,fun x hx=>by cases hx⟩
 | x::l,pre,h=>by
  unfold q4y at h
  split at h
  ·cases h
  ·split at h
   ·cases h
   ·split at h
    ·cases h
    ·rename_i hc
     obtain ⟨h1,h2⟩:=q6D l _ h
     refine ⟨List.nodup_cons.2 ⟨fun hx=>h2 x hx (by simp),h1⟩,fun y hy hp=>?_⟩
     rcases List.mem_cons.1 hy with rfl | hy
     ·exact hc (by simpa using hp)
     ·exact h2 y hy (by simp [hp])
theorem qhu {α:Type} : ∀ {l:List (List UInt8 × α)},(l.map (·.1)).Nodup→∀ a b,a∈l→b∈l→a.1=b.1→a=b
 | [],_,a,_,h,_,_=>by cases h
 | x::l,hn,a,b,ha,hb,he=>by
  rw[List.map_cons,List.nodup_cons] at hn
  rcases List.mem_cons.1 ha with h1 | h1
  ·rcases List.mem_cons.1 hb with h2 | h2
   ·rw[h1,h2]
   ·refine absurd ?_ hn.1
    rw[←h1,he]
    exact List.mem_map_of_mem (f:=(·.1)) h2
  ·rcases List.mem_cons.1 hb with h2 | h2
   ·refine absurd ?_ hn.1
    rw[←h2,←he]
    exact List.mem_map_of_mem (f:=(·.1)) h1
   ·exact qhu hn.2 a b h1 h2 he
theorem qn4 {m:Nat} {e:List AV} {r g:Bool} {fam:Nat} (h:fam≠2) : ∀ (m':Nat) (e':List AV) (r' g':Bool) (fam':Nat),Blk.row m e r g fam = .row m' e' r' g' fam'→fam'≠2:=by
 intro _ _ _ _ _ h2
 cases h2
 exact h
def qrs:AV→List UInt8
 | .agg (.str k::_)=>k
 | _=>[]
def qhD (x y:AV):Int:=qeB (qrs x) (qrs y)
theorem q4e {a b:List UInt8}:qeB a b<0↔Go.Op.bytesLess a b=true:=by
 unfold qeB
 cases h:Go.Op.bytesLess a b with
 | true=>simp
 | false=>
  rw[if_neg (by simp)]
  split<;>simp
theorem qkt (x y:PK × Sch):q0f CI0 989 [q0h x,q0h y] (.int .i64 (qeB x.1.key y.1.key)):=by
 have hc:=qnW (upS (qee x.1.key y.1.key))
 refine q04 (C:=CI0) qkR rfl ?_
 rw[q0m,q0m]
 (repeat' first|simp (disch:=omega) only[go_sem,qkR,enter]|refine q00 _ (hc) ?_|(apply spl<;>intro h<;>try simp (disch:=omega) only[go_sem,h]))
 all_goals rfl
theorem qmC {n:Nat} {f:List (List UInt8 × V)} (hn:(f.map (·.1)).Nodup):OrdOn qhD ((f.map (prF n)).map q0h):=by
 have key : ∀ x,x∈(f.map (prF n)).map q0h→∃ y,y∈f∧x=q0h (prF n y):=fun x hx=>by
  obtain ⟨c,h,rfl⟩:=List.mem_map.1 hx
  obtain ⟨y,hy,rfl⟩:=List.mem_map.1 h
  exact ⟨y,hy,rfl⟩
 have ck : ∀ a b:List UInt8 × V,qhD (q0h (prF n a)) (q0h (prF n b))=qeB a.1 b.1:=fun a b=>rfl
 refine ⟨fun x hx=>?_,fun x y z hx hy hz=>?_,fun x y hx hy=>?_⟩
 ·obtain ⟨a,ha,rfl⟩:=key x hx
  rw[ck,q4e,qeJ]
  simp
 ·obtain ⟨a,ha,rfl⟩:=key x hx
  obtain ⟨b,hb,rfl⟩:=key y hy
  obtain ⟨c,hc,rfl⟩:=key z hz
  rw[ck,ck,ck,q4e,q4e,q4e]
  exact q9V _ _ _
 ·obtain ⟨a,ha,rfl⟩:=key x hx
  obtain ⟨b,hb,rfl⟩:=key y hy
  rw[ck,ck,q4e,q4e]
  intro h3 h4
  rw[qhu hn a b ha hb (qbf _ _ (by simpa using h3) (by simpa using h4))]
theorem qiz {n:Nat} {f:List (List UInt8 × V)} (hn:(f.map (·.1)).Nodup) (hne:f≠[]) (hl:f.length<2^24) (b0 b1 b3:Blk) (h0 : ∀ m e r g fam,b0 = .row m e r g fam→fam≠2) (h1 : ∀ m e r g fam,b1 = .row m e r g fam→fam≠2) (h3 : ∀ m e r g fam,b3 = .row m e r g fam→fam≠2) :
  q1M CI 861 [.sref 17 2 0 f.length,.fn 989 []] [b0,b1,.row 17 ((f.map (prF n)).map q0h) false true 2,b3] (.tup []) [b0,b1,.row 17 (((q30 f).map (prF n)).map q0h) false true 2,b3]:=by
 have hstr:Heap.strike [b0,b1,.row 17 ((f.map (prF n)).map q0h) false true 2,b3] 2 2 0=some [b0,b1,.row 17 ((f.map (prF n)).map q0h) false true 2,b3]:=by
  have e : ∀ (b:Blk) (bs bs':List Blk) (j:Nat),(∀ m e r g fam,b = .row m e r g fam→fam≠2)→q1i 2 2 0 bs (j+1)=some bs'→q1i 2 2 0 (b::bs) j=some (b::bs'):=by
   intro b bs bs' j hb h
   unfold q1i
   rw[h]
   cases b with
   | row m e r g fam=>
    have:=hb m e r g fam rfl
    simp [this]
   | _=>rfl
  show q1i 2 2 0 _ 0=_
  refine e _ _ _ _ h0 (e _ _ _ _ h1 ?_)
  have e3:=e b3 [] [] 3 h3 rfl
  unfold q1i
  rw[e3]
  simp
 have h:=qhh (C:=CI0) (so:=soI) (f:=861) (r:=2) (g:=989) (fam:=2) (k:=17) (els:=(f.map (prF n)).map q0h) (els':=((q30 f).map (prF n)).map q0h) (H:=[b0,b1,.row 17 ((f.map (prF n)).map q0h) false true 2,b3]) (H1:=[b0,b1,.row 17 ((f.map (prF n)).map q0h) false true 2,b3]) qhD rfl (by simpa using hne) (by simp only[List.length_map,lim]; omega) rfl hstr (qmC hn)
  (fun x hx=>by
   obtain ⟨c,hc,rfl⟩:=List.mem_map.1 hx
   exact ⟨_,q0m c,rfl,rfl⟩) (fun x y hx hy=>by
   obtain ⟨a,ha,rfl⟩:=List.mem_map.1 hx
   obtain ⟨b,hb,rfl⟩:=List.mem_map.1 hy
   exact qkt a b) (((q2q f).symm.map _).map _) (by
   rw[List.pairwise_map,List.pairwise_map]
   refine (qeh f).imp fun {a b} h=>?_
   show ¬ qeB b.1 a.1<0
   rw[q4e]
   unfold leB at h
   simpa using h) (n:=f.length) (by simp)
 exact q7Z h
theorem of_run : ∀ (n k:Nat) (v:V),Gd k v→k≤n→v.bulk≤2^22→q0f CI 975 [q0j v] (q03 (ofM n v))
 | 0,k,v,h,hk,_=>by
  cases h
  omega
 | n+1,0,v,h,hk,_=>by cases h
 | n+1,k+1,v,h,hk,hb=>by
  have ih:=fun x hx hy=>of_run n k x (h.kids x hx) (by omega) hy
  have hfam:=fun x hx=>q4l n k x (h.kids x hx).fit (by omega)
  have hbl:=fun x hx=>q5h n k x (h.kids x hx).fit (by omega)
  obtain ⟨hown,hdec,hut,hkey⟩:ownM v=true∧q0Q v.s.num=true∧utf v.s.text=true∧q4q (v.f.map (·.1))=0:=by
   cases h with
   | mk h _=>
    obtain ⟨a,b,_,c,_,_,d⟩:=qag h
    exact ⟨a,b,c,d⟩
  obtain ⟨hk0,hk7⟩:=qdM hown
  have L:=V.lens (v:=v) (N:=2^24) (by omega)
  have l1:=L.list
  have l2:=L.fields
  have l3:=L.text
  have hns:=q0H
  refine q04 q9W rfl ?_
  rw[qez]
  by_cases h2:v.s.kind=2
  ·have hwh:=qnn (qfZ v.s.num)
   rw[if_pos h2,q1A,List.map_cons,List.map_nil,q3i,q07]
   unfold q8r q0p
   unfold q11 at hwh
   by_cases hex:0≤v.s.num.exp
   ·rw[decide_eq_true hex] at hwh
    rw[if_pos hex]
    (repeat' first|simp (disch:=omega) only[go_sem,q9W,enter,h2]|refine q00 _ (hwh) ?_|(apply spl<;>intro h<;>try simp (disch:=omega) only[go_sem,h]))
    all_goals rfl
   ·rw[decide_eq_false hex] at hwh
    rw[if_neg hex]
    (repeat' first|simp (disch:=omega) only[go_sem,q9W,enter,h2]|refine q00 _ (hwh) ?_|(apply spl<;>intro h<;>try simp (disch:=omega) only[go_sem,h]))
    all_goals rfl
  rw[if_neg h2]
  by_cases h4:v.s.kind=4
  ·have hln:q0f CI 988 [.str v.s.text] (.int .i64 (qcq v.s.text:Nat)):=qji _ (by omega)
   rw[if_pos h4,q1A,List.map_cons,List.map_nil,q34,q07]
   (repeat' first|simp (disch:=omega) only[go_sem,q9W,enter,h4]|refine q00 _ (hln) ?_|(apply spl<;>intro h<;>try simp (disch:=omega) only[go_sem,h]))
   all_goals rfl
  rw[if_neg h4]
  by_cases h6:v.s.kind=6
  ·rw[if_pos h6,q1A,List.map_cons,List.map_nil,q2Z]
   have hkl : ∀ x,x∈v.l→x∈v.kids:=fun x hx=>by
    unfold V.kids
    rw[if_neg (by omega)]
    exact hx
   have hall : ∀ y,y∈v.l.map (ofM n)→FamF y:=fun y hy=>by
    obtain ⟨x,hx,rfl⟩:=List.mem_map.1 hy
    exact hfam x (hkl x hx)
   have hsum:16+sb (v.l.map (ofM n))≤2^24:=by
    have h2 : ∀ l:List V,(∀ x,x∈l→(ofM n x).bulk≤4 * x.bulk)→sb (l.map (ofM n))≤4 * AV.bulks (l.map q0j):=by
     intro l
     induction l with
     | nil=>intro _; show 0≤_; omega
     | cons x l ih=>
      intro hl
      have a1:=ih fun y hy=>hl y (List.mem_cons_of_mem _ hy)
      have a2:=hl x (List.mem_cons_self ..)
      rw[List.map_cons,q3u]
      simp only[List.map_cons,AV.bulks]
      have a3:(q0j x).bulk=x.bulk:=rfl
      omega
    have h3:=h2 v.l fun x hx=>hbl x (hkl x hx)
    have h4:=v.bulk_eq
    omega
   generalize hR:q03 ((v.l.map (ofM n)).foldl jM noneX)=R
   rw[q07]
   (repeat' first|simp (disch:=omega) only[go_sem,q9W,enter,h6,List.length_map]|(apply spl<;>intro h<;>try simp (disch:=omega) only[go_sem,h]))
   refine q08 (α:=Nat × AV) (fun a=>qpg v.l a.1 a.2) (fun a=>a.1≤v.l.length∧((a.1=0∧a.2=q2D)∨(0<a.1∧a.2=q03 (((v.l.take a.1).map (ofM n)).foldl jM noneX)))) (fun a=>v.l.length-a.1) (0,q2D) rfl ⟨Nat.zero_le _,.inl ⟨rfl,rfl⟩⟩ ?_
   rintro ⟨i,e⟩ ⟨hi,he⟩
   simp only at hi he
   by_cases hlt:i<v.l.length
   ·obtain ⟨y,hy⟩:=q06 hlt
    have hym:=List.mem_of_getElem? hy
    have hy2:=q09 (g:=q0j) hy
    have hyb:=(V.lens (v:=v) (N:=2^24) (by omega)).kids y hym
    have hrec:=ih y (hkl y hym) (by omega)
    have hnew:((v.l.take (i+1)).map (ofM n)).foldl jM noneX=jM (((v.l.take i).map (ofM n)).foldl jM noneX) (ofM n y):=by
     rw[List.take_add_one,hy]
     simp
    have hmem : ∀ z,z∈(v.l.take i).map (ofM n)→FamF z:=fun z hz=>by
     obtain ⟨x,hx,rfl⟩:=List.mem_map.1 hz
     exact hfam x (hkl x (List.mem_of_mem_take hx))
    have hF:q8u (((v.l.take i).map (ofM n)).foldl jM noneX):=q4B (.inl rfl) hmem
    have hFb:=q2b (e:=noneX) (.inl rfl) hmem
    rw[q2e] at hFb
    have htk:=qaD (i+1) (v.l.map (ofM n))
    rw[←List.map_take,List.take_add_one,hy] at htk
    simp only[Option.toList_some,List.map_append,List.map_cons,List.map_nil,q3V,q3u] at htk
    have hjn:=(qex hF (.inr (hfam y (hkl y hym))) (by omega)).1
    rw[←hnew] at hjn
    have hfin:q03 (((v.l.take (i+1)).map (ofM n)).foldl jM noneX)=q03 (((v.l.take (i+1)).map (ofM n)).foldl jM noneX):=rfl
    generalize hX:((v.l.take (i+1)).map (ofM n)).foldl jM noneX=X at hjn
    rw[q07 y] at hy2 hrec
    rw[q01 X] at hjn
    rcases he with ⟨rfl,rfl⟩ | ⟨hpos,rfl⟩
    ·rw[show ((v.l.take 0).map (ofM n)).foldl jM noneX=noneX from rfl,q0H] at hjn
     rw[q01 (ofM n y)] at hrec hjn
     simp only[qpg,q2D,xZ]
     (repeat' first|simp (disch:=omega) only[go_sem,hy2,List.length_map,q0O]|refine q00 _ (hrec) ?_|refine q00 _ (hjn) ?_|(apply spl<;>intro h<;>try simp (disch:=omega) only[go_sem,h]))
     refine ⟨(0+1,q03 X),?_,⟨by simp only; omega,.inr ⟨by simp only; omega,by simp only; rw[←hX]⟩⟩,by simp only; omega⟩
     rw[q01 X]
     rfl
    ·generalize ((v.l.take i).map (ofM n)).foldl jM noneX=F at *
     rw[q01 F] at hjn
     rw[q01 (ofM n y)] at hrec hjn
     rw[q01 F]
     simp only[qpg,xZ]
     (repeat' first|simp (disch:=omega) only[go_sem,hy2,List.length_map,q0O]|refine q00 _ (hrec) ?_|refine q00 _ (hjn) ?_|(apply spl<;>intro h<;>try simp (disch:=omega) only[go_sem,h]))
     refine ⟨(i+1,q03 X),?_,⟨by simp only; omega,.inr ⟨by simp only; omega,by simp only; rw[←hX]⟩⟩,by simp only; omega⟩
     rw[q01 X]
     rfl
   ·obtain rfl:i=v.l.length:=by omega
    rw[List.take_length,hR] at he
    rcases he with ⟨h0,rfl⟩ | ⟨hpos,rfl⟩
    ·have:v.l=[]:=List.length_eq_zero_iff.1 h0
     have hR2:R=q03 noneX:=by rw[←hR,this]; rfl
     rw[hR2,q0H]
     simp only[qpg,q2D,xZ]
     (repeat' first|simp (disch:=omega) only[go_sem,List.length_map,q0O]|(apply spl<;>intro h<;>try simp (disch:=omega) only[go_sem,h]))
     all_goals first | rfl | (simp; done)
    ·rw[←hR]
     generalize (v.l.map (ofM n)).foldl jM noneX=X
     rw[q01 X]
     simp only[qpg,xZ]
     (repeat' first|simp (disch:=omega) only[go_sem,List.length_map,q0O]|(apply spl<;>intro h<;>try simp (disch:=omega) only[go_sem,h]))
     all_goals first | rfl | (simp; done)
  rw[if_neg h6]
  by_cases h7:v.s.kind=7
  ·rw[if_pos h7,q1A,List.map_cons,List.map_nil,q4h]
   have hkl : ∀ x,x∈v.f→x.2∈v.kids:=fun x hx=>by
    unfold V.kids
    rw[if_pos h7]
    exact List.mem_map.2 ⟨x,hx,rfl⟩
   have hnd:(v.f.map (·.1)).Nodup:=(q6D _ [] hkey).1
   generalize hR:((q30 v.f).map fun y=>((⟨y.1,true⟩,ofM n y.2):PK × Sch)).map q0h=R
   have hR2:((q30 v.f).map (prF n)).map q0h=R:=hR
   have hRl:R.length=v.f.length:=by rw[←hR,List.length_map,List.length_map,q7l]
   rw[q07]
   (repeat' first|simp (disch:=omega) only[go_sem,q9W,enter,h7,List.length_map]|(apply spl<;>intro h<;>try simp (disch:=omega) only[go_sem,h]))
   refine q08 (α:=Nat × List AV) (fun a=>qnz v.f a.1 a.2) (fun a=>a.1≤v.f.length∧a.2=((v.f.take a.1).map (prF n)).map q0h) (fun a=>v.f.length-a.1) (0,[]) rfl ⟨Nat.zero_le _,rfl⟩ ?_
   rintro ⟨i,E⟩ ⟨hi,hE⟩
   simp only at hi hE
   by_cases hlt:i<v.f.length
   ·obtain ⟨y,hy⟩:=q06 hlt
    have hym:=List.mem_of_getElem? hy
    have hy2:=q09 (g:=q0r) hy
    have hyb:=((V.lens (v:=v) (N:=2^24) (by omega)).fkids y hym).1
    have hrec:=ih y.2 (hkl y hym) (by omega)
    have hnew:E++[q0h (prF n y)]=((v.f.take (i+1)).map (prF n)).map q0h:=by rw[hE,List.take_add_one,hy]; simp
    have hEl:E.length=i:=by rw[hE]; simp; omega
    rw[q0D] at hy2
    rw[q07 y.2,q01 (ofM n y.2)] at hrec
    rcases E with _ | ⟨e0,es⟩
    all_goals
     simp only[List.length_cons,List.length_nil] at hEl
     simp only[qnz,q2k,q2j,q2D,xZ,List.isEmpty_nil,List.isEmpty_cons,if_true,Bool.false_eq_true,if_false,List.cons_append,List.nil_append,List.length_cons]
     (repeat' first|simp (disch:=omega) only[go_sem,hy2,List.length_map,q0O,List.length_cons]|refine q00 _ (hrec) ?_|(apply spl<;>intro h<;>try simp (disch:=omega) only[go_sem,h]))
     refine ⟨(i+1,_++[q0h (prF n y)]),?_,⟨hlt,hnew⟩,by simp only; omega⟩
     simp only[qnz,q2k,q2j,q2D,xZ,List.isEmpty_nil,List.isEmpty_cons,if_true,Bool.false_eq_true,if_false,List.cons_append,List.nil_append,List.length_append,List.length_cons,List.length_nil]
     rw[q0m (prF n y)]
     rfl
   ·obtain rfl:i=v.f.length:=by omega
    rw[List.take_length] at hE
    have hEl:E.length=v.f.length:=by rw[hE]; simp
    rw[q0H]
    rcases E with _ | ⟨e0,es⟩
    ·have hR0:R=[]:=by
      have h0:R.length=0:=by rw[hRl,←hEl]; rfl
      exact List.length_eq_zero_iff.1 h0
     rw[hR0]
     have hs:=fun H=>q7Z (f0:=985) (L:=cpL) (qgB (C:=CI0) (so:=soI) (f:=861) (g:=989) (k:=17) (H:=H) rfl)
     simp only[qnz,q2k,q2j,q2D,xZ,List.isEmpty_nil,List.isEmpty_cons,if_true,Bool.false_eq_true,if_false,List.cons_append,List.nil_append,List.length_cons]
     (repeat' first|simp (disch:=omega) only[go_sem,List.length_map,q0O]|(refine q0l _ _ (hs _) ?_)|(apply spl<;>intro h<;>try simp (disch:=omega) only[go_sem,h]))
     all_goals first | rfl | (simp; done)
    ·have hne:v.f≠[]:=fun e=>by rw[e] at hEl; cases hEl
     have hs:=fun b0 b1 b3=>qiz (n:=n) hnd hne l2 b0 b1 b3
     simp only[List.length_cons] at hEl
     rw[←hE,←hEl,hR2] at hs
     have htk:R.take (es.length+1)=R:=List.take_of_length_le (by omega)
     simp only[qnz,q2k,q2j,q2D,xZ,List.isEmpty_nil,List.isEmpty_cons,if_true,Bool.false_eq_true,if_false,List.cons_append,List.nil_append,List.length_cons]
     (repeat' first|simp (disch:=omega) only[go_sem,List.length_map,q0O,List.length_cons,htk,hRl]|(refine q0l _ _ (hs _ _ _ (qn4 (by decide)) (qn4 (by decide)) (qn4 (by decide))) ?_)|(apply spl<;>intro h<;>try simp (disch:=omega) only[go_sem,h]))
     all_goals first | rfl | (simp; done) | trace_state
  have hneg:(v.s.kind<0)=False:=by simp; omega
  rw[if_neg h7,q1A,List.map_cons,List.map_nil,q62,q07]
  (repeat' first|simp (disch:=omega) only[go_sem,q9W,enter,h2,h4,h6,h7,hneg]|(apply spl<;>intro h<;>try simp (disch:=omega) only[go_sem,h]))
  all_goals rfl
end Ago
