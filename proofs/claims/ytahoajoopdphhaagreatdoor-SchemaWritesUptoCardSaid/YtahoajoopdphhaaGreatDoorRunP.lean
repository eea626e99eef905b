/- Heads of loops,step by step: what is reached,and its new numbers. -/
import Derived.Test.YtahoajoopdphhaaGreatDoorMachE
import Derived.Test.YtahoajoopdphhaaGreatDoorRunK
import Derived.Test.YtahoajoopdphhaaGreatDoorRunD
import Derived.Test.YtahoajoopdphhaaGreatDoorRunG
set_option linter.unusedSimpArgs false
set_option linter.unusedVariables false
namespace Ago
theorem q7b {H:Heap} {base k r:Nat} {todo seen:List Nat} {b:Blk} (h1:base≤r) (hs:r∉seen) (h2:H[r]?=some b):q1M H base (k+1) (r::todo) seen=q1M H base k (b.refs++todo) (seen++[r]):=by
 have hc:seen.contains r=false:=by
  cases hb:seen.contains r with
  | false=>rfl
  | true=>exact (hs (by simpa using hb)).elim
 rw[q1M,if_neg (by omega),if_neg (by rw[hc]; simp),h2]
theorem q68 {H:Heap} {base:Nat} : ∀ (l:List Nat) (k:Nat) (todo seen:List Nat),(∀ r,r∈l→base≤r∧∃ b,H[r]?=some b∧b.refs=[])→l.Nodup→(∀ r,r∈l→r∉seen)→q1M H base (k+l.length) (l++todo) seen=q1M H base k todo (seen++l)
 | [],k,todo,seen,_,_,_=>by simp
 | r::l,k,todo,seen,h,hn,hs=>by
  obtain ⟨h1,b,h2,h3⟩:=h r (Ku ..)
  rw[List.length_cons,show k+(l.length+1)=(k+l.length)+1 by omega,Kf]
  rw[q7b h1 (hs r (Ku ..)) h2]
  simp only[h3,Kh]
  rw[q68 l k todo (seen++[r]) (fun x hx=>h x (Kt _ hx)) (List.nodup_cons.1 hn).2 fun x hx=>by
   rw[Kv,Kx]
   rintro (h5 | h5)
   ·exact hs x (Kt _ hx) h5
   ·subst h5
    exact (List.nodup_cons.1 hn).1 hx]
  rw[Ke,List.singleton_append]
theorem qaK {H:Heap} {base k:Nat} {seen:List Nat}:q1M H base (k+1) [] seen=seen:=(rfl)
theorem q5j {ks:List Nat} {i r:Nat} (hn:ks.Nodup) (h:ks[i]?=some r):q0V 0 ks r=some i:=by
 unfold q0V
 rw[if_neg (Nat.not_lt_zero r)]
 obtain ⟨hl,hv⟩:=Ks.1 h
 have:ks.idxOf? r=some i:=by
  rw[List.idxOf?,List.findIdx?_eq_some_iff_getElem]
  refine ⟨hl,by simp [hv],fun j hj=>?_⟩
  have hjl:j<ks.length:=by omega
  intro he
  have he:ks[j]=r:=by simpa using he
  exact (List.pairwise_iff_getElem.1 hn j i hjl hl hj) (he.trans hv.symm)
 rw[this]
 simp
theorem q77 (r fam k:Nat) : ∀ (H:Heap) (i:Nat),(∀ j n els ro fl,H[j]?=some (.row n els ro fl fam)→i+j=r∨els.length<k)→q0D r fam k H i=some H
 | [],_,_=>rfl
 | b::H,i,h=>by
  have ih:=q77 r fam k H (i+1) fun j n els ro fl hj=>by
   have:=h (j+1) n els ro fl (by simpa using hj)
   omega
  unfold q0D
  rw[ih]
  cases b with
  | row n els ro fl fam'=>
   simp only
   rw[if_neg]
   rintro ⟨h1,h2,h3⟩
   subst h1
   have:=h 0 n els ro fl (by simp)
   omega
  | _=>rfl
theorem qf4 {H:Heap} {r fam k:Nat} (h : ∀ j n els ro fl,H[j]?=some (.row n els ro fl fam)→j=r∨els.length<k):H.strike r fam k=some H:=q77 r fam k H 0 fun j n els ro fl hj=>by
 have:=h j n els ro fl hj
 omega
def Own (H:Heap):Prop:=∀ (j:Nat) (b:Blk),H[j]?=some b→∃ n els fl,b=Blk.row n els false fl j
theorem Own.fresh {H:Heap} (h:Own H) {r fam k:Nat} (hf:H.length≤fam):H.strike r fam k=some H:=qf4 fun j n els ro fl hj=>by
 obtain ⟨_,_,_,e⟩:=h j _ hj
 cases e
 have:=(Ks.1 hj).1
 omega
theorem Own.set {H:Heap} (h:Own H) {j n:Nat} {els:List AV} {fl:Bool}:Own (H.set j (.row n els false fl j)):=fun i b hb=>by
 rw[List.getElem?_set] at hb
 split at hb
 ·rename_i e
  subst e
  split at hb
  ·cases hb
   exact ⟨n,els,fl,rfl⟩
  ·cases hb
 ·exact h i b hb
theorem Own.add {H:Heap} (h:Own H) {n j:Nat} {els:List AV} {fl:Bool} (hj:j=H.length):Own (H++[.row n els false fl j]):=fun i b hb=>by
 by_cases hi:i<H.length
 ·rw[KG hi] at hb
  exact h i b hb
 ·rw[KJ (by omega)] at hb
  have hi0:i-H.length=0:=by
   have:=(Ks.1 hb).1
   simp at this
   omega
  rw[hi0] at hb
  cases hb
  exact ⟨n,els,fl,by rw[show i=j by omega]⟩
theorem gR {H l:Heap} {j:Nat}:(H++l)[H.length+j]?=l[j]?:=by
 rw[KJ (by omega),VG]
theorem sR {H l:Heap} {j:Nat} {x:Blk}:(H++l).set (H.length+j) x=H++l.set j x:=by
 rw[List.set_append_right _ _ (by omega),VG]
theorem qpf {live:List Nat} {tm tm':List AV} {Hp kept Hp':Heap} {ks:List Nat} {rb:Nat} (hr:q1M Hp 0 4000 ((q0l live 0 tm).flatMap (AV.refsN 6)) []=ks) (hk:(ks.map fun r=>Hp.getD r .gone)=kept) (hd:q1c ks Hp 0=[]) (hc:q1f (q0V 0 ks) kept=true) (ht:(q0l live 0 tm).map (AV.renN (q0V 0 ks) 6)=tm') (hh:kept.map (Blk.ren (q0V 0 ks) (q2K Hp 0 ks))=Hp'):St.norm live ⟨tm,Hp,0,rb⟩=⟨tm',Hp',0,0⟩:=by
 unfold St.norm St.normTm
 simp only[VC,List.flatMap_nil,Kj,hr]
 unfold St.normBy
 simp only[VC,Kh,List.drop_zero,hk,hd,hc,ht]
 simp only[q6U,q3i,V7,q4l,hh]
theorem q8I (ks:List Nat) : ∀ (H:Heap) (j:Nat),(∀ b,b∈H→∀ n els fl fam,b ≠ .row n els true fl fam)→q1c ks H j=[]
 | [],_,_=>rfl
 | b::H,j,h=>by
  have ih:=q8I ks H (j+1) fun x hx=>h x (Kt _ hx)
  cases b with
  | row n els ro fl fam=>
   cases ro with
   | true=>exact (h _ (Ku ..) n els fl fam rfl).elim
   | false=>exact ih
  | _=>exact ih
end Ago
set_option maxRecDepth 100000
set_option exponentiation.threshold 2000
set_option maxHeartbeats 16000000
namespace Ago
open Go (IntKind)
def lkN (s:Schs) (n:List UInt8):List (List UInt8):=if (lkM s n).2=true then q2H true 48 (lkM s n).1 else []
def qfx (s:Schs) (n:List UInt8):List (List UInt8):=if (lkM s n).2=true then q1E true 48 (lkM s n).1 else []
theorem qgm (s:Schs) (n x:List UInt8):x∈qfx s n↔x∈lkN s n:=by
 unfold qfx lkN
 split
 ·exact (q4b true 48 _).2 x
 ·exact Iff.rfl
theorem ql9 {s:Schs} {n x:List UInt8} (h:x∈lkN s n) : ∃ d,d∈s.defs∧d.1=n∧x∈q2H true 48 d.2:=by
 cases hf:s.defs.find? (fun d=>d.1 == n) with
 | none=>
  unfold lkN lkM at h
  rw[hf] at h
  simp at h
 | some d=>
  unfold lkN lkM at h
  rw[hf] at h
  simp only[if_true] at h
  exact ⟨d,VI hf,by have:=List.find?_some hf; simpa using this,h⟩
def qcl (s:Schs) (l all:List (List UInt8)):List (List UInt8):=l.foldl (fun all n=>(qfx s n).foldl q0G all) all
theorem q5K (s:Schs) : ∀ (l all:List (List UInt8)),Asc all→Asc (qcl s l all)∧∀ x,x∈qcl s l all↔x∈all∨∃ n,n∈l∧x∈lkN s n
 | [],all,h=>⟨h,fun x=>by simp [qcl]⟩
 | n::l,all,h=>by
  obtain ⟨k1,k2⟩:=q7M (qfx s n) all h
  obtain ⟨h1,h2⟩:=q5K s l _ k1
  refine ⟨h1,fun x=>?_⟩
  show x∈qcl s l ((qfx s n).foldl q0G all)↔_
  rw[h2,k2,qgm]
  constructor
  ·rintro ((h | h) | ⟨m,h3,h4⟩)
   ·exact .inl h
   ·exact .inr ⟨n,by simp,h⟩
   ·exact .inr ⟨m,by simp [h3],h4⟩
  ·rintro (h | ⟨m,h3,h4⟩)
   ·exact .inl (.inl h)
   ·rcases KA.1 h3 with rfl | h3
    ·exact .inl (.inr h4)
    ·exact .inr ⟨m,h3,h4⟩
def q4h (s:Schs) (o:List (List UInt8)):Nat→List (List UInt8)
 | 0=>o
 | n+1=>qcl s (q4h s o n) (q4h s o n)
theorem q7Q (s:Schs) {o:List (List UInt8)} (h:Asc o) : ∀ n,Asc (q4h s o n)
 | 0=>h
 | n+1=>(q5K s _ _ (q7Q s h n)).1
theorem q7s (s:Schs) {o:List (List UInt8)} (h:Asc o) (n:Nat) (x:List UInt8):x∈q4h s o (n+1)↔x∈q4h s o n∨∃ m,m∈q4h s o n∧x∈lkN s m:=(q5K s _ _ (q7Q s h n)).2 x
theorem q98 (s:Schs) {o:List (List UInt8)} (h:Asc o) {x:List UInt8} : ∀ {n m:Nat},n≤m→x∈q4h s o n→x∈q4h s o m:=by
 intro n m hnm hx
 obtain ⟨k,rfl⟩:=Nat.exists_eq_add_of_le hnm
 clear hnm
 induction k with
 | zero=>exact hx
 | succ k ih=>exact (q7s s h _ x).2 (.inl ih)
inductive Rc (s:Schs) (o:List (List UInt8)):List UInt8→Prop where
 | base {x:List UInt8} (h:x∈o):Rc s o x
 | step {x y:List UInt8} (h:Rc s o x) (h2:y∈lkN s x):Rc s o y
theorem qcm {s:Schs} {o:List (List UInt8)} (h:Asc o) : ∀ (n:Nat) (x:List UInt8),x∈q4h s o n→Rc s o x
 | 0,x,hx=>.base hx
 | n+1,x,hx=>by
  rcases (q7s s h n x).1 hx with h1 | ⟨m,h1,h2⟩
  ·exact qcm h n x h1
  ·exact .step (qcm h n m h1) h2
theorem qcf {α:Type} {p q:α→Bool} : ∀ {l:List α},(∀ x,x∈l→p x=true→q x=true)→l.countP p≤l.countP q∧(l.countP p=l.countP q→∀ x,x∈l→q x=true→p x=true)
 | [],_=>⟨by simp,fun _ x h=>by cases h⟩
 | x::l,h=>by
  obtain ⟨h1,h2⟩:=qcf (l:=l) fun y hy=>h y (Kt _ hy)
  have h3:=h x (Ku ..)
  rw[List.countP_cons,List.countP_cons]
  cases hp:p x<;>cases hq:q x
  ·simp only[Km,if_false,Vs]
   refine ⟨h1,fun e y hy hqy=>?_⟩
   rcases KA.1 hy with rfl | hy
   ·rw[hq] at hqy
    cases hqy
   ·exact h2 e y hy hqy
  ·simp only[Km,if_false,if_true,Vs]
   exact ⟨by omega,fun e=>by omega⟩
  ·have:=h3 hp
   rw[hq] at this
   cases this
  ·simp only[if_true]
   refine ⟨by omega,fun e y hy hqy=>?_⟩
   rcases KA.1 hy with rfl | hy
   ·exact hp
   ·exact h2 (by omega) y hy hqy
theorem qqK {f:Nat→Nat} {N:Nat} (hm : ∀ i,f i≤f (i+1)) (hb : ∀ i,f i≤N) : ∃ i,i≤N∧f i=f (i+1):=by
 rcases Classical.em (∃ i,i≤N∧f i=f (i+1)) with h | h
 ·exact h
 ·exfalso
  have key : ∀ i,i≤N+1→i≤f i:=by
   intro i
   induction i with
   | zero=>intro _; omega
   | succ i ih=>
    intro hi
    have h1:=ih (by omega)
    have h2:=hm i
    have h3:f i≠f (i+1):=fun e=>h ⟨i,by omega,e⟩
    omega
  have:=key (N+1) (Kr _)
  have:=hb (N+1)
  omega
theorem qr9 {s:Schs} {o:List (List UInt8)} (h:Asc o) {x:List UInt8} (hx:Rc s o x):x∈q4h s o (s.defs.length+1):=by
 obtain ⟨i,hi,he⟩:=qqK (f:=fun i=>s.defs.countP fun d=>decide (d.1∈q4h s o i)) (N:=s.defs.length) (fun i=>(qcf fun d _ hd=>by
  simp only[decide_eq_true_eq] at hd ⊢
  exact q98 s h (Nat.le_succ i) hd).1) (fun i=>List.countP_le_length)
 have hc:=(qcf (l:=s.defs) (p:=fun d=>decide (d.1∈q4h s o i)) (q:=fun d=>decide (d.1∈q4h s o (i+1))) fun d _ hd=>by
  simp only[decide_eq_true_eq] at hd ⊢
  exact q98 s h (Nat.le_succ i) hd).2 he
 have hin : ∀ x,Rc s o x→x∈q4h s o (i+1):=by
  intro x hx
  induction hx with
  | base hb=>exact q98 s h (n:=0) (Kn _) hb
  | step _ h2 ih=>
   obtain ⟨d,hd1,hd2,_⟩:=ql9 h2
   have:=hc d hd1 (by simpa [hd2] using ih)
   rw[decide_eq_true_eq,hd2] at this
   exact (q7s s h i _).2 (.inr ⟨_,this,h2⟩)
 exact q98 s h (by omega) (hin x hx)
def qeT (s:Schs) (o:List (List UInt8)):List (List UInt8):=o++s.defs.flatMap fun d=>q2H true 48 d.2
theorem q9c {s:Schs} {o:List (List UInt8)} {n x:List UInt8} (h:x∈lkN s n):x∈qeT s o:=by
 obtain ⟨d,h1,_,h2⟩:=ql9 h
 exact Kv.2 (.inr (KR.2 ⟨d,h1,h2⟩))
theorem qgW {α:Type} [DecidableEq α] : ∀ {l u:List α},l.Nodup→(∀ x,x∈l→x∈u)→l.length≤u.length
 | [],_,_,_=>Kn _
 | x::l,u,hn,h=>by
  obtain ⟨h1,h2⟩:=List.nodup_cons.1 hn
  have hx:=h x (Ku ..)
  have:=qgW (l:=l) (u:=u.erase x) h2 fun y hy=>(List.mem_erase_of_ne (fun e=>h1 (by rw[←e]; exact hy))).2 (h y (Kt _ hy))
  rw[List.length_erase_of_mem hx] at this
  have:0<u.length:=List.length_pos_of_mem hx
  simp only[List.length_cons]
  omega
theorem ql0 {l:List (List UInt8)} (h:Asc l):l.Nodup:=List.Pairwise.imp (S:=fun a b=>a≠b) (fun {a b} (hab:a<b) (e:a=b)=>qsn b (by rw[e] at hab; exact hab)) h
theorem qpU (s:Schs) (o:List (List UInt8)):(qeT s o).length≤o.length+s.bulk:=by
 unfold qeT
 rw[Kb]
 have : ∀ l:List (List UInt8 × Sch),(l.flatMap fun d=>q2H true 48 d.2).length≤AV.bulks (l.map q0H):=by
  intro l
  induction l with
  | nil=>simp
  | cons d l ih=>
   have:=q64 true 48 d.2
   have:=q2o 48 d.2
   have:=q2Y d
   simp only[VH,Kb,Kd,AV.bulks]
   omega
 have:=this s.defs
 have:=s.bulk_eq
 omega
theorem qoI {s:Schs} {o l:List (List UInt8)} (h:Asc l) (hl : ∀ x,x∈l→x∈qeT s o):l.length≤o.length+s.bulk:=Vc (qgW (ql0 h) hl) (qpU s o)
def qeV (s:Schs) (d:List UInt8 × Sch):Bool:=(q4h s (q1E true 48 (lkM s d.1).1) (s.defs.length+1)).any fun x=>x == d.1
theorem qqJ (s:Schs) (d:List UInt8 × Sch):qeV s d=true↔Rc s (q2H true 48 (lkM s d.1).1) d.1:=by
 have ha:=(q4b true 48 (lkM s d.1).1).1
 have hm:=(q4b true 48 (lkM s d.1).1).2
 have e1:qeV s d=true↔d.1∈q4h s (q1E true 48 (lkM s d.1).1) (s.defs.length+1):=by
  unfold qeV
  rw[List.any_eq_true]
  constructor
  ·rintro ⟨x,h1,h2⟩
   have:x=d.1:=by simpa using h2
   exact this▸h1
  ·exact fun h=>⟨_,h,by simp⟩
 rw[e1]
 have e2 : ∀ x,Rc s (q1E true 48 (lkM s d.1).1) x↔Rc s (q2H true 48 (lkM s d.1).1) x:=fun x=>by
  constructor
  ·intro h
   induction h with
   | base h=>exact .base ((hm _).1 h)
   | step _ h2 ih=>exact .step ih h2
  ·intro h
   induction h with
   | base h=>exact .base ((hm _).2 h)
   | step _ h2 ih=>exact .step ih h2
 rw[←e2]
 exact ⟨qcm ha _ _,qr9 ha⟩
def q3m (s:Schs):List UInt8 × Bool:=match s.defs.find? (qeV s) with
 | some d=>(d.1,false)
 | none=>([],true)
end Ago
set_option maxRecDepth 100000
set_option exponentiation.threshold 2000
set_option maxHeartbeats 16000000
namespace Ago
open Go (IntKind)
theorem qjd {l all U:List (List UInt8)} (h:Asc all) (k:Nat):Asc ((l.take k).foldl q0G all)∧∀ x,x∈(l.take k).foldl q0G all→x∈all∨x∈l:=by
 obtain ⟨h1,h2⟩:=q7M (l.take k) all h
 refine ⟨h1,fun x hx=>?_⟩
 rcases (h2 x).1 hx with h3 | h3
 ·exact .inl h3
 ·exact .inr (KB h3)
theorem qar {α β:Type} (f:β→α→β) {l:List α} {k:Nat} {y:α} (b:β) (hy:l[k]?=some y):(l.take (k+1)).foldl f b=f ((l.take k).foldl f b) y:=by
 rw[KD,hy]
 simp
theorem qfr (s:Schs) (hs:s.bulk≤2^24) (x:Sch) (hx:x.bulk≤2^24):q0m CS 493 [q0y s,q06 x] (.tsl 1 ((q4h s (q1E true 48 x) (s.defs.length+1)).map .str)):=by
 obtain ⟨hd1,hd2⟩:=Schs.dlen hs
 have hse:=q0h s
 obtain ⟨o,ho⟩ : ∃ o,q1E true 48 x=o:=⟨_,rfl⟩
 have hoa:Asc o:=by rw[←ho]; exact (q4b true 48 x).1
 have hol:o.length≤2^24:=by
  rw[←ho]
  have:=q3r true 48 x
  have:=q2o 48 x
  omega
 have hU : ∀ {l:List (List UInt8)},Asc l→(∀ z,z∈l→z∈qeT s o)→l.length≤2^25:=fun h1 h2=>by
  have:=qoI h1 h2
  omega
 have hI : ∀ n,∀ z,z∈q4h s o n→z∈qeT s o:=by
  intro n
  induction n with
  | zero=>exact fun z hz=>Kv.2 (.inl hz)
  | succ n ih=>
   intro z hz
   rcases (q7s s hoa n z).1 hz with h | ⟨m,_,h⟩
   ·exact ih z h
   ·exact q9c h
 have hn:=qeS true 48 48 rfl (by decide) x hx
 rw[ho] at hn ⊢
 rw[q02] at hn
 refine q05 qlW rfl ?_
 rw[q02,q0h]
 (repeat' first|simp (disch:=omega) only[go_sem,qlW,enter,Ka]|refine q00 _ (hn) ?_|(apply spl<;>intro h<;>try simp (disch:=omega) only[go_sem,h]))
 refine q0a (α:=Nat) (fun n=>{ tmps:=q0i 56 [(2,.ptr 16 0 0 0),(5,.tsl 1 ((q4h s o n).map .str)),(6,.int .i64 n)],heap:=[.row 16 [q0y s] false true 0],base:=0 }) (fun n=>n≤s.defs.length+1) (fun n=>s.defs.length+1-n) 0 (by rw[hse]; rfl) (Kn _) ?_
 intro n hnl
 rw[hse]
 obtain ⟨out,hout⟩ : ∃ out,q4h s o n=out:=⟨_,rfl⟩
 have houta:Asc out:=by rw[←hout]; exact q7Q s hoa n
 have houtU : ∀ z,z∈out→z∈qeT s o:=by rw[←hout]; exact hI n
 have houtl:=hU houta houtU
 rw[hout]
 by_cases hlt:n<s.defs.length+1
 ·(repeat' first|simp (disch:=omega) only[go_sem,Ka]|(apply spl<;>intro h<;>try simp (disch:=omega) only[go_sem,h]))
  all_goals try omega
  refine q0a (α:=Nat) (fun i=>{ tmps:=q0i 56 [(2,.ptr 16 0 0 0),(5,.tsl 1 (out.map .str)),(6,.int .i64 n),(7,.tsl 1 ((qcl s (out.take i) out).map .str)),(8,.int .i64 i)],heap:=[.row 16 [q0y s] false true 0],base:=0 }) (fun i=>i≤out.length) (fun i=>out.length-i) 0 (by rw[hse]; rfl) (Kn _) ?_
  intro i hil
  rw[hse]
  obtain ⟨all,hall⟩ : ∃ all,qcl s (out.take i) out=all:=⟨_,rfl⟩
  have halla:Asc all:=by rw[←hall]; exact (q5K s _ _ houta).1
  have hallU : ∀ z,z∈all→z∈qeT s o:=by
   rw[←hall]
   intro z hz
   rcases ((q5K s _ _ houta).2 z).1 hz with h | ⟨m,_,h⟩
   ·exact houtU z h
   ·exact q9c h
  have halll:=hU halla hallU
  rw[hall]
  by_cases hilt:i<out.length
  ·obtain ⟨y,hy⟩:=q08 hilt
   have hy2:=q0d (g:=AV.str) hy
   have hl:=q5o s y hs
   have hstep:qcl s (out.take (i+1)) out=(qfx s y).foldl q0G all:=by
    unfold qcl at hall ⊢
    rw[qar _ _ hy,hall]
   rw[q0h] at hl
   rw[q02] at hl
   have hnm:qfx s y=if (lkM s y).2=true then q1E true 48 (lkM s y).1 else []:=rfl
   cases hb:(lkM s y).2 with
   | false=>
    rw[hb] at hl hnm
    rw[if_neg (by simp)] at hnm
    rw[hnm] at hstep
    (repeat' first|simp (disch:=omega) only[go_sem,hy2,Ka]|refine q00 _ (hl) ?_|(apply spl<;>intro h<;>try simp (disch:=omega) only[go_sem,h]))
    all_goals try omega
    refine ⟨i+1,?_,hilt,by omega⟩
    simp only[hstep,List.foldl_nil]
    first | rfl | (rw[hse]; rfl)
   | true=>
    rw[hb] at hl hnm
    rw[if_pos rfl] at hnm
    have hyb:(lkM s y).1.bulk≤2^24:=by
     unfold lkM at hb ⊢
     split
     ·rename_i d hd
      have:=(hd2 d (VI hd)).1
      show d.2.bulk≤_
      omega
     ·rename_i hd
      rw[hd] at hb
      cases hb
    have hn2:=qeS true 48 48 rfl (by decide) (lkM s y).1 hyb
    rw[←hnm] at hn2
    rw[q02] at hn2
    have hml:(qfx s y).length≤2^24:=by
     rw[hnm]
     have:=q3r true 48 (lkM s y).1
     have:=q2o 48 (lkM s y).1
     omega
    (repeat' first|simp (disch:=omega) only[go_sem,hy2,Ka]|refine q00 _ (hl) ?_|refine q00 _ (hn2) ?_|(apply spl<;>intro h<;>try simp (disch:=omega) only[go_sem,h]))
    all_goals try omega
    refine q0a (α:=Nat) (fun k=>{ tmps:=q0i 56 [(2,.ptr 16 0 0 0),(5,.tsl 1 (out.map .str)),(6,.int .i64 n),(7,.tsl 1 ((((qfx s y).take k).foldl q0G all).map .str)),(8,.int .i64 i),(11,.tsl 1 ((qfx s y).map .str)),(12,.int .i64 k)],heap:=[.row 16 [q0y s] false true 0],base:=0 }) (fun k=>k≤(qfx s y).length) (fun k=>(qfx s y).length-k) 0 (by rw[hse]; rfl) (Kn _) ?_
    intro k hkl
    rw[hse]
    by_cases hkt:k<(qfx s y).length
    ·obtain ⟨z,hz⟩:=q08 hkt
     have hz2:=q0d (g:=AV.str) hz
     obtain ⟨p1,p2⟩:=qjd (l:=qfx s y) (U:=[]) halla k
     have hpl:=hU p1 fun w hw=>(p2 w hw).elim (hallU w) fun h=>q9c ((qgm s y w).1 h)
     have hw:=q5Y (((qfx s y).take k).foldl q0G all) z (by omega)
     have hst:=qar q0G all hz
     (repeat' first|simp (disch:=omega) only[go_sem,hz2,Ka]|refine q00 _ (hw) ?_|(apply spl<;>intro h<;>try simp (disch:=omega) only[go_sem,h]))
     all_goals try omega
     refine ⟨k+1,?_,hkt,by omega⟩
     simp only[hst]
     first | rfl | (rw[hse]; rfl)
    ·rw[q0M hkt hkl,←hstep]
     (repeat' first|simp (disch:=omega) only[go_sem,Ka]|(apply spl<;>intro h<;>try simp (disch:=omega) only[go_sem,h]))
     all_goals try omega
     refine ⟨i+1,?_,hilt,by omega⟩
     first | rfl | (rw[hse]; rfl)
  ·rw[q0M hilt hil] at hall
   have hnx:all=q4h s o (n+1):=by rw[←hall,←hout]; rfl
   rw[hnx]
   (repeat' first|simp (disch:=omega) only[go_sem,Ka]|(apply spl<;>intro h<;>try simp (disch:=omega) only[go_sem,h]))
   all_goals try omega
   refine ⟨n+1,?_,by omega,by omega⟩
   first | rfl | (rw[hse]; rfl)
 ·have hn2:n=s.defs.length+1:=by omega
  rw[←hout,hn2]
  (repeat' first|simp (disch:=omega) only[go_sem,Ka]|(apply spl<;>intro h<;>try simp (disch:=omega) only[go_sem,h]))
  all_goals omega
theorem qba (s:Schs) (hs:s.bulk≤2^24):q0m CS 460 [q0y s] (.tup [.str (q3m s).1,.bool (q3m s).2]):=by
 obtain ⟨hd1,hd2⟩:=Schs.dlen hs
 have hse:=q0h s
 refine q05 qmi rfl ?_
 rw[q0h]
 (repeat' first|simp (disch:=omega) only[go_sem,qmi,enter,Ka]|(apply spl<;>intro h<;>try simp (disch:=omega) only[go_sem,h]))
 refine q0a (α:=Nat) (fun k=>{ tmps:=q0i 41 [(1,.ptr 16 0 0 0),(4,.int .i64 k)],heap:=[.row 16 [q0y s] false true 0],base:=0 }) (fun k=>k≤s.defs.length∧(s.defs.take k).any (qeV s)=false) (fun k=>s.defs.length-k) 0 (by rw[hse]; rfl) ⟨Kn _,rfl⟩ ?_
 rintro k ⟨hk,ha⟩
 rw[hse]
 by_cases hlt:k<s.defs.length
 ·obtain ⟨d,hdk⟩:=q08 hlt
  have hdm:=Kc hdk
  have hde:=q0d (g:=q0H) hdk
  obtain ⟨hdb,hdn⟩:=hd2 d hdm
  have hl:=q5o s d.1 hs
  have hxb:(lkM s d.1).1.bulk≤2^24:=by
   unfold lkM
   split
   ·rename_i e he
    have:=(hd2 e (VI he)).1
    show e.2.bulk≤_
    omega
   ·decide
  have hr:=qfr s hs (lkM s d.1).1 hxb
  have hbd:qeV s d=(q4h s (q1E true 48 (lkM s d.1).1) (s.defs.length+1)).any fun x=>x == d.1:=rfl
  have hih:(q4h s (q1E true 48 (lkM s d.1).1) (s.defs.length+1)).length<2^30:=by
   have hoa:=(q4b true 48 (lkM s d.1).1).1
   have h1:=qoI (s:=s) (o:=q1E true 48 (lkM s d.1).1) (q7Q s hoa (s.defs.length+1)) (fun z hz=>by
    have:=qcm hoa _ z hz
    induction this with
    | base h=>exact Kv.2 (.inl h)
    | step _ h _=>exact q9c h)
   have:=q3r true 48 (lkM s d.1).1
   have:=q2o 48 (lkM s d.1).1
   omega
  have hh:=qcc _ d.1 hih
  rw[←hbd] at hh
  rw[q0h] at hl hr
  rw[q02] at hl hr
  rw[q0K] at hde
  cases hb:qeV s d with
  | true=>
   have hg:q3m s=(d.1,false):=by unfold q3m; rw[qcV hdk ha hb]
   rw[hg]
   rw[hb] at hh
   (repeat' first|simp (disch:=omega) only[go_sem,hde,Ka]|refine q00 _ (hl) ?_|refine q00 _ (hr) ?_|refine q00 _ (hh) ?_|(apply spl<;>intro h<;>try simp (disch:=omega) only[go_sem,h]))
  | false=>
   rw[hb] at hh
   (repeat' first|simp (disch:=omega) only[go_sem,hde,Ka]|refine q00 _ (hl) ?_|refine q00 _ (hr) ?_|refine q00 _ (hh) ?_|(apply spl<;>intro h<;>try simp (disch:=omega) only[go_sem,h]))
   all_goals try omega
   refine ⟨k+1,?_,⟨hlt,q3j hdk ha hb⟩,by omega⟩
   first | rfl | (rw[hse]; rfl)
 ·rw[q0M hlt hk] at ha
  have hg:q3m s=([],true):=by unfold q3m; rw[q7H ha]
  rw[hg]
  (repeat' first|simp (disch:=omega) only[go_sem,Ka]|(apply spl<;>intro h<;>try simp (disch:=omega) only[go_sem,h]))
end Ago
set_option maxRecDepth 100000
set_option exponentiation.threshold 2000
set_option maxHeartbeats 4000000
namespace Ago
abbrev q5J:=List (List UInt8 × List (List UInt8))
def q8N (b:Nat) (ss:List (List UInt8)):AV:=if ss=[] then .snil 1 else .sref 1 b 0 ss.length
def q83 (b:Nat) (ss:List (List UInt8)):Heap:=if ss=[] then [] else [.row 1 (ss.map .str) false true b]
def dR:Nat→q5J→Heap
 | _,[]=>[]
 | b,e::l=>q83 b e.2++dR (b+(q83 b e.2).length) l
def dE:Nat→q5J→List (AV × AV)
 | _,[]=>[]
 | b,e::l=>(.str e.1,q8N b e.2)::dE (b+(q83 b e.2).length) l
theorem qgv (b c:Nat) (ss:List (List UInt8)):(q83 b ss).length=(q83 c ss).length:=by
 unfold q83
 split<;>rfl
theorem qjg : ∀ (b:Nat) (l:q5J) (e:List UInt8 × List (List UInt8)),dR b (l++[e])=dR b l++q83 (b+(dR b l).length) e.2
 | b,[],e=>by simp [dR]
 | b,x::l,e=>by
  simp only[Kf,dR,Ke,Kb]
  rw[qjg _ l e]
  simp only[KT]
theorem qlx : ∀ (b:Nat) (l:q5J) (e:List UInt8 × List (List UInt8)),dE b (l++[e])=dE b l++[(.str e.1,q8N (b+(dR b l).length) e.2)]
 | b,[],e=>by simp [dE,dR]
 | b,x::l,e=>by
  simp only[Kf,dE,dR,Kb]
  rw[qlx _ l e]
  simp only[KT]
theorem qgR : ∀ (b:Nat) (l:q5J),(dR b l).length≤l.length
 | _,[]=>Kr _
 | b,x::l=>by
  have:=qgR (b+(q83 b x.2).length) l
  simp only[dR,Kb,List.length_cons]
  have:(q83 b x.2).length≤1:=by unfold q83; split<;>simp
  omega
def qaM (es:List (AV × AV)):List Nat:=es.flatMap fun x=>AV.refsN 6 x.1++AV.refsN 6 x.2
theorem q5s : ∀ (b:Nat) (l:q5J),qaM (dE b l)=List.range' b (dR b l).length
 | _,[]=>rfl
 | b,x::l=>by
  have ih:=q5s (b+(q83 b x.2).length) l
  unfold qaM at ih ⊢
  simp only[dE,dR,VH,Kb,ih]
  unfold q8N q83
  by_cases h:x.2=[]
  ·simp [h,AV.refsN]
  ·simp only[h,if_false,List.length_cons,List.length_nil,AV.refsN,Kh]
   rw[show 0+1+(dR (b+(0+1)) l).length=(dR (b+(0+1)) l).length+1 by omega,List.range'_succ]
   simp
theorem q6z : ∀ (b:Nat) (l:q5J) (i:Nat) (x:Blk),(dR b l)[i]?=some x→∃ els,x = .row 1 els false true (b+i)
 | _,[],_,_,h=>by simp [dR] at h
 | b,e::l,i,x,h=>by
  simp only[dR] at h
  by_cases he:e.2=[]
  ·have e0:q83 b e.2=[]:=by unfold q83; rw[if_pos he]
   rw[e0] at h
   simpa using q6z b l i x (by simpa using h)
  ·have e0:q83 b e.2=[.row 1 (e.2.map .str) false true b]:=by unfold q83; rw[if_neg he]
   rw[e0] at h
   cases i with
   | zero=>
    simp at h
    exact ⟨_,h.symm⟩
   | succ i=>
    simp only[Kf,Kh,KY,List.length_cons,List.length_nil] at h
    obtain ⟨els,e2⟩:=q6z (b+(0+1)) l i x h
    exact ⟨els,by rw[e2,show b+(0+1)+i=b+(i+1) by omega]⟩
theorem qfh (k:List UInt8) : ∀ (l:q5J) (b i:Nat),((l.any fun e=>e.1 == k)=false→findKey (.one .str) (.str k) (dE b l) i=some none) ∧
  ((l.any fun e=>e.1 == k)=true→∃ j v e,l.find? (fun e=>e.1 == k)=some e∧findKey (.one .str) (.str k) (dE b l) i=some (some (i+j,v))∧((v = .snil 1∧e.2=[])∨∃ r,v = .sref 1 (b+r) 0 e.2.length∧(dR b l)[r]?=some (.row 1 (e.2.map .str) false true (b+r))∧e.2≠[]))
 | [],b,i=>⟨fun _=>rfl,fun h=>by simp at h⟩
 | x::l,b,i=>by
  obtain ⟨h1,h2⟩:=qfh k l (b+(q83 b x.2).length) (i+1)
  by_cases he:x.1=k
  ·subst he
   refine ⟨fun h=>by simp at h,fun _=>⟨0,q8N b x.2,x,by simp,by simp [dE,findKey,q44,q31],?_⟩⟩
   unfold q8N dR q83
   by_cases hx:x.2=[]
   ·left
    simp [hx]
   ·right
    refine ⟨0,?_,?_,hx⟩<;>simp [hx]
  ·have e1:(x.1 == k)=false:=by simpa using he
   have e2:(k == x.1)=false:=by simpa using fun e=>he e.symm
   have e:findKey (.one .str) (.str k) (dE b (x::l)) i=findKey (.one .str) (.str k) (dE (b+(q83 b x.2).length) l) (i+1):=by
    simp [dE,findKey,q44,q31,e2]
   rw[e,List.any_cons,e1,Vj]
   refine ⟨h1,fun h=>?_⟩
   obtain ⟨j,v,y,g1,g2,g3⟩:=h2 h
   refine ⟨j+1,v,y,by rw[List.find?_cons,e1]; exact g1,by rw[g2,show i+1+j=i+(j+1) by omega],?_⟩
   rcases g3 with g3 | ⟨r,g3,g4,g5⟩
   ·exact .inl g3
   ·refine .inr ⟨(q83 b x.2).length+r,by rw[g3,KT],?_,g5⟩
    simp only[dR]
    rw[KJ (by omega),VG,g4,KT]
def qmn (f:Nat→Option Nat) (es:List (AV × AV)):List (AV × AV):=es.map fun x=>(AV.renN f 6 x.1,AV.renN f 6 x.2)
theorem qav {f:Nat→Option Nat} : ∀ (b d:Nat) (l:q5J),(∀ i,i<(dR b l).length→f (b+i)=some (d+i))→qmn f (dE b l)=dE d l
 | _,_,[],_=>rfl
 | b,d,x::l,h=>by
  have ih:=qav (f:=f) (b+(q83 b x.2).length) (d+(q83 d x.2).length) l fun i hi=>by
   have:=h ((q83 b x.2).length+i) (by simp only[dR,Kb]; omega)
   rw[KT,this,qgv d b,KT]
  unfold qmn at ih ⊢
  simp only[dE,Kd,ih]
  congr 1
  unfold q8N
  by_cases hx:x.2=[]
  ·simp [hx,AV.renN]
  ·have h0:=h 0 (by simp only[dR,q83,if_neg hx,Kb,List.length_cons,List.length_nil]; omega)
   simp only[Vs] at h0
   simp [hx,AV.renN,h0]
theorem qfA (A L E:Heap):(List.range' A.length L.length).map (fun r=>(A++L++E).getD r .gone)=L:=by
 apply Vw
 intro j
 rw[KH]
 by_cases hj:j<L.length
 ·rw[List.getElem?_range' hj,KM,Ko,KG (by simp; omega),KJ (by omega)]
  have:A.length+1 * j-A.length=j:=by omega
  rw[this,Ki hj]
  rfl
 ·rw[KQ (by simpa using hj),KQ (by simpa using hj)]
  rfl
end Ago
set_option maxRecDepth 100000
set_option exponentiation.threshold 2000
set_option maxHeartbeats 4000000
namespace Ago
def OwnH (Hp:Heap):Prop:=∀ (j:Nat) (b:Blk),Hp[j]?=some b→(∃ n els,b = .row n els false true j)∨(∃ es,b = .map es)∨b = .gone
def qlP (f:Nat→Option Nat) (i:Nat):Blk→Blk
 | .row n els ro fl _=>.row n els ro fl i
 | .map es=>.map (qmn f es)
 | b=>b
def q4Y (f:Nat→Option Nat):Nat→Heap→Heap
 | _,[]=>[]
 | i,b::l=>qlP f i b::q4Y f (i+1) l
theorem q7B (f:Nat→Option Nat) : ∀ (i:Nat) (a b:Heap),q4Y f i (a++b)=q4Y f i a++q4Y f (i+a.length) b
 | i,[],b=>by simp [q4Y]
 | i,x::a,b=>by
  simp only[Kf,q4Y,List.length_cons]
  rw[q7B f (i+1) a b,show i+1+a.length=i+(a.length+1) by omega]
theorem q6g (f:Nat→Option Nat) : ∀ (b d:Nat) (l:q5J),q4Y f d (dR b l)=dR d l
 | _,_,[]=>rfl
 | b,d,x::l=>by
  simp only[dR]
  rw[q7B,qgv b d,q6g f _ (d+(q83 d x.2).length) l]
  congr 1
  unfold q83
  split<;>rfl
theorem qsS {Hp:Heap} (ho:OwnH Hp) {ks:List Nat} (hn:ks.Nodup) {i r n:Nat} {els:List AV} (h:ks[i]?=some r) (hb:Hp[r]?=some (.row n els false true r)):q2K Hp 0 ks r=i:=by
 unfold q2K
 rw[if_neg (Nat.not_lt_zero r),KS]
 obtain ⟨hl,hv⟩:=Ks.1 h
 rw[List.findIdx_eq hl]
 refine ⟨?_,fun j hj=>?_⟩
 ·rw[hv,Ko,hb]
  simp [Blk.famOf]
 ·have hjl:j<ks.length:=by omega
  have hne:ks[j]≠r:=fun e=>List.pairwise_iff_getElem.1 hn j i hjl hl hj (e.trans hv.symm)
  cases hq:Hp[ks[j]]? with
  | none=>
   rw[Ko,hq]
   rfl
  | some b=>
   rw[Ko,hq]
   rcases ho _ _ hq with ⟨n2,e2,rfl⟩ | ⟨es,rfl⟩ | rfl
   ·simp [Blk.famOf,hne]
   ·rfl
   ·rfl
theorem qhs {Hp:Heap} (ho:OwnH Hp) {ks:List Nat} (hn:ks.Nodup) (hin : ∀ r,r∈ks→r<Hp.length) : ∀ (l:List Nat) (i:Nat),(∀ j r,l[j]?=some r→ks[i+j]?=some r)→(l.map fun r=>Hp.getD r .gone).map (Blk.ren (q0V 0 ks) (q2K Hp 0 ks))=q4Y (q0V 0 ks) i (l.map fun r=>Hp.getD r .gone)
 | [],_,_=>rfl
 | r::l,i,h=>by
  have ih:=qhs ho hn hin l (i+1) fun j q hq=>by
   rw[show i+1+j=i+(j+1) by omega]
   exact h (j+1) q (by simpa using hq)
  have hr:ks[i]?=some r:=h 0 r rfl
  simp only[Kd,q4Y,ih]
  congr 1
  have hlt:=hin r (Kc hr)
  obtain ⟨b,hb⟩ : ∃ b,Hp[r]?=some b:=⟨_,Ki hlt⟩
  rw[Ko,hb,K8]
  rcases ho _ _ hb with ⟨n2,e2,rfl⟩ | ⟨es,rfl⟩ | rfl
  ·simp only[Blk.ren,if_true,qlP,qsS ho hn hr hb]
  ·rfl
  ·rfl
theorem qd5 {live:List Nat} {tm tm':List AV} {Hp Hp' kept:Heap} {ks:List Nat} {rb:Nat} (ho:OwnH Hp) (hr:q1M Hp 0 4000 ((q0l live 0 tm).flatMap (AV.refsN 6)) []=ks) (hn:ks.Nodup) (hin : ∀ r,r∈ks→r<Hp.length) (hk:(ks.map fun r=>Hp.getD r .gone)=kept)
  (hc : ∀ b,b∈kept→∀ q,q∈b.refs→q∈ks) (ht:(q0l live 0 tm).map (AV.renN (q0V 0 ks) 6)=tm') (hh:q4Y (q0V 0 ks) 0 kept=Hp'):St.norm live ⟨tm,Hp,0,rb⟩=⟨tm',Hp',0,0⟩:=by
 refine qpf hr hk (q8I ks Hp 0 fun b hb n els fl fam e=>?_) ?_ ht ?_
 ·obtain ⟨j,hj⟩:=Vp hb
  rcases ho _ _ hj with ⟨n2,e2,e3⟩ | ⟨es,e3⟩ | e3<;>rw[e3] at e<;>cases e
 ·unfold q1f
  rw[Kp]
  intro b hb
  rw[Kp]
  intro q hq
  obtain ⟨i,hi⟩:=Vp (hc b hb q hq)
  rw[q5j hn hi]
  rfl
 ·rw[←hk,qhs ho hn hin ks 0 (fun j r h=>by rw[KS]; exact h),hk,hh]
theorem OwnH.nil:OwnH []:=fun j b h=>by simp at h
theorem OwnH.app {A B:Heap} (ha:OwnH A) (hb : ∀ (j:Nat) (b:Blk),B[j]?=some b→(∃ n els,b = .row n els false true (A.length+j))∨(∃ es,b = .map es)∨b = .gone):OwnH (A++B):=fun j b h=>by
 by_cases hj:j<A.length
 ·rw[KG hj] at h
  exact ha j b h
 ·rw[KJ (by omega)] at h
  have:=hb _ _ h
  rw[show A.length+(j-A.length)=j by omega] at this
  exact this
theorem qfl (b:Nat) (l:q5J) : ∀ (j:Nat) (x:Blk),(dR b l)[j]?=some x→(∃ n els,x = .row n els false true (b+j))∨(∃ es,x = .map es)∨x = .gone:=fun j x h=>by
 obtain ⟨els,e⟩:=q6z b l j x h
 exact .inl ⟨1,els,e⟩
theorem qdk {Hp:Heap} {k q b n:Nat} {todo seen:List Nat} {es:List (AV × AV)} (hq:q∉seen) (h:Hp[q]?=some (.map es)) (he:qaM es=List.range' b n) (hk : ∀ r,r∈List.range' b n→∃ x,Hp[r]?=some x∧x.refs=[]) (hs : ∀ r,r∈List.range' b n→r∉seen∧r≠q) :
  q1M Hp 0 (k+n+1) (q::todo) seen=q1M Hp 0 k todo (seen++q::List.range' b n):=by
 rw[q7b (Kn _) hq h]
 have:Blk.refs (.map es)=List.range' b n:=he
 rw[this]
 have:=q68 (H:=Hp) (base:=0) (List.range' b n) k todo (seen++[q]) (fun r hr=>⟨Kn _,hk r hr⟩) (List.nodup_range') (fun r hr hm=>by
  rcases Kv.1 hm with hm | hm
  ·exact (hs r hr).1 hm
  ·exact (hs r hr).2 (Kx.1 hm))
 rw[List.length_range'] at this
 rw[this,Ke,List.singleton_append]
end Ago
set_option maxRecDepth 100000
set_option exponentiation.threshold 2000
set_option maxHeartbeats 8000000
namespace Ago
open Go (IntKind)
section
variable {R:Nat→List AV→Heap→AV→Heap→Prop} {PR:Nat→List AV→AV→Prop}
theorem qkD {k:Nat} {a b:List AOper} {Q:Ex→St→Prop} {s:St} (s':St) (h1 : @q19 (s.keep k) ⟨q1l R PR a fun t=>t=s'⟩) (h2 : @q19 (s.keep k) ⟨q1l R PR b fun t=>t=s'⟩) (h : @q19 { s' with rb:=0 } ⟨Q .normal⟩):aw R PR (.draw k [a,b]) Q s:=by
 unfold q19 at h1 h2 h
 refine ⟨s',by simp,fun l hl=>?_,h⟩
 rcases KA.1 hl with rfl | hl
 ·exact h1
 ·rw[Kx.1 hl]
  exact h2
end
def q2F (es:q5J) (d:List UInt8 × Sch):q5J:=if (es.any fun e=>e.1 == d.1)=true then es else es++[(d.1,q2H true 48 d.2)]
def qeY (l:List (List UInt8 × Sch)):q5J:=l.foldl q2F []
theorem qly {l:List (List UInt8 × Sch)} {k:Nat} {d:List UInt8 × Sch} (h:l[k]?=some d):qeY (l.take (k+1))=q2F (qeY (l.take k)) d:=qar q2F [] h
theorem qh0 : ∀ (l:List (List UInt8 × Sch)) (es:q5J),(l.foldl q2F es).length≤es.length+l.length
 | [],es=>by simp
 | d::l,es=>by
  have h1:=qh0 l (q2F es d)
  have h2:(q2F es d).length≤es.length+1:=by
   unfold q2F
   split
   ·omega
   ·simp
  simp only[Vz,List.length_cons]
  omega
theorem qdN (n:List UInt8) : ∀ (l:List (List UInt8 × Sch)) (es:q5J),(l.foldl q2F es).find? (fun e=>e.1 == n)=(es.find? fun e=>e.1 == n).or ((l.find? fun d=>d.1 == n).map fun d=>(d.1,q2H true 48 d.2))
 | [],es=>by simp
 | d::l,es=>by
  rw[Vz,qdN n l]
  unfold q2F
  by_cases hd:(es.any fun e=>e.1 == d.1)=true
  ·rw[if_pos hd]
   by_cases hn:d.1=n
   ·subst hn
    obtain ⟨e,h1,h2⟩:=List.any_eq_true.1 hd
    have:(es.find? fun e=>e.1 == d.1).isSome=true:=by
     rw[List.find?_isSome]
     exact ⟨e,h1,h2⟩
    cases hq:es.find? (fun e=>e.1 == d.1) with
    | none=>rw[hq] at this; cases this
    | some q=>simp
   ·have e1:(d.1 == n)=false:=by simpa using hn
    rw[List.find?_cons,e1]
  ·rw[if_neg hd,List.find?_append]
   by_cases hn:d.1=n
   ·subst hn
    simp
   ·have e1:(d.1 == n)=false:=by simpa using hn
    rw[List.find?_cons,e1]
    simp [e1]
def qaZ (s:Schs) (l:q5J):Heap:=.row 16 [q0y s] false true 0 :: .map (dE 2 l)::dR 2 l
theorem qcN (s:Schs) (l:q5J):OwnH (qaZ s l):=by
 have:qaZ s l=[.row 16 [q0y s] false true 0,.map (dE 2 l)]++dR 2 l:=rfl
 rw[this]
 refine OwnH.app (fun j b h=>?_) (qfl 2 l)
 cases j with
 | zero=>
  cases h
  exact .inl ⟨_,_,rfl⟩
 | succ j=>
  cases j with
  | zero=>
   cases h
   exact .inr (.inl ⟨_,rfl⟩)
  | succ j=>simp at h
theorem OwnH.fb {H:Heap} (h:OwnH H):Fb H:=fun j n els ro fl f hj=>by
 have hl:=(Ks.1 hj).1
 rcases h j _ hj with ⟨n2,e2,e⟩ | ⟨es,e⟩ | e<;>cases e
 exact hl
theorem qt4 {b m:Nat} {l:q5J} (h:b+(dR b l).length≤m) : ∀ r,r∈qaM (dE b l)→r<m:=fun r hr=>by
 rw[q5s,List.mem_range'_1] at hr
 omega
theorem qsI {H:Heap} (ho:OwnH H) (hm : ∀ es,Blk.map es∈H→(∀ r,r∈qaM es→r<H.length)∧∀ f:Nat→Option Nat,(∀ r,r<H.length→f r=some r)→qmn f es=es):Cl H:=by
 refine ⟨fun b hb r hr=>?_,fun b hb f g hf hg=>?_⟩
 ·obtain ⟨j,hj⟩:=Vp hb
  rcases ho j b hj with ⟨n,els,rfl⟩ | ⟨es,rfl⟩ | rfl
  ·simp [Blk.refs] at hr
  ·exact (hm es hb).1 r hr
  ·simp [Blk.refs] at hr
 ·obtain ⟨j,hj⟩:=Vp hb
  have hl:=(Ks.1 hj).1
  rcases ho j b hj with ⟨n,els,rfl⟩ | ⟨es,rfl⟩ | rfl
  ·simp [Blk.ren,hg j hl]
  ·have:=(hm es hb).2 f hf
   simp only[Blk.ren]
   exact congrArg Blk.map this
  ·rfl
theorem qdf {b:Nat} {l:q5J} {es:List (AV × AV)} (h:Blk.map es∈dR b l):False:=by
 obtain ⟨j,hj⟩:=Vp h
 obtain ⟨els,e⟩:=q6z b l j _ hj
 cases e
theorem qqi (s:Schs) (l:q5J):Cl (qaZ s l):=qsI (qcN s l) fun es h=>by
 have hlen:(qaZ s l).length=2+(dR 2 l).length:=by simp [qaZ]; omega
 unfold qaZ at h
 rcases KA.1 h with h | h
 ·cases h
 ·rcases KA.1 h with h | h
  ·cases h
   rw[hlen]
   exact ⟨qt4 (Kr _),fun f hf=>qav 2 2 l fun i hi=>hf _ (by omega)⟩
  ·exact (qdf h).elim
theorem q1u {b n r:Nat}:r∈List.range' b n↔b≤r∧r<b+n:=List.mem_range'_1
theorem qp5 {live:List Nat} {tm tm':List AV} {A D:Blk} {es es':List (AV × AV)} {l:q5J} {m:Nat} {eA eD:List AV} {N N':Heap} {ks2:List Nat} {rb:Nat} (hA:A = .row 16 eA false true 0) (hm:(dR 2 l).length=m) (hml:m≤1000) (hD:D = .row 16 eD false true (2+m))
  (hN:(N=[]∧ks2=[]∧N'=[])∨∃ els,N=[.row 1 els false true (2+m+1)]∧ks2=[2+m+1]∧N'=[.row 1 els false true (2+m)])
  (he:qaM es=List.range' 2 m++ks2) (hL:(q0l live 0 tm).flatMap (AV.refsN 6)=[0,1])
  (ht : ∀ f:Nat→Option Nat,f 0=some 0→f 1=some 1→(q0l live 0 tm).map (AV.renN f 6)=tm')
  (hes : ∀ f:Nat→Option Nat,(∀ r,r<2+m→f r=some r)→(ks2≠[]→f (2+m+1)=some (2+m))→qmn f es=es') :
  St.norm live ⟨tm,A :: .map es::(dR 2 l++D::N),0,rb⟩=⟨tm',A :: .map es'::(dR 2 l++N'),0,0⟩:=by
 subst hA hD
 obtain ⟨Hp,hHp⟩ : ∃ Hp,(Blk.row 16 eA false true 0 :: .map es::(dR 2 l ++ .row 16 eD false true (2+m)::N))=Hp:=⟨_,rfl⟩
 have hsp:Hp=[.row 16 eA false true 0,.map es]++dR 2 l++(.row 16 eD false true (2+m)::N):=by rw[←hHp]; rfl
 have hlen:Hp.length=2+m+1+N.length:=by rw[hsp]; simp [hm]; omega
 have hg0:Hp[0]?=some (.row 16 eA false true 0):=by rw[←hHp]; rfl
 have hg1:Hp[1]?=some (.map es):=by rw[←hHp]; rfl
 have hgr : ∀ r,2≤r→r<2+m→∃ els,Hp[r]?=some (.row 1 els false true r):=fun r h1 h2=>by
  obtain ⟨x,hx⟩ : ∃ x,(dR 2 l)[r-2]?=some x:=q08 (by omega)
  obtain ⟨els,e⟩:=q6z 2 l _ x hx
  refine ⟨els,?_⟩
  rw[hsp,KG (by simp; omega),KJ (by simp; omega)]
  show (dR 2 l)[r-2]?=_
  rw[hx,e,show 2+(r-2)=r by omega]
 have hgn : ∀ els,N=[.row 1 els false true (2+m+1)]→Hp[2+m+1]?=some (.row 1 els false true (2+m+1)):=fun els h=>by
  rw[hsp,h,KJ (by simp [hm]; omega)]
  have:2+m+1-([Blk.row 16 eA false true 0,.map es]++dR 2 l).length=1:=by simp [hm]; omega
  rw[this]
  rfl
 have hown:OwnH Hp:=by
  rw[hsp]
  refine OwnH.app (OwnH.app (fun j b h=>?_) (qfl 2 l)) fun j b h=>?_
  ·cases j with
   | zero=>cases h; exact .inl ⟨_,_,rfl⟩
   | succ j=>
    cases j with
    | zero=>cases h; exact .inr (.inl ⟨_,rfl⟩)
    | succ j=>simp at h
  ·have hl2:([Blk.row 16 eA false true 0,.map es]++dR 2 l).length=2+m:=by simp [hm]; omega
   rw[hl2]
   cases j with
   | zero=>cases h; exact .inl ⟨_,_,rfl⟩
   | succ j=>
    rcases hN with ⟨rfl,_,_⟩ | ⟨els,rfl,_,_⟩
    ·simp at h
    ·cases j with
     | zero=>cases h; exact .inl ⟨_,_,rfl⟩
     | succ j=>simp at h
 have hks:ks2.length≤1∧∀ r,r∈ks2→r=2+m+1∧∃ els,Hp[r]?=some (.row 1 els false true r):=by
  rcases hN with ⟨_,rfl,_⟩ | ⟨els,h1,rfl,_⟩
  ·exact ⟨by simp,fun r h=>by cases h⟩
  ·refine ⟨by simp,fun r h=>?_⟩
   rw[Kx.1 h]
   exact ⟨rfl,els,hgn els h1⟩
 have hnk:ks2.Nodup:=by
  rcases hN with ⟨_,rfl,_⟩ | ⟨els,_,rfl,_⟩<;>simp
 rw[hHp]
 have hreach:q1M Hp 0 4000 [0,1] []=0::1::(List.range' 2 m++ks2):=by
  have e1:(4000:Nat)=(3998-(m+ks2.length)+(List.range' 2 m++ks2).length+1)+1:=by
   rw[Kb,List.length_range']
   omega
  rw[e1,q7b (Kn _) (by simp) hg0]
  have r0:(Blk.row 16 eA false true 0).refs=[]:=rfl
  rw[r0,Kh,Kh,q7b (Kn _) (by simp) hg1]
  have r1:(Blk.map es).refs=List.range' 2 m++ks2:=he
  rw[r1]
  have:=q68 (H:=Hp) (base:=0) (List.range' 2 m++ks2) (3998-(m+ks2.length)) [] ([0]++[1]) (fun r hr=>⟨Kn _,by
   rcases Kv.1 hr with hr | hr
   ·obtain ⟨h1,h2⟩:=q1u.1 hr
    obtain ⟨els,e⟩:=hgr r h1 h2
    exact ⟨_,e,rfl⟩
   ·obtain ⟨_,els,e⟩:=hks.2 r hr
    exact ⟨_,e,rfl⟩⟩) (List.nodup_append.2 ⟨List.nodup_range',hnk,fun a ha b hb hab=>by
     have:=q1u.1 ha
     have:=(hks.2 b hb).1
     omega⟩) (fun r hr=>by
    rcases Kv.1 hr with hr | hr
    ·have:=q1u.1 hr
     simp
     omega
    ·have:=(hks.2 r hr).1
     simp
     omega)
  rw[this]
  have e3:3998-(m+ks2.length)=(3997-(m+ks2.length))+1:=by omega
  rw[e3,qaK]
  rfl
 have hnd:(0::1::(List.range' 2 m++ks2)).Nodup:=by
  refine List.nodup_cons.2 ⟨?_,List.nodup_cons.2 ⟨?_,List.nodup_append.2 ⟨List.nodup_range',hnk,fun a ha b hb hab=>by
   have:=q1u.1 ha
   have:=(hks.2 b hb).1
   omega⟩⟩⟩
  ·intro h
   rcases KA.1 h with h | h
   ·omega
   ·rcases Kv.1 h with h | h
    ·have:=q1u.1 h; omega
    ·have:=(hks.2 _ h).1; omega
  ·intro h
   rcases Kv.1 h with h | h
   ·have:=q1u.1 h; omega
   ·have:=(hks.2 _ h).1; omega
 have hf : ∀ r,r<2+m→q0V 0 (0::1::(List.range' 2 m++ks2)) r=some r:=fun r hr=>by
  refine q5j hnd ?_
  match r with
  | 0=>rfl
  | 1=>rfl
  | r+2=>
   rw[KY,KY,KG (by simp; omega),List.getElem?_range' (by omega)]
   congr 1
   omega
 have hf2:ks2≠[]→q0V 0 (0::1::(List.range' 2 m++ks2)) (2+m+1)=some (2+m):=fun hne=>by
  rcases hN with ⟨_,rfl,_⟩ | ⟨els,_,rfl,_⟩
  ·exact (hne rfl).elim
  ·refine q5j hnd ?_
   rw[show 2+m=m+1+1 by omega,KY,KY,KJ (by simp)]
   simp
 refine qd5 (kept:=.row 16 eA false true 0 :: .map es::(dR 2 l++(ks2.map fun r=>Hp.getD r .gone))) hown (by rw[hL]; exact hreach) hnd (fun r hr=>?_) ?_ (fun b hb q hq=>?_) (ht _ (hf 0 (by omega)) (hf 1 (by omega))) ?_
 ·rcases KA.1 hr with rfl | hr
  ·omega
  ·rcases KA.1 hr with rfl | hr
   ·omega
   ·rcases Kv.1 hr with hr | hr
    ·have:=q1u.1 hr; omega
    ·obtain ⟨_,els,e⟩:=hks.2 r hr
     exact (Ks.1 e).1
 ·simp only[Kd,Va]
  have m1:(List.range' 2 m).map (fun r=>Hp.getD r .gone)=dR 2 l:=by
   have:=qfA [.row 16 eA false true 0,.map es] (dR 2 l) (.row 16 eD false true (2+m)::N)
   rw[←hsp,hm] at this
   exact this
  rw[m1]
  simp only[Ko,hg0,hg1,K8]
 ·rcases KA.1 hb with rfl | hb
  ·simp [Blk.refs] at hq
  ·rcases KA.1 hb with rfl | hb
   ·have hq:q∈qaM es:=hq
    rw[he] at hq
    exact Kt _ (Kt _ hq)
   ·rcases Kv.1 hb with hb | hb
    ·obtain ⟨j,hj⟩:=Vp hb
     obtain ⟨els,e⟩:=q6z 2 l j b hj
     rw[e] at hq
     simp [Blk.refs] at hq
    ·obtain ⟨r,hr,rfl⟩:=KV.1 hb
     obtain ⟨_,els,e⟩:=hks.2 r hr
     rw[Ko,e] at hq
     simp [Blk.refs] at hq
 ·simp only[q4Y,qlP]
  rw[q7B,q6g _ 2 2 l,hes _ hf hf2,hm]
  congr 3
  rcases hN with ⟨_,rfl,rfl⟩ | ⟨els,h1,rfl,rfl⟩
  ·rfl
  ·simp only[Kd,Kl,Ko,hgn els h1,K8,q4Y,qlP]
end Ago
set_option maxRecDepth 100000
set_option exponentiation.threshold 2000
set_option maxHeartbeats 8000000
namespace Ago
open Go (IntKind)
theorem qkx {α β γ:Type} (f:α→β→γ) {a a':α} {b b':β} (h:a=a') (h2:b=b'):f a b=f a' b':=by rw[h,h2]
theorem qjE (f:Nat→Option Nat) (h0:f 0=some 0) (h1:f 1=some 1) (L:List AV) (x y:Int):(q0i 79 [(1,.ptr 16 0 0 0),(4,.mref 1),(16,.tsl 16 L),(17,.int .i64 x),(18,.int .i64 y)]).map (AV.renN f 6)=q0i 79 [(1,.ptr 16 0 0 0),(4,.mref 1),(16,.tsl 16 L),(17,.int .i64 x),(18,.int .i64 y)]:=by
 simp [q0i,AV.renN,h0,h1,VE]
def q6W (l:q5J):Heap:=.map (dE 1 l)::dR 1 l
theorem qgZ (l:q5J):OwnH (q6W l):=by
 have:q6W l=[.map (dE 1 l)]++dR 1 l:=rfl
 rw[this]
 refine OwnH.app (fun j b h=>?_) (qfl 1 l)
 cases j with
 | zero=>
  cases h
  exact .inr (.inl ⟨_,rfl⟩)
 | succ j=>simp at h
theorem qmt (l:q5J):(q6W l).length=1+(dR 1 l).length:=by simp [q6W]; omega
theorem qwE {live:List Nat} {tm tm':List AV} {s:Schs} {l:q5J} {rb:Nat} (hml:l.length≤1000) (hL:(q0l live 0 tm).flatMap (AV.refsN 6)=[1]) (ht : ∀ f:Nat→Option Nat,f 1=some 0→(q0l live 0 tm).map (AV.renN f 6)=tm'):St.norm live ⟨tm,qaZ s l,0,rb⟩=⟨tm',q6W l,0,0⟩:=by
 obtain ⟨m,hm⟩ : ∃ m,(dR 2 l).length=m:=⟨_,rfl⟩
 have hm2:=qgR 2 l
 have hg1:(qaZ s l)[1]?=some (.map (dE 2 l)):=rfl
 have hgr : ∀ r,r∈List.range' 2 m→∃ x,(qaZ s l)[r]?=some x∧x.refs=[]:=fun r hr=>by
  obtain ⟨h1,h2⟩:=q1u.1 hr
  obtain ⟨x,hx⟩ : ∃ x,(dR 2 l)[r-2]?=some x:=q08 (by omega)
  obtain ⟨els,e⟩:=q6z 2 l _ x hx
  refine ⟨x,?_,by rw[e]; rfl⟩
  have:qaZ s l=[.row 16 [q0y s] false true 0,.map (dE 2 l)]++dR 2 l:=rfl
  rw[this,KJ (by simp; omega)]
  exact hx
 have hlen:(qaZ s l).length=2+m:=by simp [qaZ,hm]; omega
 have hnd:(1::List.range' 2 m).Nodup:=List.nodup_cons.2 ⟨fun h=>by have:=q1u.1 h; omega,List.nodup_range'⟩
 have hf : ∀ i,i<m→q0V 0 (1::List.range' 2 m) (2+i)=some (1+i):=fun i hi=>by
  refine q5j hnd ?_
  rw[show 1+i=i+1 by omega,KY,List.getElem?_range' hi]
  congr 1
  omega
 have hf1:q0V 0 (1::List.range' 2 m) 1=some 0:=q5j hnd rfl
 refine qd5 (kept:=.map (dE 2 l)::dR 2 l) (qcN s l) ?_ hnd (fun r hr=>?_) ?_ (fun b hb q hq=>?_) (ht _ hf1) ?_
 ·rw[hL,show (4000:Nat)=(3999-m)+m+1 by omega,qdk (n:=m) (by simp) hg1 (by rw[q5s,hm]) hgr (fun r hr=>⟨by simp,by have:=q1u.1 hr; omega⟩),show 3999-m=(3998-m)+1 by omega,qaK]
  rfl
 ·rcases KA.1 hr with rfl | hr
  ·omega
  ·have:=q1u.1 hr
   omega
 ·have:=qfA [.row 16 [q0y s] false true 0,.map (dE 2 l)] (dR 2 l) []
  rw[Kj,hm] at this
  simp only[Kd]
  exact qkx List.cons rfl this
 ·rcases KA.1 hb with rfl | hb
  ·have hq:q∈qaM (dE 2 l):=hq
   rw[q5s,hm] at hq
   exact Kt _ hq
  ·obtain ⟨j,hj⟩:=Vp hb
   obtain ⟨els,e⟩:=q6z 2 l j b hj
   rw[e] at hq
   simp [Blk.refs] at hq
 ·simp only[q4Y,qlP,KS]
  rw[q6g _ 2 1 l,qav 2 1 l fun i hi=>hf i (by omega)]
  rfl
end Ago
set_option maxRecDepth 100000
set_option exponentiation.threshold 2000
set_option maxHeartbeats 8000000
namespace Ago
open Go (IntKind)
theorem quh {live:List Nat} {tm tm':List AV} {E E':Heap} {l:q5J} {ks2:List Nat} {rb p:Nat} (hp:p=(q6W l).length) (hml:l.length≤1000) (hE : ∀ (j:Nat) (b:Blk),E[j]?=some b→(∃ n els,b = .row n els false true (p+j))∨(∃ es,b = .map es)∨b = .gone)
  (hr : ∀ r,r∈ks2→p≤r∧∃ b,E[r-p]?=some b∧b.refs=[]) (hnd:ks2.Nodup) (hkl:ks2.length≤10) (hL:(q0l live 0 tm).flatMap (AV.refsN 6)=0::ks2)
  (ht : ∀ f:Nat→Option Nat,f 0=some 0→(∀ i r,ks2[i]?=some r→f r=some (p+i))→(q0l live 0 tm).map (AV.renN f 6)=tm') (hK : ∀ f:Nat→Option Nat,q4Y f p (ks2.map fun r=>E.getD (r-p) .gone)=E') :
  St.norm live ⟨tm,q6W l++E,0,rb⟩=⟨tm',q6W l++E',0,0⟩:=by
 obtain ⟨m,hm⟩ : ∃ m,(dR 1 l).length=m:=⟨_,rfl⟩
 have hpl:(q6W l).length=1+m:=by rw[qmt,hm]
 have hm2:=qgR 1 l
 have hp2:p=1+m:=by rw[hp,hpl]
 have hown:OwnH (q6W l++E):=OwnH.app (qgZ l) fun j b h=>by rw[←hp]; exact hE j b h
 have hg0:(q6W l++E)[0]?=some (.map (dE 1 l)):=rfl
 have hgr : ∀ r,r∈List.range' 1 m→∃ els,(q6W l++E)[r]?=some (.row 1 els false true r):=fun r hr=>by
  obtain ⟨h1,h2⟩:=q1u.1 hr
  obtain ⟨x,hx⟩ : ∃ x,(dR 1 l)[r-1]?=some x:=q08 (by omega)
  obtain ⟨els,e⟩:=q6z 1 l _ x hx
  refine ⟨els,?_⟩
  rw[KG (by omega)]
  have:q6W l=[.map (dE 1 l)]++dR 1 l:=rfl
  rw[this,KJ (by simp; omega)]
  show (dR 1 l)[r-1]?=_
  rw[hx,e,show 1+(r-1)=r by omega]
 have hg2 : ∀ r,r∈ks2→∃ b,(q6W l++E)[r]?=some b∧b.refs=[]∧(q6W l++E).getD r .gone=E.getD (r-p) .gone:=fun r h=>by
  obtain ⟨h1,b,h2,h3⟩:=hr r h
  have e:(q6W l++E)[r]?=E[r-p]?:=by rw[KJ (by omega),←hp]
  refine ⟨b,by rw[e,h2],h3,?_⟩
  rw[Ko,Ko,e]
 have hlt : ∀ r,r∈ks2→r<(q6W l++E).length:=fun r h=>by
  obtain ⟨b,h1,_⟩:=hg2 r h
  exact (Ks.1 h1).1
 have hdj : ∀ a,a∈List.range' 1 m→∀ b,b∈ks2→a≠b:=fun a ha b hb hab=>by
  have:=q1u.1 ha
  have:=(hr b hb).1
  omega
 have hnd2:(0::(List.range' 1 m++ks2)).Nodup:=List.nodup_cons.2 ⟨fun h=>by
  rcases Kv.1 h with h | h
  ·have:=q1u.1 h; omega
  ·have:=(hr 0 h).1; omega,List.nodup_append.2 ⟨List.nodup_range',hnd,hdj⟩⟩
 have hf : ∀ r,r<1+m→q0V 0 (0::(List.range' 1 m++ks2)) r=some r:=fun r hr=>by
  refine q5j hnd2 ?_
  match r with
  | 0=>rfl
  | r+1=>
   rw[KY,KG (by simp; omega),List.getElem?_range' (by omega)]
   congr 1
   omega
 have hf2 : ∀ i r,ks2[i]?=some r→q0V 0 (0::(List.range' 1 m++ks2)) r=some (p+i):=fun i r h=>by
  refine q5j hnd2 ?_
  rw[hp2,show 1+m+i=(m+i)+1 by omega,KY,KJ (by simp)]
  simpa using h
 refine qd5 (kept:=.map (dE 1 l)::(dR 1 l++ks2.map fun r=>E.getD (r-p) .gone)) hown ?_ hnd2 (fun r hr=>?_) ?_ (fun b hb q hq=>?_) (ht _ (hf 0 (by omega)) hf2) ?_
 ·rw[hL,show (4000:Nat)=(3999-m)+m+1 by omega,qdk (n:=m) (by simp) hg0 (by rw[q5s,hm]) (fun r hr=>by obtain ⟨els,e⟩:=hgr r hr; exact ⟨_,e,rfl⟩) (fun r hr=>⟨by simp,by have:=q1u.1 hr; omega⟩)]
  have:=q68 (H:=q6W l++E) (base:=0) ks2 (3999-m-ks2.length) [] ([]++0::List.range' 1 m) (fun r h=>⟨Kn _,by obtain ⟨b,h1,h2,_⟩:=hg2 r h; exact ⟨b,h1,h2⟩⟩) hnd (fun r h hm=>by
   rw[Kh] at hm
   rcases KA.1 hm with hm | hm
   ·have:=(hr r h).1; omega
   ·exact hdj r hm r h rfl)
  rw[Kj,show 3999-m-ks2.length+ks2.length=3999-m by omega] at this
  rw[this,show 3999-m-ks2.length=(3998-m-ks2.length)+1 by omega,qaK]
  rfl
 ·rcases KA.1 hr with rfl | hr
  ·rw[Kb]; omega
  ·rcases Kv.1 hr with hr | hr
   ·have:=q1u.1 hr
    rw[Kb]; omega
   ·exact hlt r hr
 ·simp only[Kd,Va]
  have m1:(List.range' 1 m).map (fun r=>(q6W l++E).getD r .gone)=dR 1 l:=by
   have:=qfA [.map (dE 1 l)] (dR 1 l) E
   rw[hm] at this
   exact this
  rw[m1,V1 (fun r h=>by obtain ⟨b,_,_,h3⟩:=hg2 r h; exact h3)]
  rfl
 ·rcases KA.1 hb with rfl | hb
  ·have hq:q∈qaM (dE 1 l):=hq
   rw[q5s,hm] at hq
   exact Kt _ (Kv.2 (.inl hq))
  ·rcases Kv.1 hb with hb | hb
   ·obtain ⟨j,hj⟩:=Vp hb
    obtain ⟨els,e⟩:=q6z 1 l j b hj
    rw[e] at hq
    simp [Blk.refs] at hq
   ·obtain ⟨r,h,rfl⟩:=KV.1 hb
    obtain ⟨b,h1,h2,h3⟩:=hg2 r h
    rw[←h3,Ko,h1,K8,h2] at hq
    cases hq
 ·simp only[q4Y,qlP,KS]
  rw[q7B,q6g _ 1 1 l,qav 1 1 l fun i hi=>hf _ (by omega),hm,←hp2,hK]
  rfl
abbrev SnL:=List (List UInt8 × Int)
def q3w (sn:SnL):List (AV × AV):=sn.map fun x=>(.str x.1,.int .i64 x.2)
def q1W (sn:SnL):List (List UInt8):=sn.map (·.1)
theorem q6d (n:List UInt8) : ∀ (sn:SnL) (i:Nat),(n∉q1W sn→findKey (.one .str) (.str n) (q3w sn) i=some none) ∧
  (n∈q1W sn→∃ j c,sn[j]?=some (n,c)∧findKey (.one .str) (.str n) (q3w sn) i=some (some (i+j,.int .i64 c))∧∀ c2,findKey (.one .str) (.str n) ((q3w sn).set j (.str n,.int .i64 c2)) i=some (some (i+j,.int .i64 c2)))
 | [],i=>⟨fun _=>rfl,fun h=>by cases h⟩
 | x::l,i=>by
  obtain ⟨h1,h2⟩:=q6d n l (i+1)
  by_cases he:x.1=n
  ·subst he
   refine ⟨fun h=>(h (by simp [q1W])).elim,fun _=>⟨0,x.2,rfl,?_,fun c2=>?_⟩⟩<;>simp [q3w,findKey,q44,q31]
  ·have e2:(n == x.1)=false:=by simpa using fun e=>he e.symm
   have hk:n∈q1W (x::l)↔n∈q1W l:=by
    unfold q1W
    rw[Kd,KA]
    exact ⟨fun h=>h.elim (fun e=>(he e.symm).elim) id,.inr⟩
   rw[hk]
   have e:findKey (.one .str) (.str n) (q3w (x::l)) i=findKey (.one .str) (.str n) (q3w l) (i+1):=by
    simp [q3w,findKey,q44,q31,e2]
   rw[e]
   refine ⟨h1,fun h=>?_⟩
   obtain ⟨j,c,g0,g1,g2⟩:=h2 h
   refine ⟨j+1,c,g0,by rw[g1,show i+1+j=i+(j+1) by omega],fun c2=>?_⟩
   have e3:findKey (.one .str) (.str n) ((q3w (x::l)).set (j+1) (.str n,.int .i64 c2)) i=findKey (.one .str) (.str n) ((q3w l).set j (.str n,.int .i64 c2)) (i+1):=by
    simp [q3w,findKey,q44,q31,e2]
   rw[e3,g2,show i+1+j=i+(j+1) by omega]
theorem qlo {sn:SnL} {j:Nat} {n:List UInt8} {c:Int}:(q3w sn).set j (.str n,.int .i64 c)=q3w (sn.set j (n,c)):=by
 unfold q3w
 rw[List.map_set]
theorem qgy {sn:SnL} {j:Nat} {n:List UInt8} {c c2:Int} (h:sn[j]?=some (n,c)):q1W (sn.set j (n,c2))=q1W sn:=by
 unfold q1W
 rw[List.map_set]
 obtain ⟨h1,h2⟩:=Ks.1 h
 have:(sn.map (·.1))[j]'(by simpa using h1)=n:=by rw[List.getElem_map,h2]
 conv=>lhs; rw[←this]
 exact List.set_getElem_self _
theorem q3y (sn:SnL):Blk.refs (.map (q3w sn))=[]:=by
 show (q3w sn).flatMap _=[]
 unfold q3w
 rw[List.flatMap_map]
 simp [AV.refsN]
theorem q7f (f:Nat→Option Nat) (sn:SnL):qmn f (q3w sn)=q3w sn:=by
 unfold qmn q3w
 rw[Vn]
 rfl
def q1O (l:q5J) (ks:List (List UInt8)):Nat:=((l.filter fun e=>!(ks.contains e.1)).map fun e=>e.2.length).sum
def qda (l:q5J) (n:List UInt8):List (List UInt8):=match l.find? fun e=>e.1 == n with
 | some e=>e.2
 | none=>[]
theorem qbN {n:List UInt8} {ks:List (List UInt8)} (hn:n∉ks) : ∀ l:q5J,q1O l (ks++[n])+(qda l n).length≤q1O l ks
 | []=>by simp [q1O,qda]
 | x::l=>by
  have ih:=qbN hn l
  by_cases he:x.1=n
  ·subst he
   have e1:(ks++[x.1]).contains x.1=true:=by simp
   have e2:ks.contains x.1=false:=by simpa using hn
   have e3:qda (x::l) x.1=x.2:=by simp [qda]
   unfold q1O at ih ⊢
   rw[List.filter_cons,List.filter_cons,e1,e2,e3]
   simp only[Bool.not_true,Km,if_false,Bool.not_false,if_true,Kd,List.sum_cons]
   omega
  ·have e1:(x.1 == n)=false:=by simpa using he
   have e2:(ks++[n]).contains x.1=ks.contains x.1:=by simp [he]
   have e3:qda (x::l) n=qda l n:=by simp [qda,e1]
   unfold q1O at ih ⊢
   rw[List.filter_cons,List.filter_cons,e2,e3]
   cases ks.contains x.1
   ·simp only[Bool.not_false,if_true,Kd,List.sum_cons]
    omega
   ·simp only[Bool.not_true,Km,if_false]
    exact ih
theorem qkr (l:q5J) (ks:List (List UInt8)):q1O l ks≤(l.map fun e=>e.2.length).sum:=by
 unfold q1O
 induction l with
 | nil=>simp
 | cons x l ih=>
  rw[List.filter_cons]
  split
  ·simp only[Kd,List.sum_cons]; omega
  ·simp only[Kd,List.sum_cons]; omega
theorem qg4 (s:Schs) (n:List UInt8):qda (qeY s.defs) n=lkN s n:=by
 have h:=qdN n s.defs []
 unfold qda
 rw[show qeY s.defs=s.defs.foldl q2F [] from rfl,h]
 unfold lkN lkM
 cases s.defs.find? (fun d=>d.1 == n)<;>simp
theorem qkk : ∀ (l:List (List UInt8 × Sch)) (es:q5J),((l.foldl q2F es).map fun e=>e.2.length).sum≤(es.map fun e=>e.2.length).sum+AV.bulks (l.map q0H)
 | [],es=>by simp
 | d::l,es=>by
  have h1:=qkk l (q2F es d)
  have h2:((q2F es d).map fun e=>e.2.length).sum≤(es.map fun e=>e.2.length).sum+(q0H d).bulk:=by
   have:=q64 true 48 d.2
   have:=q2o 48 d.2
   have:=q2Y d
   unfold q2F
   split
   ·omega
   ·simp; omega
  simp only[Vz,Kd,AV.bulks]
  omega
theorem q8M {r fam k:Nat} : ∀ (A B:Heap) (i:Nat),(∀ (j n:Nat) (els:List AV) (ro fl:Bool),A[j]?=some (Blk.row n els ro fl fam)→False)→q0D r fam k (A++B) i=(q0D r fam k B (i+A.length)).map (A ++ ·)
 | [],B,i,_=>by
  cases h:q0D r fam k B i<;>simp [h]
 | b::A,B,i,h=>by
  have ih:=q8M (r:=r) (fam:=fam) (k:=k) A B (i+1) fun j n els ro fl hj=>h (j+1) n els ro fl hj
  rw[Kf,q0D,ih,List.length_cons,show i+1+A.length=i+(A.length+1) by omega]
  cases hq:q0D r fam k B (i+(A.length+1)) with
  | none=>simp
  | some B'=>
   cases b with
   | row n els ro fl fam'=>
    simp only[KM]
    have:fam'≠fam:=fun e=>h 0 n els ro fl (by rw[e]; rfl)
    rw[if_neg (fun c=>this c.1)]
    rfl
   | _=>rfl
end Ago
set_option maxRecDepth 100000
set_option exponentiation.threshold 2000
set_option maxHeartbeats 8000000
namespace Ago
open Go (IntKind)
structure WalkP (s:Schs) (n0:List UInt8) (td:List (List UInt8)) (sn:SnL):Prop where
 todo : ∀ x,x∈td→Rc s (lkN s n0) x
 base : ∀ x,x∈lkN s n0→x∈td∨x∈q1W sn
 succ : ∀ x,x∈q1W sn→∀ y,y∈lkN s x→y∈td∨y∈q1W sn
 rc : ∀ x,x∈q1W sn→Rc s (lkN s n0) x
 ne:n0∉q1W sn
 cnt : ∀ x,x∈sn→1≤x.2∧x.2+((td.length+q1O (qeY s.defs) (q1W sn):Nat):Int)≤2^28
 mu:td.length+q1O (qeY s.defs) (q1W sn)≤2^27
theorem WalkP.init {s:Schs} {n0:List UInt8} (hs:s.bulk≤2^24) (hn:(lkN s n0).length≤2^24):WalkP s n0 (lkN s n0) []:=by
 refine ⟨fun x h=>.base h,fun x h=>.inl h,fun x h=>(by cases h),fun x h=>(by cases h),fun h=>(by cases h),fun x h=>(by cases h),?_⟩
 have h1:=qkr (qeY s.defs) (q1W [])
 have h2:=qkk s.defs []
 have h3:=s.bulk_eq
 have h2:((qeY s.defs).map fun e=>e.2.length).sum≤(List.map (fun e=>e.2.length) ([]:q5J)).sum+AV.bulks (s.defs.map q0H):=h2
 simp only[Kl,List.sum_nil] at h2
 omega
theorem WalkP.old {s:Schs} {n0 n:List UInt8} {td:List (List UInt8)} {sn:SnL} {j:Nat} {c:Int} (h:WalkP s n0 (n::td) sn) (hj:sn[j]?=some (n,c)):WalkP s n0 td (sn.set j (n,c+1)):=by
 have hk:q1W (sn.set j (n,c+1))=q1W sn:=qgy hj
 have hnk:n∈q1W sn:=KV.2 ⟨_,Kc hj,rfl⟩
 have hc:=h.cnt _ (Kc hj)
 refine ⟨fun x hx=>h.todo x (Kt _ hx),fun x hx=>?_,fun x hx y hy=>?_,fun x hx=>?_,?_,fun x hx=>?_,?_⟩
 ·rw[hk]
  rcases h.base x hx with h1 | h1
  ·rcases KA.1 h1 with rfl | h1
   ·exact .inr hnk
   ·exact .inl h1
  ·exact .inr h1
 ·rw[hk] at hx ⊢
  rcases h.succ x hx y hy with h1 | h1
  ·rcases KA.1 h1 with rfl | h1
   ·exact .inr hnk
   ·exact .inl h1
  ·exact .inr h1
 ·rw[hk] at hx
  exact h.rc x hx
 ·rw[hk]
  exact h.ne
 ·rw[hk]
  have hl:(n::td).length=td.length+1:=rfl
  rcases V3 hx with h1 | rfl
  ·have:=h.cnt x h1
   rw[hl] at this
   omega
  ·rw[hl] at hc
   simp only at hc ⊢
   omega
 ·rw[hk]
  have:=h.mu
  simp only[List.length_cons] at this
  omega
theorem WalkP.new {s:Schs} {n0 n:List UInt8} {td:List (List UInt8)} {sn:SnL} (h:WalkP s n0 (n::td) sn) (hn:n∉q1W sn) (he:n≠n0):WalkP s n0 (td++lkN s n) (sn++[(n,1)])∧(td++lkN s n).length+q1O (qeY s.defs) (q1W (sn++[(n,1)]))<(n::td).length+q1O (qeY s.defs) (q1W sn):=by
 have hk:q1W (sn++[(n,1)])=q1W sn++[n]:=by simp [q1W]
 have hu:=qbN hn (qeY s.defs)
 rw[qg4] at hu
 have hmu:=h.mu
 simp only[List.length_cons] at hmu
 refine ⟨⟨fun x hx=>?_,fun x hx=>?_,fun x hx y hy=>?_,fun x hx=>?_,?_,fun x hx=>?_,?_⟩,?_⟩
 ·rcases Kv.1 hx with h1 | h1
  ·exact h.todo x (Kt _ h1)
  ·exact .step (h.todo n (Ku ..)) h1
 ·rw[hk,Kv,Kv,Kx]
  rcases h.base x hx with h1 | h1
  ·rcases KA.1 h1 with rfl | h1
   ·exact .inr (.inr rfl)
   ·exact .inl (.inl h1)
  ·exact .inr (.inl h1)
 ·rw[hk,Kv,Kx] at hx
  rw[hk,Kv,Kv,Kx]
  rcases hx with hx | rfl
  ·rcases h.succ x hx y hy with h1 | h1
   ·rcases KA.1 h1 with rfl | h1
    ·exact .inr (.inr rfl)
    ·exact .inl (.inl h1)
   ·exact .inr (.inl h1)
  ·exact .inl (.inr hy)
 ·rw[hk,Kv,Kx] at hx
  rcases hx with hx | rfl
  ·exact h.rc x hx
  ·exact h.todo x (Ku ..)
 ·rw[hk,Kv,Kx]
  rintro (h1 | h1)
  ·exact h.ne h1
  ·exact he h1.symm
 ·rw[hk,Kb]
  rcases Kv.1 hx with h1 | h1
  ·have:=h.cnt x h1
   simp only[List.length_cons] at this
   omega
  ·rw[Kx.1 h1]
   simp only
   omega
 ·rw[hk,Kb]
  omega
 ·rw[hk,Kb,List.length_cons]
  omega
theorem WalkP.done {s:Schs} {n0:List UInt8} {sn:SnL} (h:WalkP s n0 [] sn) : ¬ Rc s (lkN s n0) n0:=by
 have key : ∀ x,Rc s (lkN s n0) x→x∈q1W sn:=by
  intro x hx
  induction hx with
  | base h1=>exact (h.base _ h1).elim (fun h=>by cases h) id
  | step _ h2 ih=>exact (h.succ _ ih _ h2).elim (fun h=>by cases h) id
 exact fun hx=>h.ne (key _ hx)
theorem qh4 (H:Heap):q1z CS 214 [.snil 1] H (.snil 1) (H++[.gone]):=by
 refine .prim (Or.inl ⟨(1,16),_,rfl,rfl,?_⟩)
 simp [q2D,Heap.elems,Heap.append,lim,q3t]
theorem qn1 {H:Heap} {r:Nat} {ss:List (List UInt8)} (h:H[r]?=some (.row 1 (ss.map .str) false true r)) (hne:ss≠[]) (hl:ss.length<2^25):q1z CS 214 [.sref 1 r 0 ss.length] H (.sref 1 (H.length+1) 0 ss.length) (H++[.gone,.row 1 (ss.map .str) false true (H.length+1)]):=by
 refine .prim (Or.inl ⟨(1,16),_,rfl,rfl,?_⟩)
 have hr:=(Ks.1 h).1
 have hg:(H++[Blk.gone])[r]?=some (.row 1 (ss.map .str) false true r):=by rw[KG hr]; exact h
 have:ss.length * 16≤2^40:=by omega
 cases ss with
 | nil=>exact (hne rfl).elim
 | cons x l=>
  simp [q2D,Heap.elems,Heap.append,Heap.flatOf,lim,q3t,hg,q75]
  simp at this hl
  exact ⟨by omega,Kz (by simp)⟩
theorem q87 {A:Heap} (ho:OwnH A) (r:Nat) (e0 e1:List AV) (es:List (AV × AV)) (hr:r≠A.length+1):q0D r (A.length+1) 0 (A++[.row 16 e0 false true A.length,.row 1 e1 false true (A.length+1),.map es]) 0=some (A++[.row 16 e0 false true A.length,.gone,.map es]):=by
 rw[q8M _ _ _ fun j n els ro fl hj=>by
  have hl:=(Ks.1 hj).1
  rcases ho j _ hj with ⟨n2,e2,e⟩ | ⟨es,e⟩ | e<;>cases e
  omega]
 simp [q0D,Ne.symm hr]
theorem qb3 {live:List Nat} {tm tm':List AV} {E E':Heap} {l:q5J} {idx:List Nat} {rb:Nat} (hml:l.length≤1000) (hE : ∀ (j:Nat) (b:Blk),E[j]?=some b→(∃ n els,b = .row n els false true ((q6W l).length+j))∨(∃ es,b = .map es)∨b = .gone)
  (hr : ∀ j,j∈idx→∃ b,E[j]?=some b∧b.refs=[]) (hnd:idx.Nodup) (hkl:idx.length≤10) (hL:(q0l live 0 tm).flatMap (AV.refsN 6)=0::idx.map fun j=>(q6W l).length+j)
  (ht : ∀ f:Nat→Option Nat,f 0=some 0→(∀ i j,idx[i]?=some j→f ((q6W l).length+j)=some ((q6W l).length+i))→(q0l live 0 tm).map (AV.renN f 6)=tm') (hK : ∀ f:Nat→Option Nat,q4Y f (q6W l).length (idx.map fun j=>E.getD j .gone)=E') :
  St.norm live ⟨tm,q6W l++E,0,rb⟩=⟨tm',q6W l++E',0,0⟩:=by
 refine quh (ks2:=idx.map fun j=>(q6W l).length+j) rfl hml hE (fun r hr2=>?_) ?_ (by simpa using hkl) hL (fun f h0 h1=>ht f h0 fun i j hij=>h1 i _ (by rw[KH,hij]; rfl)) fun f=>?_
 ·obtain ⟨j,hj,rfl⟩:=KV.1 hr2
  exact ⟨Nat.le_add_right _ _,by rw[VG]; exact hr j hj⟩
 ·rw[List.Nodup,List.pairwise_map]
  exact hnd.imp fun h h2=>h (by omega)
 ·rw[Vn,←hK f]
  congr 1
  refine V1 fun j _=>?_
  simp
theorem qgo (f:Nat→Option Nat) (q:Nat) (h1:f q=some 0) (L:List AV) (x y:Int):(q0i 79 [(4,.mref q),(39,.tsl 16 L),(40,.int .i64 x),(41,.int .i64 y)]).map (AV.renN f 6)=q0i 79 [(4,.mref 0),(39,.tsl 16 L),(40,.int .i64 x),(41,.int .i64 y)]:=by
 simp [q0i,AV.renN,h1,VE]
theorem qdL (f:Nat→Option Nat) {a b c a2 b2 c2:Nat} (h0:f 0=some 0) (h1:f a=some a2) (h2:f b=some b2) (h3:f c=some c2) (L:List AV) (x y:Int) (i n:Nat):(q0i 79 [(4,.mref 0),(10,.ptr 16 a 0 0),(11,.sref 1 b i n),(12,.mref c),(39,.tsl 16 L),(40,.int .i64 x),(41,.int .i64 y)]).map (AV.renN f 6)=q0i 79 [(4,.mref 0),(10,.ptr 16 a2 0 0),(11,.sref 1 b2 i n),(12,.mref c2),(39,.tsl 16 L),(40,.int .i64 x),(41,.int .i64 y)]:=by
 simp [q0i,AV.renN,h0,h1,h2,h3,VE]
theorem qoH (f:Nat→Option Nat) {a c a2 c2:Nat} (h0:f 0=some 0) (h1:f a=some a2) (h3:f c=some c2) (L:List AV) (x y:Int):(q0i 79 [(4,.mref 0),(10,.ptr 16 a 0 0),(11,.snil 1),(12,.mref c),(39,.tsl 16 L),(40,.int .i64 x),(41,.int .i64 y)]).map (AV.renN f 6)=q0i 79 [(4,.mref 0),(10,.ptr 16 a2 0 0),(11,.snil 1),(12,.mref c2),(39,.tsl 16 L),(40,.int .i64 x),(41,.int .i64 y)]:=by
 simp [q0i,AV.renN,h0,h1,h3,VE]
theorem qgG (l:q5J) (n:List UInt8):(findKey (.one .str) (.str n) (dE 1 l) 0=some none∧qda l n=[])∨(∃ j,findKey (.one .str) (.str n) (dE 1 l) 0=some (some (j,.snil 1))∧qda l n=[]) ∨
  ∃ j r,findKey (.one .str) (.str n) (dE 1 l) 0=some (some (j,.sref 1 r 0 (qda l n).length))∧qda l n≠[]∧(q6W l)[r]?=some (.row 1 ((qda l n).map .str) false true r):=by
 obtain ⟨f1,f2⟩:=qfh n l 1 0
 cases hany:l.any fun e=>e.1 == n with
 | false=>
  refine .inl ⟨f1 hany,?_⟩
  have:l.find? (fun e=>e.1 == n)=none:=by
   rw[List.find?_eq_none]
   intro e he h
   have:=List.any_eq_false.1 hany e he
   exact this h
  unfold qda
  rw[this]
 | true=>
  obtain ⟨j,v,e,g1,g2,g3⟩:=f2 hany
  have hen:qda l n=e.2:=by unfold qda; rw[g1]
  rw[hen]
  rcases g3 with ⟨rfl,g3⟩ | ⟨r,rfl,g3,g4⟩
  ·exact .inr (.inl ⟨_,g2,g3⟩)
  ·refine .inr (.inr ⟨_,_,g2,g4,?_⟩)
   rw[Nat.add_comm 1 r] at g3 ⊢
   exact g3
theorem qlm {s:Schs} (hs:s.bulk≤2^24) (n:List UInt8):(lkN s n).length≤2^24:=by
 cases hf:s.defs.find? (fun d=>d.1 == n) with
 | none=>
  unfold lkN lkM
  rw[hf]
  simp
 | some d=>
  unfold lkN lkM
  rw[hf]
  have hm:=VI hf
  obtain ⟨h1,_⟩:=(Schs.dlen hs).2 d hm
  have:=q64 true 48 d.2
  have:=q2o 48 d.2
  simp only[if_true]
  omega
theorem qld {n:List UInt8} {sn:SnL} (h:n∉q1W sn):findKey (.one .str) (.str n) (q3w sn) 0=some none∧∃ j,findKey (.one .str) (.str n) (q3w sn++[(.str n,.int .i64 1)]) 0=some (some (j,.int .i64 1)):=by
 refine ⟨(q6d n sn 0).1 h,?_⟩
 have e:q3w sn++[(.str n,.int .i64 1)]=q3w (sn++[(n,1)]):=by simp [q3w]
 rw[e]
 obtain ⟨j,c,g0,g1,_⟩:=(q6d n (sn++[(n,1)]) 0).2 (by simp [q1W])
 have hc:c=1:=by
  rcases Kv.1 (Kc g0) with h1 | h1
  ·exact (h (KV.2 ⟨_,h1,rfl⟩)).elim
  ·have:=Kx.1 h1
   exact (Vm .. ▸ this).2
 subst hc
 exact ⟨_,g1⟩
end Ago
set_option maxRecDepth 100000
set_option exponentiation.threshold 2000
set_option maxHeartbeats 16000000
namespace Ago
open Go (IntKind)
theorem qfK (s:Schs) (hs:s.bulk≤2^24) (h70:s.defs.length≤1000):q0m CS 459 [q0y s] (.tup [.str (q3m s).1,.bool (q3m s).2]):=by
 obtain ⟨hd1,hd2⟩:=Schs.dlen hs
 have hse:=q0h s
 refine q05 qme rfl ?_
 rw[q0h]
 (repeat' first|simp (disch:=omega) only[go_sem,qme,enter,Ka]|(apply spl<;>intro h<;>try simp (disch:=omega) only[go_sem,h]))
 refine q0a (α:=Nat) (fun k=>{ tmps:=q0i 79 [(1,.ptr 16 0 0 0),(4,.mref 1),(16,.tsl 16 (s.defs.map q0H)),(17,.int .i64 s.defs.length),(18,.int .i64 k)],heap:=qaZ s (qeY (s.defs.take k)),base:=0 }) (fun k=>k≤s.defs.length) (fun k=>s.defs.length-k) 0 (by unfold qaZ; rw[hse]; rfl) (Kn _) ?_
 intro k hk
 obtain ⟨l,hl⟩ : ∃ l,qeY (s.defs.take k)=l:=⟨_,rfl⟩
 have hll:l.length≤1000:=by
  rw[←hl]
  have:=qh0 (s.defs.take k) []
  rw[KI] at this
  have:(qeY (s.defs.take k)).length≤[].length+min k s.defs.length:=this
  simp at this
  omega
 have hrl:=qgR 2 l
 rw[hl]
 by_cases hlt:k<s.defs.length
 ·obtain ⟨d,hdk⟩:=q08 hlt
  have hdm:=Kc hdk
  have hde:=q0d (g:=q0H) hdk
  obtain ⟨hdb,hdn⟩:=hd2 d hdm
  have hstep:=qly hdk
  rw[hl] at hstep
  obtain ⟨H,hH⟩ : ∃ H,qaZ s l=H:=⟨_,rfl⟩
  have hH1:H[1]?=some (.map (dE 2 l)):=by rw[←hH]; rfl
  have hHl:1<H.length:=by rw[←hH]; simp [qaZ]
  have hHlen:H.length=2+(dR 2 l).length:=by rw[←hH]; simp [qaZ]; omega
  have hHown:OwnH H:=by rw[←hH]; exact qcN s l
  have hHcl:Cl H:=by rw[←hH]; exact qqi s l
  obtain ⟨f1,f2⟩:=qfh d.1 l 2 0
  rw[q0K] at hde
  rw[hH]
  cases hany:l.any fun e=>e.1 == d.1 with
  | true=>
   obtain ⟨j,v,e,g1,g2,g3⟩:=f2 hany
   rw[KS] at g2
   unfold q2F at hstep
   rw[if_pos hany] at hstep
   (repeat' first|simp (disch:=omega) only[go_sem,hde,Ka,q2O,q1S,q53,q0S hHown.fb,hH1,g2]|(apply spl<;>intro h<;>try simp (disch:=omega) only[go_sem,h]))
   all_goals first | omega | skip
   refine ⟨k+1,?_,hlt,by omega⟩
   rw[hstep,hHlen,←hH]
   unfold qaZ
   rw[Kf,Kf]
   refine Eq.trans (qp5 (l:=l) (N:=[]) (N':=[]) (ks2:=[]) rfl rfl (by omega) rfl (.inl ⟨rfl,rfl,rfl⟩) (by rw[q5s,Kj]) (by rfl) (fun f h0 h1=>by exact qjE f h0 h1 _ _ _) (fun f h _=>qav 2 2 l fun i hi=>h _ (by omega))) ?_
   rw[Kj]
   rfl
  | false=>
   have g2:=f1 hany
   unfold q2F at hstep
   rw[if_neg (by rw[hany]; simp)] at hstep
   (repeat' first|simp (disch:=omega) only[go_sem,hde,Ka,q2O,q1S,q53,q0S hHown.fb,hH1,g2]|(apply spl<;>intro h<;>try simp (disch:=omega) only[go_sem,h]))
   all_goals first | omega | skip
   have hc:=qmu true 48 48 rfl (by decide) d.2 (by omega) (H++[.row 16 [q0H d] false true H.length]) (.snil 1) [] _ (hHcl.push _ _ _ _ (Kr _)) (hHown.fb.push (Kr _)) Hold.nil (by have:=q2o 48 d.2; simp; omega)
   rw[q02,q0K] at hc
   by_cases hss:q2H true 48 d.2=[]
   ·rw[hss] at hc hstep
    simp only[Kl,q3N,q24,if_true] at hc
    refine qkD ?s1 ?a1 ?b1 ?c1
    case a1=>
     (repeat' first|simp (disch:=omega) only[go_sem,q20,q2O,q1S,setL,hH1,g2]|(refine q0b _ _ hc ?_)|(apply spl<;>intro h<;>try simp (disch:=omega) only[go_sem,h]))
     all_goals first | omega | skip
     exact rfl
    case b1=>
     (repeat' first|simp (disch:=omega) only[go_sem,q20,q2O,q1S,setL,hH1,g2]|(refine q0b _ _ hc ?_)|(apply spl<;>intro h<;>try simp (disch:=omega) only[go_sem,h]))
    case c1=>
     (repeat' first|simp (disch:=omega) only[go_sem]|(apply spl<;>intro h<;>try simp (disch:=omega) only[go_sem,h]))
     all_goals first | omega | skip
     refine ⟨k+1,?_,hlt,by omega⟩
     rw[hstep,hHlen,←hH]
     unfold qaZ
     rw[qjg,qlx,show q83 (2+(dR 2 l).length) ([]:List (List UInt8))=[] from rfl,show q8N (2+(dR 2 l).length) ([]:List (List UInt8)) = .snil 1 from rfl]
     exact qp5 (l:=l) (N:=[]) (N':=[]) (ks2:=[]) rfl rfl (by omega) rfl (.inl ⟨rfl,rfl,rfl⟩) (by unfold qaM; rw[List.flatMap_append]; exact qkx HAppend.hAppend (q5s 2 l) rfl) (by rfl) (fun f h0 h1=>by exact qjE f h0 h1 _ _ _) (fun f h _=>by
      have:=qav (f:=f) 2 2 l fun i hi=>h _ (by omega)
      unfold qmn at this ⊢
      rw[Va,this]
      rfl)
   ·have hne:(q2H true 48 d.2).map AV.str≠[]:=fun e=>hss (List.map_eq_nil_iff.1 e)
    simp only[q3N,q24,if_neg hne,Kh,Ka,Kb,List.length_cons,List.length_nil,Ke,Kf,KS] at hc
    refine qkD ?s2 ?a2 ?b2 ?c2
    case a2=>
     (repeat' first|simp (disch:=omega) only[go_sem,q20,q2O,q1S,setL,hH1,g2]|(refine q0b _ _ hc ?_)|(apply spl<;>intro h<;>try simp (disch:=omega) only[go_sem,h]))
     all_goals first | omega | skip
     exact rfl
    case b2=>
     (repeat' first|simp (disch:=omega) only[go_sem,q20,q2O,q1S,setL,hH1,g2]|(refine q0b _ _ hc ?_)|(apply spl<;>intro h<;>try simp (disch:=omega) only[go_sem,h]))
    case c2=>
     (repeat' first|simp (disch:=omega) only[go_sem]|(apply spl<;>intro h<;>try simp (disch:=omega) only[go_sem,h]))
     all_goals first | omega | skip
     refine ⟨k+1,?_,hlt,by omega⟩
     rw[hstep,hHlen,←hH]
     unfold qaZ
     rw[qjg,qlx,show q83 (2+(dR 2 l).length) (q2H true 48 d.2)=[.row 1 ((q2H true 48 d.2).map .str) false true (2+(dR 2 l).length)] from if_neg hss,show q8N (2+(dR 2 l).length) (q2H true 48 d.2) = .sref 1 (2+(dR 2 l).length) 0 (q2H true 48 d.2).length from if_neg hss]
     exact qp5 (l:=l) (N:=[.row 1 ((q2H true 48 d.2).map .str) false true (2+(dR 2 l).length+1)]) (N':=[.row 1 ((q2H true 48 d.2).map .str) false true (2+(dR 2 l).length)]) (ks2:=[2+(dR 2 l).length+1]) rfl rfl (by omega) rfl (.inr ⟨_,rfl,rfl,rfl⟩) (by unfold qaM; rw[List.flatMap_append]; exact qkx HAppend.hAppend (q5s 2 l) rfl) (by rfl) (fun f h0 h1=>by exact qjE f h0 h1 _ _ _) (fun f h h2=>by
      have:=qav (f:=f) 2 2 l fun i hi=>h _ (by omega)
      have h3:=h2 (by simp)
      unfold qmn at this ⊢
      rw[Va,this]
      simp [AV.renN,h3])
 ·have hk2:k=s.defs.length:=by omega
  subst hk2
  rw[Ky] at hl
  clear hlt hk
  have hl:qeY s.defs=l:=hl
  unfold qaZ
  rw[hse]
  (repeat' first|simp (disch:=omega) only[go_sem,Ka]|(apply spl<;>intro h<;>try simp (disch:=omega) only[go_sem,h]))
  refine q0a (α:=Nat) (fun k=>{ tmps:=q0i 79 [(4,.mref 0),(39,.tsl 16 (s.defs.map q0H)),(40,.int .i64 s.defs.length),(41,.int .i64 k)],heap:=q6W l,base:=0 }) (fun k=>k≤s.defs.length∧(s.defs.take k).any (qeV s)=false) (fun k=>s.defs.length-k) 0 ?_ ⟨Kn _,rfl⟩ ?_
  ·rw[←hse]
   exact qwE hll rfl fun f h=>by exact qgo f 1 h _ _ _
  intro k ⟨hk,ha⟩
  by_cases hlt:k<s.defs.length
  ·obtain ⟨d,hdk⟩:=q08 hlt
   have hdm:=Kc hdk
   have hde:=q0d (g:=q0H) hdk
   obtain ⟨hdb,hdn⟩:=hd2 d hdm
   obtain ⟨H,hH⟩ : ∃ H,q6W l=H:=⟨_,rfl⟩
   have hH0:H[0]?=some (.map (dE 1 l)):=by rw[←hH]; rfl
   have hHl:0<H.length:=by rw[←hH]; simp [q6W]
   have hHown:OwnH H:=by rw[←hH]; exact qgZ l
   have hbad:qeV s d=true↔Rc s (lkN s d.1) d.1:=by
    rw[qqJ]
    have:(lkM s d.1).2=true:=by
     unfold lkM
     cases hf:s.defs.find? (fun e=>e.1 == d.1) with
     | none=>exact (List.find?_eq_none.1 hf d hdm (by simp)).elim
     | some e=>rfl
    unfold lkN
    rw[if_pos this]
   have h0:=WalkP.init (n0:=d.1) hs (qlm hs d.1)
   have hlk0:=qgG l d.1
   have hen0:qda l d.1=lkN s d.1:=by rw[←hl]; exact qg4 s d.1
   rw[hen0,hH] at hlk0
   have hl0:=qlm hs d.1
   rw[q0K] at hde
   rw[hH]
   rcases hlk0 with ⟨f1,f2⟩ | ⟨j,f1,f2⟩ | ⟨j,r,f1,f2,f3⟩
   ·(repeat' first|simp (disch:=omega) only[go_sem,hde,Ka,q2O,q1S,q53,q0S hHown.fb,hH0,f1,Ke,Kf,Kh,Kb,List.length_cons,List.length_nil,KT]|(refine q0b _ _ (qh4 _) ?_)|(apply spl<;>intro h<;>try simp (disch:=omega) only[go_sem,h]))
    all_goals first | omega | skip
    refine q0a (α:=Unit) (fun _=>{ tmps:=q0i 79 [(4,.mref 0),(10,.ptr 16 H.length 0 0),(11,.snil 1),(12,.mref (H.length+1)),(39,.tsl 16 (s.defs.map q0H)),(40,.int .i64 s.defs.length),(41,.int .i64 k)],heap:=H++[.row 16 [q0H d] false true H.length,.map []],base:=0 }) (fun _=>True) (fun _=>0) () ?_ trivial ?_
    ·subst hH
     rw[q0K]
     exact qb3 (idx:=[0,2]) hll (fun j b h=>by
      match j,h with
      | 0,h=>
       cases h
       exact .inl ⟨_,_,rfl⟩
      | 1,h=>
       cases h
       exact .inr (.inr rfl)
      | 2,h=>
       cases h
       exact .inr (.inl ⟨_,rfl⟩)
      | j+3,h=>simp at h) (fun j hj=>by
      simp only[KA,Kx,Vq,or_false] at hj
      rcases hj with rfl | rfl<;>first | exact ⟨_,rfl,rfl⟩ | exact ⟨_,rfl,q3y _⟩) (by decide) (by decide) (by rfl) (fun f h0 h1=>by exact qoH f h0 (h1 0 0 rfl) (h1 1 2 rfl) _ _ _) (fun f=>by rfl)
    ·intro _ _
     have hb:qeV s d=false:=by
      rw[f2] at h0
      have:=h0.done
      cases hq:qeV s d with
      | false=>rfl
      | true=>
       rw[hbad,f2] at hq
       rw[f2] at this
       exact (this hq).elim
     rw[q0K]
     (repeat' first|simp (disch:=omega) only[go_sem,hde,Ka,q2O,q1S,q53,q0S hHown.fb,hH0,Ke,Kf,Kh,Kb,List.length_cons,List.length_nil,KT]|(apply spl<;>intro h<;>try simp (disch:=omega) only[go_sem,h]))
     all_goals first | omega | skip
     refine ⟨k+1,?_,⟨hlt,q3j hdk ha hb⟩,by omega⟩
     subst hH
     refine Eq.trans (qb3 (idx:=[]) (E':=[]) hll (fun j b h=>by
      match j,h with
      | 0,h=>
       cases h
       exact .inl ⟨_,_,rfl⟩
      | 1,h=>
       cases h
       exact .inr (.inl ⟨_,rfl⟩)
      | j+2,h=>simp at h) (fun j hj=>by cases hj) (by decide) (by decide) (by rfl) (fun f h0 h1=>by exact qgo f 0 h0 _ _ _) (fun f=>by rfl)) ?_
     rw[Kj]
     rfl
   ·(repeat' first|simp (disch:=omega) only[go_sem,hde,Ka,q2O,q1S,q53,q0S hHown.fb,hH0,f1,Ke,Kf,Kh,Kb,List.length_cons,List.length_nil,KT]|(refine q0b _ _ (qh4 _) ?_)|(apply spl<;>intro h<;>try simp (disch:=omega) only[go_sem,h]))
    all_goals first | omega | skip
    refine q0a (α:=Unit) (fun _=>{ tmps:=q0i 79 [(4,.mref 0),(10,.ptr 16 H.length 0 0),(11,.snil 1),(12,.mref (H.length+1)),(39,.tsl 16 (s.defs.map q0H)),(40,.int .i64 s.defs.length),(41,.int .i64 k)],heap:=H++[.row 16 [q0H d] false true H.length,.map []],base:=0 }) (fun _=>True) (fun _=>0) () ?_ trivial ?_
    ·subst hH
     rw[q0K]
     exact qb3 (idx:=[0,2]) hll (fun j b h=>by
      match j,h with
      | 0,h=>
       cases h
       exact .inl ⟨_,_,rfl⟩
      | 1,h=>
       cases h
       exact .inr (.inr rfl)
      | 2,h=>
       cases h
       exact .inr (.inl ⟨_,rfl⟩)
      | j+3,h=>simp at h) (fun j hj=>by
      simp only[KA,Kx,Vq,or_false] at hj
      rcases hj with rfl | rfl<;>first | exact ⟨_,rfl,rfl⟩ | exact ⟨_,rfl,q3y _⟩) (by decide) (by decide) (by rfl) (fun f h0 h1=>by exact qoH f h0 (h1 0 0 rfl) (h1 1 2 rfl) _ _ _) (fun f=>by rfl)
    ·intro _ _
     have hb:qeV s d=false:=by
      rw[f2] at h0
      have:=h0.done
      cases hq:qeV s d with
      | false=>rfl
      | true=>
       rw[hbad,f2] at hq
       rw[f2] at this
       exact (this hq).elim
     rw[q0K]
     (repeat' first|simp (disch:=omega) only[go_sem,hde,Ka,q2O,q1S,q53,q0S hHown.fb,hH0,Ke,Kf,Kh,Kb,List.length_cons,List.length_nil,KT]|(apply spl<;>intro h<;>try simp (disch:=omega) only[go_sem,h]))
     all_goals first | omega | skip
     refine ⟨k+1,?_,⟨hlt,q3j hdk ha hb⟩,by omega⟩
     subst hH
     refine Eq.trans (qb3 (idx:=[]) (E':=[]) hll (fun j b h=>by
      match j,h with
      | 0,h=>
       cases h
       exact .inl ⟨_,_,rfl⟩
      | 1,h=>
       cases h
       exact .inr (.inl ⟨_,rfl⟩)
      | j+2,h=>simp at h) (fun j hj=>by cases hj) (by decide) (by decide) (by rfl) (fun f h0 h1=>by exact qgo f 0 h0 _ _ _) (fun f=>by rfl)) ?_
     rw[Kj]
     rfl
   ·have hcl:=qn1 (H:=H++[.row 16 [q0H d] false true H.length]) (r:=r) (ss:=lkN s d.1) (by rw[KG (Ks.1 f3).1]; exact f3) f2 (by omega)
    rw[q0K] at hcl
    (repeat' first|simp (disch:=omega) only[go_sem,hde,Ka,q2O,q1S,q53,q0S hHown.fb,hH0,f1,Ke,Kf,Kh,Kb,List.length_cons,List.length_nil,KT]|(refine q0b _ _ hcl ?_)|(apply spl<;>intro h<;>try simp (disch:=omega) only[go_sem,h]))
    all_goals first | omega | skip
    refine q0a (α:=List (List UInt8) × Nat × SnL) (fun a=>{ tmps:=q0i 79 [(4,.mref 0),(10,.ptr 16 H.length 0 0),(11,.sref 1 (H.length+1) a.2.1 (a.1.length-a.2.1)),(12,.mref (H.length+2)),(39,.tsl 16 (s.defs.map q0H)),(40,.int .i64 s.defs.length),(41,.int .i64 k)],heap:=H++[.row 16 [q0H d] false true H.length,.row 1 (a.1.map .str) false true (H.length+1),.map (q3w a.2.2)],base:=0 }) (fun a=>a.2.1≤a.1.length∧WalkP s d.1 (a.1.drop a.2.1) a.2.2) (fun a=>(a.1.length-a.2.1)+q1O (qeY s.defs) (q1W a.2.2)) (lkN s d.1,0,[]) ?_ ⟨Kn _,h0⟩ ?_
    ·subst hH
     rw[q0K]
     exact qb3 (idx:=[0,2,3]) hll (fun j b h=>by
      match j,h with
      | 0,h=>
       cases h
       exact .inl ⟨_,_,rfl⟩
      | 1,h=>
       cases h
       exact .inr (.inr rfl)
      | 2,h=>
       cases h
       exact .inl ⟨_,_,rfl⟩
      | 3,h=>
       cases h
       exact .inr (.inl ⟨_,rfl⟩)
      | j+4,h=>simp at h) (fun j hj=>by
      simp only[KA,Kx,Vq,or_false] at hj
      rcases hj with rfl | rfl | rfl<;>first | exact ⟨_,rfl,rfl⟩ | exact ⟨_,rfl,q3y _⟩) (by decide) (by decide) (by rfl) (fun f h0 h1=>by exact qdL f h0 (h1 0 0 rfl) (h1 1 2 rfl) (h1 2 3 rfl) _ _ _ _ _) (fun f=>by rfl)
    ·intro ⟨els,i,sn⟩ ⟨hil,hw⟩
     dsimp only at hil hw ⊢
     rw[q0K]
     by_cases hlt2:i<els.length
     ·obtain ⟨n,hn⟩:=q08 hlt2
      have hn2:=q0d (g:=AV.str) hn
      have hdrop:els.drop i=n::els.drop (i+1):=qiE hn
      rw[hdrop] at hw
      have hmu:=hw.mu
      simp only[List.length_cons,VZ] at hmu
      by_cases hq:n=d.1
      ·have hb:qeV s d=true:=hbad.2 (hw.todo d.1 (by rw[hq]; exact Ku ..))
       have hg:q3m s=(d.1,false):=by unfold q3m; rw[qcV hdk ha hb]
       rw[hg]
       (repeat' first|simp (disch:=omega) only[go_sem,hde,Ka,q2O,q1S,q53,q0S hHown.fb,hH0,Ke,Kf,Kh,Kb,List.length_cons,List.length_nil,KT,gR,sR,hn2,hq]|(apply spl<;>intro h<;>try simp (disch:=omega) only[go_sem,h]))
      ·have hqb:(n == d.1)=false:=by simpa using hq
       by_cases hk2:n∈q1W sn
       ·obtain ⟨j2,c,g0,g1,g2⟩:=(q6d n sn 0).2 hk2
        have g2:=g2 (c+1)
        rw[KS] at g1 g2
        have hc:=hw.cnt _ (Kc g0)
        simp only[List.length_cons] at hc
        (repeat' first|simp (disch:=omega) only[go_sem,hde,Ka,q2O,q1S,q53,q0S hHown.fb,hH0,Ke,Kf,Kh,Kb,List.length_cons,List.length_nil,KT,gR,sR,hn2,hq,hqb,g1,g2]|(apply spl<;>intro h<;>try simp (disch:=omega) only[go_sem,h]))
        all_goals first | omega | skip
        refine ⟨(els,i+1,sn.set j2 (n,c+1)),?_,⟨hlt2,hw.old g0⟩,?_⟩
        ·subst hH
         rw[qlo]
         exact qb3 (idx:=[0,1,2]) hll (fun j b h=>by
          match j,h with
          | 0,h=>
           cases h
           exact .inl ⟨_,_,rfl⟩
          | 1,h=>
           cases h
           exact .inl ⟨_,_,rfl⟩
          | 2,h=>
           cases h
           exact .inr (.inl ⟨_,rfl⟩)
          | j+3,h=>simp at h) (fun j hj=>by
          simp only[KA,Kx,Vq,or_false] at hj
          rcases hj with rfl | rfl | rfl<;>first | exact ⟨_,rfl,rfl⟩ | exact ⟨_,rfl,q3y _⟩) (by decide) (by decide) (by rfl) (fun f h0 h1=>by exact qdL f h0 (h1 0 0 rfl) (h1 1 1 rfl) (h1 2 2 rfl) _ _ _ _ _) (fun f=>by
          simp only[Kd,Kl,Ko,KY,KZ,K8,q4Y,qlP,q7f]<;>rfl)
        ·show (els.length-(i+1))+q1O _ (q1W (sn.set j2 (n,c+1)))<(els.length-i)+q1O _ (q1W sn)
         rw[qgy g0]
         omega
       ·obtain ⟨g1,j2,g2⟩:=qld hk2
        obtain ⟨hw2,hmu2⟩:=hw.new hk2 hq
        have hlk:=qgG l n
        have hen:qda l n=lkN s n:=by rw[←hl]; exact qg4 s n
        rw[hen,hH] at hlk
        have hln:=qlm hs n
        have hes:q3w sn++[(.str n,.int .i64 1)]=q3w (sn++[(n,1)]):=by simp [q3w]
        have hrow:List.take (els.length-i-1) (List.drop (i+1) (List.map AV.str els))=(els.drop (i+1)).map .str:=by
         rw[←List.map_drop,Kz (by simp; omega)]
        have htk:List.take (lkN s n).length (List.map AV.str (lkN s n))=(lkN s n).map .str:=Kz (by simp)
        rcases hlk with ⟨k1,k2⟩ | ⟨jj,k1,k2⟩ | ⟨jj,r2,k1,k2,k3⟩
        ·(repeat' first|simp (disch:=omega) only[go_sem,hde,Ka,q2O,q1S,q53,q0S hHown.fb,hH0,Ke,Kf,Kh,Kb,List.length_cons,List.length_nil,KT,gR,sR,hn2,hq,hqb,g1,g2,k1,q87 hHown,hrow]|(apply spl<;>intro h<;>try simp (disch:=omega) only[go_sem,h]))
         all_goals first | omega | skip
         rw[k2,Kj] at hw2 hmu2
         refine ⟨(els.drop (i+1),0,sn++[(n,1)]),?_,⟨Kn _,hw2⟩,?_⟩
         ·dsimp only
          subst hH
          rw[hes,show (els.drop (i+1)).length-0=els.length-i-1 by simp; omega]
          exact qb3 (idx:=[0,3,2]) hll (fun j b h=>by
           match j,h with
           | 0,h=>
            cases h
            exact .inl ⟨_,_,rfl⟩
           | 1,h=>
            cases h
            exact .inr (.inr rfl)
           | 2,h=>
            cases h
            exact .inr (.inl ⟨_,rfl⟩)
           | 3,h=>
            cases h
            exact .inl ⟨_,_,rfl⟩
           | j+4,h=>simp at h) (fun j hj=>by
           simp only[KA,Kx,Vq,or_false] at hj
           rcases hj with rfl | rfl | rfl<;>first | exact ⟨_,rfl,rfl⟩ | exact ⟨_,rfl,q3y _⟩) (by decide) (by decide) (by rfl) (fun f h0 h1=>by exact qdL f h0 (h1 0 0 rfl) (h1 1 3 rfl) (h1 2 2 rfl) _ _ _ _ _) (fun f=>by
           simp only[Kd,Kl,Ko,KY,KZ,K8,q4Y,qlP,q7f]<;>rfl)
         ·show (els.drop (i+1)).length-0+q1O _ (q1W (sn++[(n,1)]))<(els.length-i)+q1O _ (q1W sn)
          simp only[List.length_cons,VZ] at hmu2 ⊢
          omega
        ·(repeat' first|simp (disch:=omega) only[go_sem,hde,Ka,q2O,q1S,q53,q0S hHown.fb,hH0,Ke,Kf,Kh,Kb,List.length_cons,List.length_nil,KT,gR,sR,hn2,hq,hqb,g1,g2,k1,q87 hHown,hrow]|(apply spl<;>intro h<;>try simp (disch:=omega) only[go_sem,h]))
         all_goals first | omega | skip
         rw[k2,Kj] at hw2 hmu2
         refine ⟨(els.drop (i+1),0,sn++[(n,1)]),?_,⟨Kn _,hw2⟩,?_⟩
         ·dsimp only
          subst hH
          rw[hes,show (els.drop (i+1)).length-0=els.length-i-1 by simp; omega]
          exact qb3 (idx:=[0,3,2]) hll (fun j b h=>by
           match j,h with
           | 0,h=>
            cases h
            exact .inl ⟨_,_,rfl⟩
           | 1,h=>
            cases h
            exact .inr (.inr rfl)
           | 2,h=>
            cases h
            exact .inr (.inl ⟨_,rfl⟩)
           | 3,h=>
            cases h
            exact .inl ⟨_,_,rfl⟩
           | j+4,h=>simp at h) (fun j hj=>by
           simp only[KA,Kx,Vq,or_false] at hj
           rcases hj with rfl | rfl | rfl<;>first | exact ⟨_,rfl,rfl⟩ | exact ⟨_,rfl,q3y _⟩) (by decide) (by decide) (by rfl) (fun f h0 h1=>by exact qdL f h0 (h1 0 0 rfl) (h1 1 3 rfl) (h1 2 2 rfl) _ _ _ _ _) (fun f=>by
           simp only[Kd,Kl,Ko,KY,KZ,K8,q4Y,qlP,q7f]<;>rfl)
         ·show (els.drop (i+1)).length-0+q1O _ (q1W (sn++[(n,1)]))<(els.length-i)+q1O _ (q1W sn)
          simp only[List.length_cons,VZ] at hmu2 ⊢
          omega
        ·have hr2:=(Ks.1 k3).1
         (repeat' first|simp (disch:=omega) only[go_sem,hde,Ka,q2O,q1S,q53,q0S hHown.fb,hH0,Ke,Kf,Kh,Kb,List.length_cons,List.length_nil,KT,gR,sR,hn2,hq,hqb,g1,g2,k1,k3,q87 hHown,hrow,htk]|(apply spl<;>intro h<;>try simp (disch:=omega) only[go_sem,h]))
         all_goals first | omega | skip
         refine ⟨(els.drop (i+1)++lkN s n,0,sn++[(n,1)]),?_,⟨Kn _,hw2⟩,?_⟩
         ·dsimp only
          subst hH
          rw[hes,Va,show (els.drop (i+1)++lkN s n).length-0=els.length-i-1+(lkN s n).length by simp; omega]
          exact qb3 (idx:=[0,3,2]) hll (fun j b h=>by
           match j,h with
           | 0,h=>
            cases h
            exact .inl ⟨_,_,rfl⟩
           | 1,h=>
            cases h
            exact .inr (.inr rfl)
           | 2,h=>
            cases h
            exact .inr (.inl ⟨_,rfl⟩)
           | 3,h=>
            cases h
            exact .inl ⟨_,_,rfl⟩
           | j+4,h=>simp at h) (fun j hj=>by
           simp only[KA,Kx,Vq,or_false] at hj
           rcases hj with rfl | rfl | rfl<;>first | exact ⟨_,rfl,rfl⟩ | exact ⟨_,rfl,q3y _⟩) (by decide) (by decide) (by rfl) (fun f h0 h1=>by exact qdL f h0 (h1 0 0 rfl) (h1 1 3 rfl) (h1 2 2 rfl) _ _ _ _ _) (fun f=>by
           simp only[Kd,Kl,Ko,KY,KZ,K8,q4Y,qlP,q7f]<;>rfl)
         ·show (els.drop (i+1)++lkN s n).length-0+q1O _ (q1W (sn++[(n,1)]))<(els.length-i)+q1O _ (q1W sn)
          simp only[List.length_cons,VZ,Kb] at hmu2 ⊢
          omega
     ·have hb:qeV s d=false:=by
       rw[KX (by omega)] at hw
       have:=hw.done
       cases hq:qeV s d with
       | false=>rfl
       | true=>exact (this (hbad.1 hq)).elim
      (repeat' first|simp (disch:=omega) only[go_sem,hde,Ka,q2O,q1S,q53,q0S hHown.fb,hH0,Ke,Kf,Kh,Kb,List.length_cons,List.length_nil,KT,gR,sR]|(apply spl<;>intro h<;>try simp (disch:=omega) only[go_sem,h]))
      all_goals first | omega | skip
      refine ⟨k+1,?_,⟨hlt,q3j hdk ha hb⟩,by omega⟩
      subst hH
      refine Eq.trans (qb3 (idx:=[]) (E':=[]) hll (fun j b h=>by
       match j,h with
       | 0,h=>
        cases h
        exact .inl ⟨_,_,rfl⟩
       | 1,h=>
        cases h
        exact .inl ⟨_,_,rfl⟩
       | 2,h=>
        cases h
        exact .inr (.inl ⟨_,rfl⟩)
       | j+3,h=>simp at h) (fun j hj=>by cases hj) (by decide) (by decide) (by rfl) (fun f h0 h1=>by exact qgo f 0 h0 _ _ _) (fun f=>by rfl)) ?_
      rw[Kj]
      rfl
  ·rw[q0M hlt hk] at ha
   have hg:q3m s=([],true):=by unfold q3m; rw[q7H ha]
   rw[hg]
   (repeat' first|simp (disch:=omega) only[go_sem,Ka]|(apply spl<;>intro h<;>try simp (disch:=omega) only[go_sem,h]))
end Ago
set_option maxRecDepth 100000
set_option exponentiation.threshold 2000
set_option maxHeartbeats 16000000
namespace Ago
open Go (IntKind)
theorem qf2 (s:Schs) (hs:s.bulk≤2^24) : ∃ b,q0m CS 453 [q0y s] (.bool b)∧(b=true→s.defs.length≤70):=by
 obtain ⟨hd1,hd2⟩:=Schs.dlen hs
 have hse:=q0h s
 have hrb:s.root.bulk≤2^24:=by have:=s.bulk_eq; omega
 obtain ⟨b,hb⟩:=qgK s.root hrb
 have hz:=q4z s.root hrb
 have hzc:=q2o 48 s.root
 rw[q02] at hb hz
 have h:=q4I (C:=CS) (f:=453) (ts:=[q0y s]) (k:=fun w=>∃ b,w = .bool b∧(b=true→s.defs.length≤70)) qhQ rfl (by
  rw[q0h]
  by_cases h70:s.defs.length≤70
  ·cases b with
   | false=>
    (repeat' first|simp (disch:=omega) only[go_sem,qhQ,enter,Ka]|refine q00 _ (hb) ?_|refine q00 _ (hz) ?_|(apply spl<;>intro h<;>try simp (disch:=omega) only[go_sem,h]))
    all_goals first | exact ⟨false,rfl,fun h=>Bool.noConfusion h⟩ | omega
   | true=>
    (repeat' first|simp (disch:=omega) only[go_sem,qhQ,enter,Ka]|refine q00 _ (hb) ?_|refine q00 _ (hz) ?_|(apply spl<;>intro h<;>try simp (disch:=omega) only[go_sem,h]))
    all_goals first | exact ⟨_,rfl,fun _=>h70⟩ | omega | skip
    refine q0a (α:=Nat × Nat) (fun a=>{ tmps:=q0i 44 [(1,.ptr 16 0 0 0),(3,.int .i64 a.2),(4,.int .i64 a.1)],heap:=[.row 16 [q0y s] false true 0],base:=0 }) (fun a=>a.1≤s.defs.length∧a.2≤(a.1+1) * 2^25) (fun a=>s.defs.length-a.1) (0,q3u 48 s.root) (by rw[hse]; rfl) ⟨Kn _,by omega⟩ ?_
    intro ⟨k,n⟩ ⟨hk,hn⟩
    rw[hse]
    dsimp only at hk hn ⊢
    by_cases hlt:k<s.defs.length
    ·obtain ⟨d,hdk⟩:=q08 hlt
     have hde:=q0d (g:=q0H) hdk
     obtain ⟨hdb,hdn⟩:=hd2 d (Kc hdk)
     obtain ⟨c,hc⟩:=qgK d.2 (by omega)
     have hy:=q4z d.2 (by omega)
     have hyc:=q2o 48 d.2
     rw[q0K] at hde
     rw[q02] at hc hy
     cases c with
     | false=>
      (repeat' first|simp (disch:=omega) only[go_sem,hde,Ka]|refine q00 _ (hc) ?_|refine q00 _ (hy) ?_|(apply spl<;>intro h<;>try simp (disch:=omega) only[go_sem,h]))
      all_goals first | exact ⟨false,rfl,fun h=>Bool.noConfusion h⟩ | omega
     | true=>
      (repeat' first|simp (disch:=omega) only[go_sem,hde,Ka]|refine q00 _ (hc) ?_|refine q00 _ (hy) ?_|(apply spl<;>intro h<;>try simp (disch:=omega) only[go_sem,h]))
      all_goals first | omega | skip
      refine ⟨(k+1,n+q3u 48 d.2),?_,⟨hlt,by dsimp only; omega⟩,by dsimp only; omega⟩
      dsimp only
      rw[Int.natCast_add]
      rfl
    ·(repeat' first|simp (disch:=omega) only[go_sem,Ka]|(apply spl<;>intro h<;>try simp (disch:=omega) only[go_sem,h]))
     all_goals first | exact ⟨_,rfl,fun _=>h70⟩ | exact ⟨_,rfl,fun _=>trivial⟩
  ·(repeat' first|simp (disch:=omega) only[go_sem,qhQ,enter,Ka]|(apply spl<;>intro h<;>try simp (disch:=omega) only[go_sem,h]))
   all_goals exact ⟨false,rfl,fun h=>Bool.noConfusion h⟩)
 obtain ⟨w,h1,c,rfl,h2⟩:=h
 exact ⟨c,h1,h2⟩
end Ago
