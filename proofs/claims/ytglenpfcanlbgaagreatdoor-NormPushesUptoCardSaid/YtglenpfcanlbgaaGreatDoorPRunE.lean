/- Heads of loops,step by step: what is reached,and its new numbers. -/
import Derived.Test.YtglenpfcanlbgaaGreatDoorPMachE
import Derived.Test.YtglenpfcanlbgaaGreatDoorPRunD
import Derived.Test.YtglenpfcanlbgaaGreatDoorPRunG
set_option linter.unusedSimpArgs false
set_option linter.unusedVariables false
namespace Ago
theorem strikeGo_same (r fam k:Nat) : ∀ (H:Heap) (i:Nat),(∀ j n els ro fl,H[j]?=some (.row n els ro fl fam)→i+j=r∨els.length<k)→strikeGo r fam k H i=some H
 | [],_,_=>rfl
 | b::H,i,h=>by
  have ih:=strikeGo_same r fam k H (i+1) fun j n els ro fl hj=>by
   have:=h (j+1) n els ro fl (by simpa using hj)
   omega
  unfold strikeGo
  rw[ih]
  cases b with
  | row n els ro fl fam'=>
   simp only
   rw[if_neg]
   rintro ⟨h1,h2,h3⟩
   subst h1
   have:=h 0 n els ro fl (by simp)
   omega
  | _=>rfl
theorem strike_same {H:Heap} {r fam k:Nat} (h : ∀ j n els ro fl,H[j]?=some (.row n els ro fl fam)→j=r∨els.length<k):H.strike r fam k=some H:=strikeGo_same r fam k H 0 fun j n els ro fl hj=>by
 have:=h j n els ro fl hj
 omega
def Own (H:Heap):Prop:=∀ (j:Nat) (b:Blk),H[j]?=some b→∃ n els fl,b=Blk.row n els false fl j
theorem Own.fresh {H:Heap} (h:Own H) {r fam k:Nat} (hf:H.length≤fam):H.strike r fam k=some H:=strike_same fun j n els ro fl hj=>by
 obtain ⟨_,_,_,e⟩:=h j _ hj
 cases e
 have:=(List.getElem?_eq_some_iff.1 hj).1
 omega
theorem Own.set {H:Heap} (h:Own H) {j n:Nat} {els:List AV} {fl:Bool}:Own (H.set j (.row n els false fl j)):=fun i b hb=>by
 rw[List.getElem?_set] at hb
 split at hb
 ·rename_i e
  subst e
  split at hb
  ·cases hb
   exact ⟨n,els,fl,rfl⟩
  ·cases hb
 ·exact h i b hb
theorem Own.add {H:Heap} (h:Own H) {n j:Nat} {els:List AV} {fl:Bool} (hj:j=H.length):Own (H++[.row n els false fl j]):=fun i b hb=>by
 by_cases hi:i<H.length
 ·rw[List.getElem?_append_left hi] at hb
  exact h i b hb
 ·rw[List.getElem?_append_right (by omega)] at hb
  have hi0:i-H.length=0:=by
   have:=(List.getElem?_eq_some_iff.1 hb).1
   simp at this
   omega
  rw[hi0] at hb
  cases hb
  exact ⟨n,els,fl,by rw[show i=j by omega]⟩
end Ago
set_option maxRecDepth 100000
set_option maxHeartbeats 4000000
namespace Ago
abbrev Ents:=List (List UInt8 × List (List UInt8))
end Ago
set_option maxRecDepth 100000
set_option maxHeartbeats 4000000
namespace Ago
def OwnH (Hp:Heap):Prop:=∀ (j:Nat) (b:Blk),Hp[j]?=some b→(∃ n els,b = .row n els false true j)∨(∃ es,b = .map es)∨b = .gone
theorem OwnH.nil:OwnH []:=fun j b h=>by simp at h
end Ago
set_option maxRecDepth 100000
set_option maxHeartbeats 8000000
namespace Ago
open Go (IntKind)
section
variable {R:Nat→List AV→Heap→AV→Heap→Prop} {PR:Nat→List AV→AV→Prop}
end
def entStep (es:Ents) (d:List UInt8 × Sch):Ents:=if (es.any fun e=>e.1 == d.1)=true then es else es++[(d.1,refsM true 48 d.2)]
def entM (l:List (List UInt8 × Sch)):Ents:=l.foldl entStep []
theorem entM_find (n:List UInt8) : ∀ (l:List (List UInt8 × Sch)) (es:Ents),(l.foldl entStep es).find? (fun e=>e.1 == n)=(es.find? fun e=>e.1 == n).or ((l.find? fun d=>d.1 == n).map fun d=>(d.1,refsM true 48 d.2))
 | [],es=>by simp
 | d::l,es=>by
  rw[List.foldl_cons,entM_find n l]
  unfold entStep
  by_cases hd:(es.any fun e=>e.1 == d.1)=true
  ·rw[if_pos hd]
   by_cases hn:d.1=n
   ·subst hn
    obtain ⟨e,h1,h2⟩:=List.any_eq_true.1 hd
    have:(es.find? fun e=>e.1 == d.1).isSome=true:=by
     rw[List.find?_isSome]
     exact ⟨e,h1,h2⟩
    cases hq:es.find? (fun e=>e.1 == d.1) with
    | none=>rw[hq] at this; cases this
    | some q=>simp
   ·have e1:(d.1 == n)=false:=by simpa using hn
    rw[List.find?_cons,e1]
  ·rw[if_neg hd,List.find?_append]
   by_cases hn:d.1=n
   ·subst hn
    simp
   ·have e1:(d.1 == n)=false:=by simpa using hn
    rw[List.find?_cons,e1]
    simp [e1]
end Ago
set_option maxRecDepth 100000
set_option maxHeartbeats 8000000
namespace Ago
open Go (IntKind)
end Ago
set_option maxRecDepth 100000
set_option maxHeartbeats 8000000
namespace Ago
open Go (IntKind)
abbrev SnL:=List (List UInt8 × Int)
def keysN (sn:SnL):List (List UInt8):=sn.map (·.1)
theorem keys_set {sn:SnL} {j:Nat} {n:List UInt8} {c c2:Int} (h:sn[j]?=some (n,c)):keysN (sn.set j (n,c2))=keysN sn:=by
 unfold keysN
 rw[List.map_set]
 obtain ⟨h1,h2⟩:=List.getElem?_eq_some_iff.1 h
 have:(sn.map (·.1))[j]'(by simpa using h1)=n:=by rw[List.getElem_map,h2]
 conv=>lhs; rw[←this]
 exact List.set_getElem_self _
def unseenW (l:Ents) (ks:List (List UInt8)):Nat:=((l.filter fun e=>!(ks.contains e.1)).map fun e=>e.2.length).sum
def entN (l:Ents) (n:List UInt8):List (List UInt8):=match l.find? fun e=>e.1 == n with
 | some e=>e.2
 | none=>[]
theorem unseen_add {n:List UInt8} {ks:List (List UInt8)} (hn:n∉ks) : ∀ l:Ents,unseenW l (ks++[n])+(entN l n).length≤unseenW l ks
 | []=>by simp [unseenW,entN]
 | x::l=>by
  have ih:=unseen_add hn l
  by_cases he:x.1=n
  ·subst he
   have e1:(ks++[x.1]).contains x.1=true:=by simp
   have e2:ks.contains x.1=false:=by simpa using hn
   have e3:entN (x::l) x.1=x.2:=by simp [entN]
   unfold unseenW at ih ⊢
   rw[List.filter_cons,List.filter_cons,e1,e2,e3]
   simp only[Bool.not_true,Bool.false_eq_true,if_false,Bool.not_false,if_true,List.map_cons,List.sum_cons]
   omega
  ·have e1:(x.1 == n)=false:=by simpa using he
   have e2:(ks++[n]).contains x.1=ks.contains x.1:=by simp [he]
   have e3:entN (x::l) n=entN l n:=by simp [entN,e1]
   unfold unseenW at ih ⊢
   rw[List.filter_cons,List.filter_cons,e2,e3]
   cases ks.contains x.1
   ·simp only[Bool.not_false,if_true,List.map_cons,List.sum_cons]
    omega
   ·simp only[Bool.not_true,Bool.false_eq_true,if_false]
    exact ih
theorem entN_eq (s:Schs) (n:List UInt8):entN (entM s.defs) n=lkN s n:=by
 have h:=entM_find n s.defs []
 unfold entN
 rw[show entM s.defs=s.defs.foldl entStep [] from rfl,h]
 unfold lkN lkM
 cases s.defs.find? (fun d=>d.1 == n)<;>simp
end Ago
set_option maxRecDepth 100000
set_option maxHeartbeats 8000000
namespace Ago
open Go (IntKind)
structure WalkP (s:Schs) (n0:List UInt8) (td:List (List UInt8)) (sn:SnL):Prop where
 todo : ∀ x,x∈td→Rc s (lkN s n0) x
 base : ∀ x,x∈lkN s n0→x∈td∨x∈keysN sn
 succ : ∀ x,x∈keysN sn→∀ y,y∈lkN s x→y∈td∨y∈keysN sn
 rc : ∀ x,x∈keysN sn→Rc s (lkN s n0) x
 ne:n0∉keysN sn
 cnt : ∀ x,x∈sn→1≤x.2∧x.2+((td.length+unseenW (entM s.defs) (keysN sn):Nat):Int)≤2^28
 mu:td.length+unseenW (entM s.defs) (keysN sn)≤2^27
theorem WalkP.old {s:Schs} {n0 n:List UInt8} {td:List (List UInt8)} {sn:SnL} {j:Nat} {c:Int} (h:WalkP s n0 (n::td) sn) (hj:sn[j]?=some (n,c)):WalkP s n0 td (sn.set j (n,c+1)):=by
 have hk:keysN (sn.set j (n,c+1))=keysN sn:=keys_set hj
 have hnk:n∈keysN sn:=List.mem_map.2 ⟨_,List.mem_of_getElem? hj,rfl⟩
 have hc:=h.cnt _ (List.mem_of_getElem? hj)
 refine ⟨fun x hx=>h.todo x (List.mem_cons_of_mem _ hx),fun x hx=>?_,fun x hx y hy=>?_,fun x hx=>?_,?_,fun x hx=>?_,?_⟩
 ·rw[hk]
  rcases h.base x hx with h1 | h1
  ·rcases List.mem_cons.1 h1 with rfl | h1
   ·exact .inr hnk
   ·exact .inl h1
  ·exact .inr h1
 ·rw[hk] at hx ⊢
  rcases h.succ x hx y hy with h1 | h1
  ·rcases List.mem_cons.1 h1 with rfl | h1
   ·exact .inr hnk
   ·exact .inl h1
  ·exact .inr h1
 ·rw[hk] at hx
  exact h.rc x hx
 ·rw[hk]
  exact h.ne
 ·rw[hk]
  have hl:(n::td).length=td.length+1:=rfl
  rcases List.mem_or_eq_of_mem_set hx with h1 | rfl
  ·have:=h.cnt x h1
   rw[hl] at this
   omega
  ·rw[hl] at hc
   simp only at hc ⊢
   omega
 ·rw[hk]
  have:=h.mu
  simp only[List.length_cons] at this
  omega
theorem WalkP.new {s:Schs} {n0 n:List UInt8} {td:List (List UInt8)} {sn:SnL} (h:WalkP s n0 (n::td) sn) (hn:n∉keysN sn) (he:n≠n0):WalkP s n0 (td++lkN s n) (sn++[(n,1)])∧(td++lkN s n).length+unseenW (entM s.defs) (keysN (sn++[(n,1)]))<(n::td).length+unseenW (entM s.defs) (keysN sn):=by
 have hk:keysN (sn++[(n,1)])=keysN sn++[n]:=by simp [keysN]
 have hu:=unseen_add hn (entM s.defs)
 rw[entN_eq] at hu
 have hmu:=h.mu
 simp only[List.length_cons] at hmu
 refine ⟨⟨fun x hx=>?_,fun x hx=>?_,fun x hx y hy=>?_,fun x hx=>?_,?_,fun x hx=>?_,?_⟩,?_⟩
 ·rcases List.mem_append.1 hx with h1 | h1
  ·exact h.todo x (List.mem_cons_of_mem _ h1)
  ·exact .step (h.todo n (List.mem_cons_self ..)) h1
 ·rw[hk,List.mem_append,List.mem_append,List.mem_singleton]
  rcases h.base x hx with h1 | h1
  ·rcases List.mem_cons.1 h1 with rfl | h1
   ·exact .inr (.inr rfl)
   ·exact .inl (.inl h1)
  ·exact .inr (.inl h1)
 ·rw[hk,List.mem_append,List.mem_singleton] at hx
  rw[hk,List.mem_append,List.mem_append,List.mem_singleton]
  rcases hx with hx | rfl
  ·rcases h.succ x hx y hy with h1 | h1
   ·rcases List.mem_cons.1 h1 with rfl | h1
    ·exact .inr (.inr rfl)
    ·exact .inl (.inl h1)
   ·exact .inr (.inl h1)
  ·exact .inl (.inr hy)
 ·rw[hk,List.mem_append,List.mem_singleton] at hx
  rcases hx with hx | rfl
  ·exact h.rc x hx
  ·exact h.todo x (List.mem_cons_self ..)
 ·rw[hk,List.mem_append,List.mem_singleton]
  rintro (h1 | h1)
  ·exact h.ne h1
  ·exact he h1.symm
 ·rw[hk,List.length_append]
  rcases List.mem_append.1 hx with h1 | h1
  ·have:=h.cnt x h1
   simp only[List.length_cons] at this
   omega
  ·rw[List.mem_singleton.1 h1]
   simp only
   omega
 ·rw[hk,List.length_append]
  omega
 ·rw[hk,List.length_append,List.length_cons]
  omega
theorem WalkP.done {s:Schs} {n0:List UInt8} {sn:SnL} (h:WalkP s n0 [] sn) : ¬ Rc s (lkN s n0) n0:=by
 have key : ∀ x,Rc s (lkN s n0) x→x∈keysN sn:=by
  intro x hx
  induction hx with
  | base h1=>exact (h.base _ h1).elim (fun h=>by cases h) id
  | step _ h2 ih=>exact (h.succ _ ih _ h2).elim (fun h=>by cases h) id
 exact fun hx=>h.ne (key _ hx)
end Ago
set_option maxRecDepth 100000
set_option maxHeartbeats 16000000
namespace Ago
open Go (IntKind)
end Ago
set_option maxRecDepth 100000
set_option maxHeartbeats 16000000
namespace Ago
open Go (IntKind)
theorem SmallAll_ex (s:Schs) (hs:s.bulk≤2^24) : ∃ b,PRun CS 453 [encSchs s] (.bool b)∧(b=true→s.defs.length≤70):=by
 obtain ⟨hd1,hd2⟩:=Schs.dlen hs
 have hse:=encSchs_eq s
 have hrb:s.root.bulk≤2^24:=by have:=s.bulk_eq; omega
 obtain ⟨b,hb⟩:=Small_ex s.root hrb
 have hz:=refSize_run s.root hrb
 have hzc:=cnt_le 48 s.root
 rw[encSch_eq] at hb hz
 have h:=prunE_of (C:=CS) (f:=453) (ts:=[encSchs s]) (k:=fun w=>∃ b,w = .bool b∧(b=true→s.defs.length≤70)) ac453 rfl (by
  rw[encSchs_eq]
  by_cases h70:s.defs.length≤70
  ·cases b with
   | false=>
    (repeat' first|simp (disch:=omega) only[go_sem,ac453,enter,List.length_map]|refine pure_of _ (hb) ?_|refine pure_of _ (hz) ?_|(apply spl<;>intro h<;>try simp (disch:=omega) only[go_sem,h]))
    all_goals first | exact ⟨false,rfl,fun h=>Bool.noConfusion h⟩ | omega
   | true=>
    (repeat' first|simp (disch:=omega) only[go_sem,ac453,enter,List.length_map]|refine pure_of _ (hb) ?_|refine pure_of _ (hz) ?_|(apply spl<;>intro h<;>try simp (disch:=omega) only[go_sem,h]))
    all_goals first | exact ⟨_,rfl,fun _=>h70⟩ | omega | skip
    refine loop_of (α:=Nat × Nat) (fun a=>{ tmps:=slots 44 [(1,.ptr 16 0 0 0),(3,.int .i64 a.2),(4,.int .i64 a.1)],heap:=[.row 16 [encSchs s] false true 0],base:=0 }) (fun a=>a.1≤s.defs.length∧a.2≤(a.1+1) * 2^25) (fun a=>s.defs.length-a.1) (0,cntM 48 s.root) (by rw[hse]; rfl) ⟨Nat.zero_le _,by omega⟩ ?_
    intro ⟨k,n⟩ ⟨hk,hn⟩
    rw[hse]
    dsimp only at hk hn ⊢
    by_cases hlt:k<s.defs.length
    ·obtain ⟨d,hdk⟩:=get_some hlt
     have hde:=map_get (g:=encDef) hdk
     obtain ⟨hdb,hdn⟩:=hd2 d (List.mem_of_getElem? hdk)
     obtain ⟨c,hc⟩:=Small_ex d.2 (by omega)
     have hy:=refSize_run d.2 (by omega)
     have hyc:=cnt_le 48 d.2
     rw[encDef_eq] at hde
     rw[encSch_eq] at hc hy
     cases c with
     | false=>
      (repeat' first|simp (disch:=omega) only[go_sem,hde,List.length_map]|refine pure_of _ (hc) ?_|refine pure_of _ (hy) ?_|(apply spl<;>intro h<;>try simp (disch:=omega) only[go_sem,h]))
      all_goals first | exact ⟨false,rfl,fun h=>Bool.noConfusion h⟩ | omega
     | true=>
      (repeat' first|simp (disch:=omega) only[go_sem,hde,List.length_map]|refine pure_of _ (hc) ?_|refine pure_of _ (hy) ?_|(apply spl<;>intro h<;>try simp (disch:=omega) only[go_sem,h]))
      all_goals first | omega | skip
      refine ⟨(k+1,n+cntM 48 d.2),?_,⟨hlt,by dsimp only; omega⟩,by dsimp only; omega⟩
      dsimp only
      rw[Int.natCast_add]
      rfl
    ·(repeat' first|simp (disch:=omega) only[go_sem,List.length_map]|(apply spl<;>intro h<;>try simp (disch:=omega) only[go_sem,h]))
     all_goals first | exact ⟨_,rfl,fun _=>h70⟩ | exact ⟨_,rfl,fun _=>trivial⟩
  ·(repeat' first|simp (disch:=omega) only[go_sem,ac453,enter,List.length_map]|(apply spl<;>intro h<;>try simp (disch:=omega) only[go_sem,h]))
   all_goals exact ⟨false,rfl,fun h=>Bool.noConfusion h⟩)
 obtain ⟨w,h1,c,rfl,h2⟩:=h
 exact ⟨c,h1,h2⟩
end Ago
