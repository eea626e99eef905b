/- numset.Equal; the law NumsetEquals. -/
import Derived.Test.YtnifalngeimpnaaGreatDoorRunK
set_option linter.unusedSimpArgs false
set_option linter.unusedVariables false
set_option maxRecDepth 100000
set_option exponentiation.threshold 2000
set_option maxHeartbeats 4000000
namespace Ago
open Go (IntKind)
def difM (a b:List Prt):List Prt:=partsM (regsM neqF [a,b] (cutsM [a,b]) [])
def eqlM (a b:List Prt):Bool × Int:=if setOk a=true∧setOk b=true then (!(findP (difM a b)).2,0) else (false,1)
theorem pairN_ok {a b:List Prt} (ha:setOk a=true) (hb:setOk b=true) : ∀ s,s∈[a,b]→∀ p,p∈s→prtOk p=true:=pair_all (P:=fun s=>∀ p,p∈s→prtOk p=true) (setOk_all ha) (setOk_all hb)
theorem dif_facts {a b:List Prt} (ha:setOk a=true) (hb:setOk b=true):(∀ p,p∈difM a b→prtOk p=true)∧(difM a b).length≤2 * (a.length+b.length)+1∧∀ d,decOk d=true→anyIn (difM a b) d=(anyIn a d != anyIn b d):=by
 have h1:=pairN_ok ha hb
 obtain ⟨k1,k2,k3⟩:=comb_law (F:=neqF) (cutsM_law h1) h1
 have k4:=cuts_len (cutsM_law h1)
 simp only[List.map_cons,List.map_nil,List.sum_cons,List.sum_nil,Nat.add_zero] at k4
 refine ⟨k1,?_,k3⟩
 show (partsM (regsM neqF [a,b] (cutsM [a,b]) [])).length≤_
 omega
theorem eqlM_law {a b:List Prt} (ha:setOk a=true) (hb:setOk b=true):(eqlM a b).2=0∧((eqlM a b).1=true→∀ d,decOk d=true→anyIn a d=anyIn b d)∧((eqlM a b).1=false→∃ d,decOk d=true∧anyIn a d≠anyIn b d):=by
 obtain ⟨h1,_,h3⟩:=dif_facts ha hb
 obtain ⟨f1,f2⟩:=findP_law (difM a b) h1
 unfold eqlM
 rw[if_pos ⟨ha,hb⟩]
 refine ⟨rfl,fun h d hd=>?_,fun h=>?_⟩
 ·simp only[Bool.not_eq_true'] at h
  have h4:=(f2 h).2 d hd
  rw[h3 d hd] at h4
  simpa using h4
 ·simp only[Bool.not_eq_false'] at h
  obtain ⟨g1,g2⟩:=f1 h
  rw[h3 _ g1] at g2
  exact ⟨_,g1,by simpa using g2⟩
theorem Equal_run (a b:List Prt) (ha:slimP a) (hb:slimP b):PRun CKN 677 [encNS a,encNS b] (.tup [.bool (eqlM a b).1,.int .i64 (eqlM a b).2]):=by
 have va:=upK (setI_run a ha)
 have vb:=upK (setI_run b hb)
 unfold eqlM
 by_cases hok:setOk a=true∧setOk b=true
 ·rw[if_pos hok]
  obtain ⟨oa,ob⟩:=hok
  rw[oa] at va
  rw[ob] at vb
  obtain ⟨h1,h2,_⟩:=dif_facts oa ob
  have la:=setOk_len oa
  have lb:=setOk_len ob
  have hc:PRun CKN 695 [.fn 696 [],.tsl 1 ([a,b].map encNS)] (.tsl 11 ((difM a b).map encPrt)):=combine_run 696 neqF [a,b] (neq_ok a b) (pairN_ok oa ob) (by
   rw[rawC_len]
   simp only[List.map_cons,List.map_nil,List.sum_cons,List.sum_nil,Nat.add_zero]
   omega) (by simp) (by simp)
  generalize difM a b=D at *
  generalize hR:(findP D).2=R
  unfold encNS at *
  simp only[List.map_cons,List.map_nil] at hc
  refine prun_of ac677 rfl ?_
  (repeat' first|simp (disch:=omega) only[go_sem,ac677,enter,List.length_map,markFrom,Blk.mark,List.contains_cons,List.contains_nil,Bool.or_false]|refine pure_of _ (va) ?_|refine pure_of _ (vb) ?_|refine pure_of _ (hc) ?_|(apply spl<;>intro h<;>try simp (disch:=omega) only[go_sem,ac677,enter,List.length_map,markFrom,Blk.mark,List.contains_cons,List.contains_nil,Bool.or_false ,h]))
  all_goals first | omega | skip
  refine loop_of (α:=Nat) (fun k=>{ tmps:=slots 34 [(21,.tsl 11 (D.map encPrt)),(22,.int .i64 D.length),(23,.int .i64 k)],heap:=[],base:=0 }) (fun k=>k≤D.length∧R=(findP (D.drop k)).2) (fun k=>D.length-k) 0 rfl ⟨Nat.zero_le _,by rw[List.drop_zero,hR]⟩ ?_
  rintro k ⟨hk,hf⟩
  by_cases hlt:k<D.length
  ·obtain ⟨p,hpk⟩:=get_some hlt
   have hp2:=map_get (g:=encPrt) hpk
   have hr:=upK (member_run p (h1 p (List.mem_of_getElem? hpk)))
   rw[findP_drop hpk] at hf
   generalize memM p=M at *
   obtain ⟨⟨mn,md,me⟩,mb⟩:=M
   simp only[encPrt,encDec] at hp2 hr
   cases mb with
   | true=>
    rw[if_pos rfl] at hf
    rw[hf]
    (repeat' first|simp (disch:=omega) only[go_sem,hp2,List.length_map]|refine pure_of _ (hr) ?_|(apply spl<;>intro h<;>try simp (disch:=omega) only[go_sem,hp2,List.length_map ,h]))
    all_goals (first|omega|rfl)
   | false=>
    rw[if_neg (by simp)] at hf
    (repeat' first|simp (disch:=omega) only[go_sem,hp2,List.length_map]|refine pure_of _ (hr) ?_|(apply spl<;>intro h<;>try simp (disch:=omega) only[go_sem,hp2,List.length_map ,h]))
    all_goals first | omega | skip
    exact ⟨k+1,rfl,⟨hlt,hf⟩,by omega⟩
  ·rw[List.drop_of_length_le (by omega),findP] at hf
   rw[hf]
   (repeat' first|simp (disch:=omega) only[go_sem,List.length_map]|(apply spl<;>intro h<;>try simp (disch:=omega) only[go_sem,List.length_map,h]))
   all_goals (first|omega|rfl)
 ·rw[if_neg hok]
  cases oa:setOk a with
  | false=>
   rw[oa] at va
   unfold encNS at *
   refine prun_of ac677 rfl ?_
   (repeat' first|simp (disch:=omega) only[go_sem,ac677,enter]|refine pure_of _ (va) ?_|(apply spl<;>intro h<;>try simp (disch:=omega) only[go_sem,ac677,enter ,h]))
   all_goals (first|omega|rfl)
  | true=>
   have ob:setOk b=false:=by
    cases ob:setOk b with
    | false=>rfl
    | true=>exact absurd ⟨oa,ob⟩ hok
   rw[oa] at va
   rw[ob] at vb
   unfold encNS at *
   refine prun_of ac677 rfl ?_
   (repeat' first|simp (disch:=omega) only[go_sem,ac677,enter]|refine pure_of _ (va) ?_|refine pure_of _ (vb) ?_|(apply spl<;>intro h<;>try simp (disch:=omega) only[go_sem,ac677,enter ,h]))
   all_goals (first|omega|rfl)
theorem cmb_small (F:List Bool→Bool) (sets:Sets) (hs:sets.all setOk=true) (hl:(sets.map List.length).sum≤127) : ∃ P,cmbM F sets=(P,0)∧setOk P=true∧P.length≤2 * (sets.map List.length).sum+1∧∀ d,decOk d=true→anyIn P d=F (sets.map fun s=>anyIn s d):=by
 rcases cmb_facts F sets hs with h | ⟨_,h⟩
 ·exact h
 ·omega
theorem not_small {a:List Prt} (ha:setOk a=true) (hl:a.length≤127) : ∃ P,cmbM notF [a]=(P,0)∧setOk P=true∧P.length≤2 * a.length+1∧∀ d,decOk d=true→anyIn P d = !anyIn a d:=by
 obtain ⟨P,h1,h2,h3,h4⟩:=cmb_small notF [a] (by simp [ha]) (by simpa using hl)
 exact ⟨P,h1,h2,by simpa using h3,h4⟩
theorem and_small {a b:List Prt} (ha:setOk a=true) (hb:setOk b=true) (hl:a.length+b.length≤127) : ∃ P,cmbM andF [a,b]=(P,0)∧setOk P=true∧P.length≤2 * (a.length+b.length)+1∧∀ d,decOk d=true→anyIn P d=(anyIn a d && anyIn b d):=by
 obtain ⟨P,h1,h2,h3,h4⟩:=cmb_small andF [a,b] (by simp [ha,hb]) (by simpa using hl)
 exact ⟨P,h1,h2,by simpa using h3,h4⟩
theorem or_small {a b:List Prt} (ha:setOk a=true) (hb:setOk b=true) (hl:a.length+b.length≤127) : ∃ P,cmbM orrF [a,b]=(P,0)∧setOk P=true∧P.length≤2 * (a.length+b.length)+1∧∀ d,decOk d=true→anyIn P d=(anyIn a d || anyIn b d):=by
 obtain ⟨P,h1,h2,h3,h4⟩:=cmb_small orrF [a,b] (by simp [ha,hb]) (by simpa using hl)
 exact ⟨P,h1,h2,by simpa using h3,h4⟩
end Ago
