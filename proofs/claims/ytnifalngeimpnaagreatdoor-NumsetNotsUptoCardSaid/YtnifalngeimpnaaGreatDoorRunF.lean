/- The laws NumsetNots and NumsetCombines. -/
import Derived.Test.YtnifalngeimpnaaGreatDoorRunE
set_option linter.unusedSimpArgs false
set_option linter.unusedVariables false
set_option maxRecDepth 100000
set_option maxHeartbeats 4000000
namespace Ago
open Go (IntKind)
theorem awk18:PRun CKN 671 [] (.bool true):=upK (fun_run (F:=awkF) rfl rfl)
theorem bnd_slim {b:Bnd} (h:bndOk b=true):b.num.digits.length<2^31:=by
 by_cases hs:b.set=true
 ·have:=(decOk_facts (bnd_num h hs)).1
  omega
 ·rw[bnd_unset h hs]
  simp [zeroD]
theorem ok_slim {P:List Prt} (h:setOk P=true):slimP P:=by
 refine ⟨by have:=setOk_len h; omega,fun p hp=>?_⟩
 obtain ⟨h1,h2,_⟩:=prt_bnds (setOk_all h p hp)
 exact ⟨bnd_slim h1,bnd_slim h2⟩
theorem cmb_facts (F:List Bool→Bool) (sets:Sets) (hs:sets.all setOk=true) :
  (∃ P,cmbM F sets=(P,0)∧setOk P=true∧P.length≤2 * (sets.map List.length).sum+1∧∀ d,decOk d=true→anyIn P d=F (sets.map fun s=>anyIn s d))∨(cmbM F sets=([],32)∧127<(sets.map List.length).sum):=by
 obtain ⟨h1,h2⟩:=sets_ok hs
 obtain ⟨k1,k2,k3⟩:=comb_law (F:=F) (cutsM_law h1) h1
 have k4:=cuts_len (cutsM_law h1)
 unfold cmbM
 rw[if_pos hs]
 generalize partsM (regsM F sets (cutsM sets) [])=P at *
 by_cases h256:P.length≤256
 ·left
  rw[if_pos h256]
  refine ⟨P,rfl,?_,by omega,k3⟩
  unfold setOk
  rw[decide_eq_true h256,Bool.true_and]
  exact List.all_eq_true.2 k1
 ·right
  rw[if_neg h256]
  exact ⟨rfl,by omega⟩
theorem hasM_any {l:List Prt} {d:Dec} (hl:setOk l=true) (hd:decOk d=true):hasM l d=anyIn l d:=by
 unfold hasM anyIn
 rw[hl,hd]
 rfl
theorem hasM_none {l:List Prt} {d:Dec} (hd:decOk d=false):hasM l d=false:=by
 unfold hasM
 rw[hd]
 simp
theorem numsetNots_run (l:List Prt) (d:Dec) (hl:slimP l) (hs:d.digits.length<2^31):PRun CKN 665 [encNS l,encDec d] (.bool true):=by
 have haw:=awk18
 have hv:=upK (set_run l hl)
 have hn:=NotI_run l hl
 have hd:=upK (upN (decOk_run d hs))
 have hh:=upK (Has_run l d hl hs)
 have hl1:=hl.1
 by_cases h300:300<l.length
 ·refine prun_of ac665 rfl ?_
  unfold encNS encDec at *
  (repeat' first|simp (disch:=omega) only[go_sem,ac665,enter,List.length_map]|refine pure_of _ (haw) ?_|(apply spl<;>intro h<;>try simp (disch:=omega) only[go_sem,ac665,enter,List.length_map ,h]))
  all_goals first | omega | rfl
 cases hok:setOk l with
 | false=>
  rw[hok] at hv
  have e:cmbM notF [l]=([],1):=by
   unfold cmbM
   rw[if_neg (by simp [hok])]
  rw[e] at hn
  refine prun_of ac665 rfl ?_
  unfold encNR encNS encDec at *
  simp only[List.map_nil] at hn
  (repeat' first|simp (disch:=omega) only[go_sem,ac665,enter,List.length_map,List.length_nil]|refine pure_of _ (hv) ?_|refine pure_of _ (hn) ?_|refine pure_of _ (haw) ?_|(apply spl<;>intro h<;>try simp (disch:=omega) only[go_sem,ac665,enter,List.length_map,List.length_nil ,h]))
  all_goals first | omega | rfl
 | true=>
  rw[hok] at hv
  rcases cmb_facts notF [l] (by simp [hok]) with ⟨P,e,hp,hpl,hlaw⟩ | ⟨e,hlen⟩
  ·rw[e] at hn
   have hps:=ok_slim hp
   have hv2:=upK (set_run P hps)
   have hh2:=upK (Has_run P d hps hs)
   rw[hp] at hv2
   simp only[List.map_cons,List.map_nil,List.sum_cons,List.sum_nil,Nat.add_zero] at hpl
   have hp1:=hps.1
   cases hdd:decOk d with
   | false=>
    rw[hdd] at hd
    refine prun_of ac665 rfl ?_
    unfold encNR encNS encDec at *
    (repeat' first|simp (disch:=omega) only[go_sem,ac665,enter,List.length_map]|refine pure_of _ (hv) ?_|refine pure_of _ (hn) ?_|refine pure_of _ (hv2) ?_|refine pure_of _ (hd) ?_|refine pure_of _ (haw) ?_|(apply spl<;>intro h<;>try simp (disch:=omega) only[go_sem,ac665,enter,List.length_map ,h]))
    all_goals first | omega | rfl
   | true=>
    rw[hdd] at hd
    have hx:=hlaw d hdd
    rw[hasM_any hok hdd] at hh
    rw[hasM_any hp hdd,hx] at hh2
    simp only[List.map_cons,List.map_nil,notF,List.getD_cons_zero] at hh2
    generalize anyIn l d=w at *
    cases w
    all_goals
     refine prun_of ac665 rfl ?_
     unfold encNR encNS encDec at *
     simp only[Bool.not_false,Bool.not_true] at hh2
     (repeat' first|simp (disch:=omega) only[go_sem,ac665,enter,List.length_map]|refine pure_of _ (hv) ?_|refine pure_of _ (hn) ?_|refine pure_of _ (hv2) ?_|refine pure_of _ (hd) ?_|refine pure_of _ (hh) ?_|refine pure_of _ (hh2) ?_|refine pure_of _ (haw) ?_|(apply spl<;>intro h<;>try simp (disch:=omega) only[go_sem,ac665,enter,List.length_map ,h]))
     all_goals first | omega | rfl
  ·rw[e] at hn
   simp only[List.map_cons,List.map_nil,List.sum_cons,List.sum_nil,Nat.add_zero] at hlen
   refine prun_of ac665 rfl ?_
   unfold encNR encNS encDec at *
   simp only[List.map_nil] at hn
   (repeat' first|simp (disch:=omega) only[go_sem,ac665,enter,List.length_map,List.length_nil]|refine pure_of _ (hv) ?_|refine pure_of _ (hn) ?_|refine pure_of _ (haw) ?_|(apply spl<;>intro h<;>try simp (disch:=omega) only[go_sem,ac665,enter,List.length_map,List.length_nil ,h]))
   all_goals first | omega | rfl
end Ago
