/- The laws NumsetNots and NumsetCombines. -/
import Derived.Test.YtnifalngeimpnaaGreatDoorRunE
set_option linter.unusedSimpArgs false
set_option linter.unusedVariables false
set_option maxRecDepth 100000
set_option maxHeartbeats 4000000
namespace Ago
open Go (IntKind)
theorem awk18:PRun CKN 671 [] (.bool true):=upK (fun_run (F:=awkF) rfl rfl)
theorem bnd_slim {b:Bnd} (h:bndOk b=true):b.num.digits.length<2^31:=by
 by_cases hs:b.set=true
 ·have:=(decOk_facts (bnd_num h hs)).1
  omega
 ·rw[bnd_unset h hs]
  simp [zeroD]
theorem ok_slim {P:List Prt} (h:setOk P=true):slimP P:=by
 refine ⟨by have:=setOk_len h; omega,fun p hp=>?_⟩
 obtain ⟨h1,h2,_⟩:=prt_bnds (setOk_all h p hp)
 exact ⟨bnd_slim h1,bnd_slim h2⟩
theorem cmb_facts (F:List Bool→Bool) (sets:Sets) (hs:sets.all setOk=true) :
  (∃ P,cmbM F sets=(P,0)∧setOk P=true∧P.length≤2 * (sets.map List.length).sum+1∧∀ d,decOk d=true→anyIn P d=F (sets.map fun s=>anyIn s d))∨(cmbM F sets=([],32)∧127<(sets.map List.length).sum):=by
 obtain ⟨h1,h2⟩:=sets_ok hs
 obtain ⟨k1,k2,k3⟩:=comb_law (F:=F) (cutsM_law h1) h1
 have k4:=cuts_len (cutsM_law h1)
 unfold cmbM
 rw[if_pos hs]
 generalize partsM (regsM F sets (cutsM sets) [])=P at *
 by_cases h256:P.length≤256
 ·left
  rw[if_pos h256]
  refine ⟨P,rfl,?_,by omega,k3⟩
  unfold setOk
  rw[decide_eq_true h256,Bool.true_and]
  exact List.all_eq_true.2 k1
 ·right
  rw[if_neg h256]
  exact ⟨rfl,by omega⟩
theorem hasM_any {l:List Prt} {d:Dec} (hl:setOk l=true) (hd:decOk d=true):hasM l d=anyIn l d:=by
 unfold hasM anyIn
 rw[hl,hd]
 rfl
theorem hasM_none {l:List Prt} {d:Dec} (hd:decOk d=false):hasM l d=false:=by
 unfold hasM
 rw[hd]
 simp
end Ago
