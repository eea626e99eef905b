/- The law NumsetCombines. -/
import Derived.Test.YtnifalngeimpnaaGreatDoorRunF
set_option linter.unusedSimpArgs false
set_option linter.unusedVariables false
set_option maxRecDepth 100000
set_option maxHeartbeats 4000000
namespace Ago
open Go (IntKind)
theorem has_cmb {F:List Bool→Bool} {P a b:List Prt} {d:Dec} (hF:F [false,false]=false) (hp:setOk P=true) (ha:setOk a=true) (hb:setOk b=true) (h : ∀ d,decOk d=true→anyIn P d=F [anyIn a d,anyIn b d]):hasM P d=F [hasM a d,hasM b d]:=by
 cases hd:decOk d with
 | false=>rw[hasM_none hd,hasM_none hd,hasM_none hd,hF]
 | true=>rw[hasM_any hp hd,hasM_any ha hd,hasM_any hb hd,h d hd]
theorem numsetCombines_run (a b:List Prt) (d:Dec) (ha:slimP a) (hb:slimP b) (hs:d.digits.length<2^31):PRun CKN 667 [encNS a,encNS b,encDec d] (.bool true):=by
 have haw:=awk18
 have va:=upK (set_run a ha)
 have vb:=upK (set_run b hb)
 have hx:=AndI_run a b ha hb
 have hy:=OrI_run a b ha hb
 have ka:=upK (Has_run a d ha hs)
 have kb:=upK (Has_run b d hb hs)
 have la:=ha.1
 have lb:=hb.1
 by_cases h300:300<a.length∨300<b.length
 ·refine prun_of ac667 rfl ?_
  unfold encNS encDec at *
  by_cases h3:300<a.length
  ·(repeat' first|simp (disch:=omega) only[go_sem,ac667,enter,List.length_map,h3]|refine pure_of _ (haw) ?_|(apply spl<;>intro h<;>try simp (disch:=omega) only[go_sem,h]))
   all_goals first | omega | rfl
  ·have h4:300<b.length:=by omega
   (repeat' first|simp (disch:=omega) only[go_sem,ac667,enter,List.length_map,h3,h4]|refine pure_of _ (haw) ?_|(apply spl<;>intro h<;>try simp (disch:=omega) only[go_sem,h]))
   all_goals first | omega | rfl
 have n3 : ¬ 300<a.length:=fun h=>h300 (.inl h)
 have n4 : ¬ 300<b.length:=fun h=>h300 (.inr h)
 by_cases hok:setOk a=true∧setOk b=true
 ·obtain ⟨oa,ob⟩:=hok
  rw[oa] at va
  rw[ob] at vb
  have hall:[a,b].all setOk=true:=by simp [oa,ob]
  have fx:=cmb_facts andF [a,b] hall
  have fy:=cmb_facts orrF [a,b] hall
  simp only[List.map_cons,List.map_nil,List.sum_cons,List.sum_nil,Nat.add_zero] at fx fy
  have wx : ∀ P,setOk P=true→(∀ d,decOk d=true→anyIn P d=andF [anyIn a d,anyIn b d])→hasM P d=(hasM a d && hasM b d):=fun P h1 h2=>has_cmb (F:=andF) rfl h1 oa ob h2
  have wy : ∀ P,setOk P=true→(∀ d,decOk d=true→anyIn P d=orrF [anyIn a d,anyIn b d])→hasM P d=(hasM a d || hasM b d):=fun P h1 h2=>has_cmb (F:=orrF) rfl h1 oa ob h2
  generalize hasM a d=w1 at *
  generalize hasM b d=w2 at *
  rcases fx with ⟨P,e,hp,hpl,hlaw⟩ | ⟨e,hlen⟩
  ·rw[e] at hx
   have hps:=ok_slim hp
   have v2:=upK (set_run P hps)
   have k2:=upK (Has_run P d hps hs)
   rw[hp] at v2
   rw[wx P hp hlaw] at k2
   have lp:=hps.1
   rcases fy with ⟨Q,e',hq,hql,hlaw'⟩ | ⟨e',hlen⟩
   ·rw[e'] at hy
    have hqs:=ok_slim hq
    have v3:=upK (set_run Q hqs)
    have k3:=upK (Has_run Q d hqs hs)
    rw[hq] at v3
    rw[wy Q hq hlaw'] at k3
    have lq:=hqs.1
    cases w1<;>cases w2
    all_goals
     refine prun_of ac667 rfl ?_
     unfold encNR encNS encDec at *
     simp only[Bool.and_true,Bool.and_false,Bool.or_true,Bool.or_false] at k2 k3
     (repeat' first|simp (disch:=omega) only[go_sem,ac667,enter,List.length_map,n3,n4]|refine pure_of _ (va) ?_|refine pure_of _ (vb) ?_|refine pure_of _ (hx) ?_|refine pure_of _ (hy) ?_|refine pure_of _ (v2) ?_|refine pure_of _ (v3) ?_|refine pure_of _ (k2) ?_|refine pure_of _ (k3) ?_|refine pure_of _ (ka) ?_|refine pure_of _ (kb) ?_|refine pure_of _ (haw) ?_|(apply spl<;>intro h<;>try simp (disch:=omega) only[go_sem,h]))
     all_goals first | omega | rfl
   ·rw[e'] at hy
    cases w1<;>cases w2
    all_goals
     refine prun_of ac667 rfl ?_
     unfold encNR encNS encDec at *
     simp only[Bool.and_true,Bool.and_false,List.map_nil] at k2 hy
     (repeat' first|simp (disch:=omega) only[go_sem,ac667,enter,List.length_map,List.length_nil,n3,n4]|refine pure_of _ (va) ?_|refine pure_of _ (vb) ?_|refine pure_of _ (hx) ?_|refine pure_of _ (hy) ?_|refine pure_of _ (v2) ?_|refine pure_of _ (k2) ?_|refine pure_of _ (ka) ?_|refine pure_of _ (kb) ?_|refine pure_of _ (haw) ?_|(apply spl<;>intro h<;>try simp (disch:=omega) only[go_sem,h]))
     all_goals first | omega | rfl
  ·rw[e] at hx
   rcases fy with ⟨Q,e',hq,hql,hlaw'⟩ | ⟨e',hlen⟩
   ·rw[e'] at hy
    have hqs:=ok_slim hq
    have v3:=upK (set_run Q hqs)
    have k3:=upK (Has_run Q d hqs hs)
    rw[hq] at v3
    rw[wy Q hq hlaw'] at k3
    have lq:=hqs.1
    cases w1<;>cases w2
    all_goals
     refine prun_of ac667 rfl ?_
     unfold encNR encNS encDec at *
     simp only[Bool.or_true,Bool.or_false,List.map_nil] at k3 hx
     (repeat' first|simp (disch:=omega) only[go_sem,ac667,enter,List.length_map,List.length_nil,n3,n4]|refine pure_of _ (va) ?_|refine pure_of _ (vb) ?_|refine pure_of _ (hx) ?_|refine pure_of _ (hy) ?_|refine pure_of _ (v3) ?_|refine pure_of _ (k3) ?_|refine pure_of _ (ka) ?_|refine pure_of _ (kb) ?_|refine pure_of _ (haw) ?_|(apply spl<;>intro h<;>try simp (disch:=omega) only[go_sem,h]))
     all_goals first | omega | rfl
   ·rw[e'] at hy
    refine prun_of ac667 rfl ?_
    unfold encNR encNS encDec at *
    simp only[List.map_nil] at hx hy
    (repeat' first|simp (disch:=omega) only[go_sem,ac667,enter,List.length_map,List.length_nil,n3,n4]|refine pure_of _ (va) ?_|refine pure_of _ (vb) ?_|refine pure_of _ (hx) ?_|refine pure_of _ (hy) ?_|refine pure_of _ (haw) ?_|(apply spl<;>intro h<;>try simp (disch:=omega) only[go_sem,h]))
    all_goals first | omega | rfl
 ·have e : ∀ F,cmbM F [a,b]=([],1):=fun F=>by
   unfold cmbM
   rw[if_neg (by simpa using hok)]
  rw[e] at hx hy
  cases oa:setOk a with
  | false=>
   rw[oa] at va
   refine prun_of ac667 rfl ?_
   unfold encNR encNS encDec at *
   simp only[List.map_nil] at hx hy
   (repeat' first|simp (disch:=omega) only[go_sem,ac667,enter,List.length_map,List.length_nil,n3,n4]|refine pure_of _ (va) ?_|refine pure_of _ (hx) ?_|refine pure_of _ (hy) ?_|refine pure_of _ (haw) ?_|(apply spl<;>intro h<;>try simp (disch:=omega) only[go_sem,h]))
   all_goals first | omega | rfl
  | true=>
   have ob:setOk b=false:=by
    cases ob:setOk b with
    | false=>rfl
    | true=>exact absurd ⟨oa,ob⟩ hok
   rw[oa] at va
   rw[ob] at vb
   refine prun_of ac667 rfl ?_
   unfold encNR encNS encDec at *
   simp only[List.map_nil] at hx hy
   (repeat' first|simp (disch:=omega) only[go_sem,ac667,enter,List.length_map,List.length_nil,n3,n4]|refine pure_of _ (va) ?_|refine pure_of _ (vb) ?_|refine pure_of _ (hx) ?_|refine pure_of _ (hy) ?_|refine pure_of _ (haw) ?_|(apply spl<;>intro h<;>try simp (disch:=omega) only[go_sem,h]))
   all_goals first | omega | rfl
end Ago
