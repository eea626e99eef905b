/- nextFract: the least number that is not whole. -/
import Derived.Test.YtnifalngeimpnaaGreatDoorRunI
import Derived.Test.YtnifalngeimpnaaGreatDoorRunB
set_option linter.unusedSimpArgs false
set_option linter.unusedVariables false
set_option maxRecDepth 100000
set_option exponentiation.threshold 2000
set_option maxHeartbeats 4000000
set_option exponentiation.threshold 2000
namespace Ago
open Go (IntKind)
open Go.Lib (repeatL)
theorem rep57 : ∀ n,repeatL [57] n=List.replicate n 57
 | 0=>rfl
 | n+1=>by simp [repeatL,rep57 n,List.replicate_succ]
theorem nines_run:PRun CN 291 [.str [57],.int .i64 120] (.str (List.replicate 120 57)):=by
 have h1:=repF_eq [57] 120 (by simp) (by omega)
 rw[rep57] at h1
 exact fun_run (F:=repF) rfl h1
def ninesD:Dec:=⟨true,List.replicate 120 57,-1⟩
theorem nines_norm:normG true (lstrip (List.replicate 120 57)) (-1)=(ninesD,0):=by
 have e1:lstrip (List.replicate 120 57)=List.replicate 120 57:=by decide +kernel
 have e2:zeros (List.replicate 120 57)=0:=by decide +kernel
 rw[e1]
 unfold normG ninesD
 rw[if_neg (by simp),e2,if_neg (by simp)]
 simp
theorem nines_dig:digits (List.replicate 120 57)=true:=by decide +kernel
theorem nines_ok:decOk ninesD=true:=by decide +kernel
theorem nines_val:valD ninesD = -((T 120-1) * T 399):=by
 unfold valD magD ninesD
 simp only[if_true]
 have e1:fold10 (List.replicate 120 57)=T 120-1:=by decide +kernel
 have e2:((-1:Int)+400).toNat=399:=rfl
 rw[e1,e2]
def fracGo:Nat→Dec→Dec × Bool
 | 0,_=>(⟨false,[],0⟩,false)
 | k+1,x=>if (nextM x).2=false then (⟨false,[],0⟩,false) else if (nextM x).1.exp<0 then ((nextM x).1,true) else fracGo k (nextM x).1
def nextFM (d:Dec) (opn:Bool):Dec × Bool:=
 if d.exp<0∧opn=false then (d,true)
 else if d.digits≠[]∧120≤(d.digits.length:Int)+d.exp then (ninesD,d.neg)
 else fracGo 3 d
theorem next_ok {d:Dec} (hd:decOk d=true):decOk (nextM d).1=true:=by
 obtain ⟨h1,h2⟩:=nextM_law d hd
 cases hb:(nextM d).2 with
 | true=>exact (h1 hb).1
 | false=>rw[(h2 hb).1]; decide
theorem nextF_run (d:Dec) (opn:Bool) (hd:decOk d=true):PRun CN 708 [encDec d,.bool opn] (.tup [encDec (nextFM d opn).1,.bool (nextFM d opn).2]):=by
 have hw:=wholeI_run d
 have hp:=places_run d hd
 have h9:=nines_run
 have hmk:=make_run true (List.replicate 120 57) (-1) (by simp) nines_dig (by omega)
 rw[nines_norm] at hmk
 have hnx:=fun x (h:decOk x=true)=>next_run x h
 have hwx:=fun x=>wholeI_run x
 unfold nextFM
 by_cases hfo:d.exp<0∧opn=false
 ·rw[if_pos hfo]
  obtain ⟨he,rfl⟩:=hfo
  rw[decide_eq_false (show ¬ 0≤d.exp by omega)] at hw
  obtain ⟨nn,ds,ex⟩:=d
  simp only[encDec] at *
  refine prun_of ac708 rfl ?_
  (repeat' first|simp (disch:=omega) only[go_sem,ac708,enter]|refine pure_of _ (hw) ?_|(apply spl<;>intro h<;>try simp (disch:=omega) only[go_sem,ac708,enter ,h]))
  all_goals (first|omega|rfl)
 rw[if_neg hfo]
 by_cases hs:d.digits≠[]∧120≤(d.digits.length:Int)+d.exp
 ·rw[if_pos hs]
  obtain ⟨hn,hs⟩:=hs
  have hnb:(d.digits == ([]:List UInt8))=false:=by simp [hn]
  obtain ⟨nn,ds,ex⟩:=d
  simp only[encDec,ninesD] at *
  generalize List.replicate 120 (57:UInt8)=w9 at *
  by_cases he:ex<0
  ·have ho:opn=true:=by
    cases opn with
    | true=>rfl
    | false=>exact absurd ⟨he,rfl⟩ hfo
   subst ho
   rw[decide_eq_false (show ¬ 0≤ex by omega)] at hw
   cases nn
   all_goals
    refine prun_of ac708 rfl ?_
    (repeat' first|simp (disch:=omega) only[go_sem,ac708,enter,hnb,hs]|refine pure_of _ (hw) ?_|refine pure_of _ (hp) ?_|refine pure_of _ (h9) ?_|refine pure_of _ (hmk) ?_|(apply spl<;>intro h<;>try simp (disch:=omega) only[go_sem,ac708,enter,hnb,hs ,h]))
    all_goals (first|omega|rfl)
  ·rw[decide_eq_true (show 0≤ex by omega)] at hw
   cases nn
   all_goals
    refine prun_of ac708 rfl ?_
    (repeat' first|simp (disch:=omega) only[go_sem,ac708,enter,hnb,hs]|refine pure_of _ (hw) ?_|refine pure_of _ (hp) ?_|refine pure_of _ (h9) ?_|refine pure_of _ (hmk) ?_|(apply spl<;>intro h<;>try simp (disch:=omega) only[go_sem,ac708,enter,hnb,hs ,h]))
    all_goals (first|omega|rfl)
 ·rw[if_neg hs]
  have hL : ∀ D:Dec,D=d→PRun CN 708 [encDec d,.bool opn] (.tup [encDec (fracGo 3 D).1,.bool (fracGo 3 D).2]):=by
   intro D hD
   refine prun_of ac708 rfl ?_
   have hd2:decOk D=true:=by rw[hD]; exact hd
   have hpre:d.digits=[]∨¬ 120≤(d.digits.length:Int)+d.exp:=by
    by_cases h:d.digits=[]
    ·exact .inl h
    ·exact .inr fun h2=>hs ⟨h,h2⟩
   generalize hR:fracGo 3 D=R
   obtain ⟨nn,ds,ex⟩:=d
   simp only[encDec] at hw hp ⊢
   simp only at hpre
   by_cases he:ex<0
   ·have ho:opn=true:=by
     cases opn with
     | true=>rfl
     | false=>exact absurd ⟨he,rfl⟩ hfo
    subst ho
    rw[decide_eq_false (show ¬ 0≤ex by omega)] at hw
    by_cases hn:ds=[]
    ·subst hn
     (repeat' first|simp (disch:=omega) only[go_sem,ac708,enter]|refine pure_of _ (hw) ?_|refine pure_of _ (hp) ?_|(apply spl<;>intro h<;>try simp (disch:=omega) only[go_sem,ac708,enter ,h]))
     all_goals first | omega | skip
     have hD0:decOk ⟨nn,[],ex⟩=true:=hd
     have hR0:R=fracGo 3 ⟨nn,[],ex⟩:=by rw[←hR,hD]
     clear hR hD hd2 hs hfo hw hp h9 hmk hd
     refine loop_of (α:=Nat × Dec × Bool) (fun a=>{ tmps:=slots 58 [(2,.ptr 3 0 0 0),(4,.ptr 3 1 0 0),(8,.bool a.2.2),(9,.int .i64 a.1)],heap:=[.row 3 [encDec a.2.1] false true 0,.row 3 [.agg [.bool false,.str [],.int .i64 0]] false true 1],base:=0 }) (fun a=>a.1≤3∧decOk a.2.1=true∧(a.2.2=true→R=fracGo (3-a.1) a.2.1)∧(a.2.2=false→R=(⟨false,[],0⟩,false))) (fun a=>3-a.1) (0,⟨nn,[],ex⟩,true) rfl ⟨by simp,hD0,fun _=>hR0,fun h=>(nomatch h)⟩ ?_
     clear hD0 hR0
     rintro ⟨i,x,b⟩ ⟨hi,hx,h1,h2⟩
     simp only at hi hx h1 h2
     by_cases hc:i<3∧b=true
     ·obtain ⟨hlt,rfl⟩:=hc
      have h1:=h1 rfl
      have hn:=hnx x hx
      have hwn:=hwx (nextM x).1
      have hok:=next_ok hx
      rw[show 3-i=(2-i)+1 by omega,fracGo] at h1
      generalize nextM x=N at *
      obtain ⟨⟨nn',ds',ex'⟩,b'⟩:=N
      obtain ⟨xn,xd,xe⟩:=x
      simp only[encDec] at *
      cases b' with
      | false=>
       rw[if_pos rfl] at h1
       by_cases he':0≤ex'
       ·rw[decide_eq_true he'] at hwn
        (repeat' first|simp (disch:=omega) only[go_sem]|refine pure_of _ (hn) ?_|refine pure_of _ (hwn) ?_|(apply spl<;>intro h<;>try simp (disch:=omega) only[go_sem,h]))
        all_goals first | omega | skip
        exact ⟨(i+1,⟨nn',ds',ex'⟩,false),rfl,⟨hlt,hok,fun h=>(nomatch h),fun _=>h1⟩,by simp only; omega⟩
       ·rw[decide_eq_false he'] at hwn
        (repeat' first|simp (disch:=omega) only[go_sem]|refine pure_of _ (hn) ?_|refine pure_of _ (hwn) ?_|(apply spl<;>intro h<;>try simp (disch:=omega) only[go_sem,h]))
        all_goals first | omega | skip
        exact ⟨(i+1,⟨nn',ds',ex'⟩,false),rfl,⟨hlt,hok,fun h=>(nomatch h),fun _=>h1⟩,by simp only; omega⟩
      | true=>
       rw[if_neg (by simp)] at h1
       by_cases he':0≤ex'
       ·rw[if_neg (by omega)] at h1
        rw[decide_eq_true he'] at hwn
        (repeat' first|simp (disch:=omega) only[go_sem]|refine pure_of _ (hn) ?_|refine pure_of _ (hwn) ?_|(apply spl<;>intro h<;>try simp (disch:=omega) only[go_sem,h]))
        all_goals first | omega | skip
        exact ⟨(i+1,⟨nn',ds',ex'⟩,true),rfl,⟨hlt,hok,fun _=>by rw[h1]; congr 1; omega,fun h=>(nomatch h)⟩,by simp only; omega⟩
       ·rw[if_pos (by omega)] at h1
        rw[decide_eq_false he'] at hwn
        rw[h1]
        (repeat' first|simp (disch:=omega) only[go_sem]|refine pure_of _ (hn) ?_|refine pure_of _ (hwn) ?_|(apply spl<;>intro h<;>try simp (disch:=omega) only[go_sem,h]))
        all_goals (first|omega|rfl)
     ·have hz:R=(⟨false,[],0⟩,false):=by
       cases b with
       | false=>exact h2 rfl
       | true=>
        have:i=3:=by
         rcases Nat.lt_or_ge i 3 with h | h
         ·exact absurd ⟨h,rfl⟩ hc
         ·omega
        rw[h1 rfl,this,Nat.sub_self,fracGo]
      rw[hz]
      clear h1 h2 hz
      obtain ⟨xn,xd,xe⟩:=x
      simp only[encDec]
      by_cases hlt:i<3
      ·have hbf:b=false:=by
        cases b with
        | false=>rfl
        | true=>exact absurd ⟨hlt,rfl⟩ hc
       subst hbf
       (repeat' first|simp (disch:=omega) only[go_sem,hlt]|(apply spl<;>intro h<;>try simp (disch:=omega) only[go_sem,hlt,h]))
       all_goals (first|omega|rfl)
      ·cases b
       all_goals
        (repeat' first|simp (disch:=omega) only[go_sem,hlt]|(apply spl<;>intro h<;>try simp (disch:=omega) only[go_sem,hlt,h]))
        all_goals (first|omega|rfl)
    ·have hnb:(ds == ([]:List UInt8))=false:=by simp [hn]
     have h0 : ¬ 120≤(ds.length:Int)+ex:=by
      rcases hpre with h | h
      ·exact absurd h hn
      ·exact h
     (repeat' first|simp (disch:=omega) only[go_sem,ac708,enter,hnb,h0]|refine pure_of _ (hw) ?_|refine pure_of _ (hp) ?_|(apply spl<;>intro h<;>try simp (disch:=omega) only[go_sem,ac708,enter,hnb,h0 ,h]))
     all_goals first | omega | skip
     have hD0:decOk ⟨nn,ds,ex⟩=true:=hd
     have hR0:R=fracGo 3 ⟨nn,ds,ex⟩:=by rw[←hR,hD]
     clear hR hD hd2 hs hfo hw hp h9 hmk hd
     refine loop_of (α:=Nat × Dec × Bool) (fun a=>{ tmps:=slots 58 [(2,.ptr 3 0 0 0),(4,.ptr 3 1 0 0),(8,.bool a.2.2),(9,.int .i64 a.1)],heap:=[.row 3 [encDec a.2.1] false true 0,.row 3 [.agg [.bool false,.str [],.int .i64 0]] false true 1],base:=0 }) (fun a=>a.1≤3∧decOk a.2.1=true∧(a.2.2=true→R=fracGo (3-a.1) a.2.1)∧(a.2.2=false→R=(⟨false,[],0⟩,false))) (fun a=>3-a.1) (0,⟨nn,ds,ex⟩,true) rfl ⟨by simp,hD0,fun _=>hR0,fun h=>(nomatch h)⟩ ?_
     clear hD0 hR0
     rintro ⟨i,x,b⟩ ⟨hi,hx,h1,h2⟩
     simp only at hi hx h1 h2
     by_cases hc:i<3∧b=true
     ·obtain ⟨hlt,rfl⟩:=hc
      have h1:=h1 rfl
      have hn:=hnx x hx
      have hwn:=hwx (nextM x).1
      have hok:=next_ok hx
      rw[show 3-i=(2-i)+1 by omega,fracGo] at h1
      generalize nextM x=N at *
      obtain ⟨⟨nn',ds',ex'⟩,b'⟩:=N
      obtain ⟨xn,xd,xe⟩:=x
      simp only[encDec] at *
      cases b' with
      | false=>
       rw[if_pos rfl] at h1
       by_cases he':0≤ex'
       ·rw[decide_eq_true he'] at hwn
        (repeat' first|simp (disch:=omega) only[go_sem]|refine pure_of _ (hn) ?_|refine pure_of _ (hwn) ?_|(apply spl<;>intro h<;>try simp (disch:=omega) only[go_sem,h]))
        all_goals first | omega | skip
        exact ⟨(i+1,⟨nn',ds',ex'⟩,false),rfl,⟨hlt,hok,fun h=>(nomatch h),fun _=>h1⟩,by simp only; omega⟩
       ·rw[decide_eq_false he'] at hwn
        (repeat' first|simp (disch:=omega) only[go_sem]|refine pure_of _ (hn) ?_|refine pure_of _ (hwn) ?_|(apply spl<;>intro h<;>try simp (disch:=omega) only[go_sem,h]))
        all_goals first | omega | skip
        exact ⟨(i+1,⟨nn',ds',ex'⟩,false),rfl,⟨hlt,hok,fun h=>(nomatch h),fun _=>h1⟩,by simp only; omega⟩
      | true=>
       rw[if_neg (by simp)] at h1
       by_cases he':0≤ex'
       ·rw[if_neg (by omega)] at h1
        rw[decide_eq_true he'] at hwn
        (repeat' first|simp (disch:=omega) only[go_sem]|refine pure_of _ (hn) ?_|refine pure_of _ (hwn) ?_|(apply spl<;>intro h<;>try simp (disch:=omega) only[go_sem,h]))
        all_goals first | omega | skip
        exact ⟨(i+1,⟨nn',ds',ex'⟩,true),rfl,⟨hlt,hok,fun _=>by rw[h1]; congr 1; omega,fun h=>(nomatch h)⟩,by simp only; omega⟩
       ·rw[if_pos (by omega)] at h1
        rw[decide_eq_false he'] at hwn
        rw[h1]
        (repeat' first|simp (disch:=omega) only[go_sem]|refine pure_of _ (hn) ?_|refine pure_of _ (hwn) ?_|(apply spl<;>intro h<;>try simp (disch:=omega) only[go_sem,h]))
        all_goals (first|omega|rfl)
     ·have hz:R=(⟨false,[],0⟩,false):=by
       cases b with
       | false=>exact h2 rfl
       | true=>
        have:i=3:=by
         rcases Nat.lt_or_ge i 3 with h | h
         ·exact absurd ⟨h,rfl⟩ hc
         ·omega
        rw[h1 rfl,this,Nat.sub_self,fracGo]
      rw[hz]
      clear h1 h2 hz
      obtain ⟨xn,xd,xe⟩:=x
      simp only[encDec]
      by_cases hlt:i<3
      ·have hbf:b=false:=by
        cases b with
        | false=>rfl
        | true=>exact absurd ⟨hlt,rfl⟩ hc
       subst hbf
       (repeat' first|simp (disch:=omega) only[go_sem,hlt]|(apply spl<;>intro h<;>try simp (disch:=omega) only[go_sem,hlt,h]))
       all_goals (first|omega|rfl)
      ·cases b
       all_goals
        (repeat' first|simp (disch:=omega) only[go_sem,hlt]|(apply spl<;>intro h<;>try simp (disch:=omega) only[go_sem,hlt,h]))
        all_goals (first|omega|rfl)
   ·rw[decide_eq_true (show 0≤ex by omega)] at hw
    by_cases hn:ds=[]
    ·subst hn
     (repeat' first|simp (disch:=omega) only[go_sem,ac708,enter]|refine pure_of _ (hw) ?_|refine pure_of _ (hp) ?_|(apply spl<;>intro h<;>try simp (disch:=omega) only[go_sem,ac708,enter ,h]))
     all_goals first | omega | skip
     have hD0:decOk ⟨nn,[],ex⟩=true:=hd
     have hR0:R=fracGo 3 ⟨nn,[],ex⟩:=by rw[←hR,hD]
     clear hR hD hd2 hs hfo hw hp h9 hmk hd
     refine loop_of (α:=Nat × Dec × Bool) (fun a=>{ tmps:=slots 58 [(2,.ptr 3 0 0 0),(4,.ptr 3 1 0 0),(8,.bool a.2.2),(9,.int .i64 a.1)],heap:=[.row 3 [encDec a.2.1] false true 0,.row 3 [.agg [.bool false,.str [],.int .i64 0]] false true 1],base:=0 }) (fun a=>a.1≤3∧decOk a.2.1=true∧(a.2.2=true→R=fracGo (3-a.1) a.2.1)∧(a.2.2=false→R=(⟨false,[],0⟩,false))) (fun a=>3-a.1) (0,⟨nn,[],ex⟩,true) rfl ⟨by simp,hD0,fun _=>hR0,fun h=>(nomatch h)⟩ ?_
     clear hD0 hR0
     rintro ⟨i,x,b⟩ ⟨hi,hx,h1,h2⟩
     simp only at hi hx h1 h2
     by_cases hc:i<3∧b=true
     ·obtain ⟨hlt,rfl⟩:=hc
      have h1:=h1 rfl
      have hn:=hnx x hx
      have hwn:=hwx (nextM x).1
      have hok:=next_ok hx
      rw[show 3-i=(2-i)+1 by omega,fracGo] at h1
      generalize nextM x=N at *
      obtain ⟨⟨nn',ds',ex'⟩,b'⟩:=N
      obtain ⟨xn,xd,xe⟩:=x
      simp only[encDec] at *
      cases b' with
      | false=>
       rw[if_pos rfl] at h1
       by_cases he':0≤ex'
       ·rw[decide_eq_true he'] at hwn
        (repeat' first|simp (disch:=omega) only[go_sem]|refine pure_of _ (hn) ?_|refine pure_of _ (hwn) ?_|(apply spl<;>intro h<;>try simp (disch:=omega) only[go_sem,h]))
        all_goals first | omega | skip
        exact ⟨(i+1,⟨nn',ds',ex'⟩,false),rfl,⟨hlt,hok,fun h=>(nomatch h),fun _=>h1⟩,by simp only; omega⟩
       ·rw[decide_eq_false he'] at hwn
        (repeat' first|simp (disch:=omega) only[go_sem]|refine pure_of _ (hn) ?_|refine pure_of _ (hwn) ?_|(apply spl<;>intro h<;>try simp (disch:=omega) only[go_sem,h]))
        all_goals first | omega | skip
        exact ⟨(i+1,⟨nn',ds',ex'⟩,false),rfl,⟨hlt,hok,fun h=>(nomatch h),fun _=>h1⟩,by simp only; omega⟩
      | true=>
       rw[if_neg (by simp)] at h1
       by_cases he':0≤ex'
       ·rw[if_neg (by omega)] at h1
        rw[decide_eq_true he'] at hwn
        (repeat' first|simp (disch:=omega) only[go_sem]|refine pure_of _ (hn) ?_|refine pure_of _ (hwn) ?_|(apply spl<;>intro h<;>try simp (disch:=omega) only[go_sem,h]))
        all_goals first | omega | skip
        exact ⟨(i+1,⟨nn',ds',ex'⟩,true),rfl,⟨hlt,hok,fun _=>by rw[h1]; congr 1; omega,fun h=>(nomatch h)⟩,by simp only; omega⟩
       ·rw[if_pos (by omega)] at h1
        rw[decide_eq_false he'] at hwn
        rw[h1]
        (repeat' first|simp (disch:=omega) only[go_sem]|refine pure_of _ (hn) ?_|refine pure_of _ (hwn) ?_|(apply spl<;>intro h<;>try simp (disch:=omega) only[go_sem,h]))
        all_goals (first|omega|rfl)
     ·have hz:R=(⟨false,[],0⟩,false):=by
       cases b with
       | false=>exact h2 rfl
       | true=>
        have:i=3:=by
         rcases Nat.lt_or_ge i 3 with h | h
         ·exact absurd ⟨h,rfl⟩ hc
         ·omega
        rw[h1 rfl,this,Nat.sub_self,fracGo]
      rw[hz]
      clear h1 h2 hz
      obtain ⟨xn,xd,xe⟩:=x
      simp only[encDec]
      by_cases hlt:i<3
      ·have hbf:b=false:=by
        cases b with
        | false=>rfl
        | true=>exact absurd ⟨hlt,rfl⟩ hc
       subst hbf
       (repeat' first|simp (disch:=omega) only[go_sem,hlt]|(apply spl<;>intro h<;>try simp (disch:=omega) only[go_sem,hlt,h]))
       all_goals (first|omega|rfl)
      ·cases b
       all_goals
        (repeat' first|simp (disch:=omega) only[go_sem,hlt]|(apply spl<;>intro h<;>try simp (disch:=omega) only[go_sem,hlt,h]))
        all_goals (first|omega|rfl)
    ·have hnb:(ds == ([]:List UInt8))=false:=by simp [hn]
     have h0 : ¬ 120≤(ds.length:Int)+ex:=by
      rcases hpre with h | h
      ·exact absurd h hn
      ·exact h
     (repeat' first|simp (disch:=omega) only[go_sem,ac708,enter,hnb,h0]|refine pure_of _ (hw) ?_|refine pure_of _ (hp) ?_|(apply spl<;>intro h<;>try simp (disch:=omega) only[go_sem,ac708,enter,hnb,h0 ,h]))
     all_goals first | omega | skip
     have hD0:decOk ⟨nn,ds,ex⟩=true:=hd
     have hR0:R=fracGo 3 ⟨nn,ds,ex⟩:=by rw[←hR,hD]
     clear hR hD hd2 hs hfo hw hp h9 hmk hd
     refine loop_of (α:=Nat × Dec × Bool) (fun a=>{ tmps:=slots 58 [(2,.ptr 3 0 0 0),(4,.ptr 3 1 0 0),(8,.bool a.2.2),(9,.int .i64 a.1)],heap:=[.row 3 [encDec a.2.1] false true 0,.row 3 [.agg [.bool false,.str [],.int .i64 0]] false true 1],base:=0 }) (fun a=>a.1≤3∧decOk a.2.1=true∧(a.2.2=true→R=fracGo (3-a.1) a.2.1)∧(a.2.2=false→R=(⟨false,[],0⟩,false))) (fun a=>3-a.1) (0,⟨nn,ds,ex⟩,true) rfl ⟨by simp,hD0,fun _=>hR0,fun h=>(nomatch h)⟩ ?_
     clear hD0 hR0
     rintro ⟨i,x,b⟩ ⟨hi,hx,h1,h2⟩
     simp only at hi hx h1 h2
     by_cases hc:i<3∧b=true
     ·obtain ⟨hlt,rfl⟩:=hc
      have h1:=h1 rfl
      have hn:=hnx x hx
      have hwn:=hwx (nextM x).1
      have hok:=next_ok hx
      rw[show 3-i=(2-i)+1 by omega,fracGo] at h1
      generalize nextM x=N at *
      obtain ⟨⟨nn',ds',ex'⟩,b'⟩:=N
      obtain ⟨xn,xd,xe⟩:=x
      simp only[encDec] at *
      cases b' with
      | false=>
       rw[if_pos rfl] at h1
       by_cases he':0≤ex'
       ·rw[decide_eq_true he'] at hwn
        (repeat' first|simp (disch:=omega) only[go_sem]|refine pure_of _ (hn) ?_|refine pure_of _ (hwn) ?_|(apply spl<;>intro h<;>try simp (disch:=omega) only[go_sem,h]))
        all_goals first | omega | skip
        exact ⟨(i+1,⟨nn',ds',ex'⟩,false),rfl,⟨hlt,hok,fun h=>(nomatch h),fun _=>h1⟩,by simp only; omega⟩
       ·rw[decide_eq_false he'] at hwn
        (repeat' first|simp (disch:=omega) only[go_sem]|refine pure_of _ (hn) ?_|refine pure_of _ (hwn) ?_|(apply spl<;>intro h<;>try simp (disch:=omega) only[go_sem,h]))
        all_goals first | omega | skip
        exact ⟨(i+1,⟨nn',ds',ex'⟩,false),rfl,⟨hlt,hok,fun h=>(nomatch h),fun _=>h1⟩,by simp only; omega⟩
      | true=>
       rw[if_neg (by simp)] at h1
       by_cases he':0≤ex'
       ·rw[if_neg (by omega)] at h1
        rw[decide_eq_true he'] at hwn
        (repeat' first|simp (disch:=omega) only[go_sem]|refine pure_of _ (hn) ?_|refine pure_of _ (hwn) ?_|(apply spl<;>intro h<;>try simp (disch:=omega) only[go_sem,h]))
        all_goals first | omega | skip
        exact ⟨(i+1,⟨nn',ds',ex'⟩,true),rfl,⟨hlt,hok,fun _=>by rw[h1]; congr 1; omega,fun h=>(nomatch h)⟩,by simp only; omega⟩
       ·rw[if_pos (by omega)] at h1
        rw[decide_eq_false he'] at hwn
        rw[h1]
        (repeat' first|simp (disch:=omega) only[go_sem]|refine pure_of _ (hn) ?_|refine pure_of _ (hwn) ?_|(apply spl<;>intro h<;>try simp (disch:=omega) only[go_sem,h]))
        all_goals (first|omega|rfl)
     ·have hz:R=(⟨false,[],0⟩,false):=by
       cases b with
       | false=>exact h2 rfl
       | true=>
        have:i=3:=by
         rcases Nat.lt_or_ge i 3 with h | h
         ·exact absurd ⟨h,rfl⟩ hc
         ·omega
        rw[h1 rfl,this,Nat.sub_self,fracGo]
      rw[hz]
      clear h1 h2 hz
      obtain ⟨xn,xd,xe⟩:=x
      simp only[encDec]
      by_cases hlt:i<3
      ·have hbf:b=false:=by
        cases b with
        | false=>rfl
        | true=>exact absurd ⟨hlt,rfl⟩ hc
       subst hbf
       (repeat' first|simp (disch:=omega) only[go_sem,hlt]|(apply spl<;>intro h<;>try simp (disch:=omega) only[go_sem,hlt,h]))
       all_goals (first|omega|rfl)
      ·cases b
       all_goals
        (repeat' first|simp (disch:=omega) only[go_sem,hlt]|(apply spl<;>intro h<;>try simp (disch:=omega) only[go_sem,hlt,h]))
        all_goals (first|omega|rfl)
  exact hL d rfl
end Ago
set_option maxRecDepth 100000
set_option exponentiation.threshold 2000
set_option maxHeartbeats 4000000
set_option exponentiation.threshold 2000
namespace Ago
open Go (IntKind)
def LeastW (P:Int→Prop) (r:Dec × Bool):Prop:=
 (r.2=true→decOk r.1=true∧P (valD r.1)∧∀ y,decOk y=true→P (valD y)→valD r.1≤valD y)∧(r.2=false→∀ y,decOk y=true→¬ P (valD y))
theorem leastW_some {P:Int→Prop} {x:Dec} (h1:decOk x=true) (h2:P (valD x)) (h3 : ∀ y,decOk y=true→P (valD y)→valD x≤valD y):LeastW P (x,true):=
 ⟨fun _=>⟨h1,h2,h3⟩,fun h=>(nomatch h)⟩
theorem leastW_none {P:Int→Prop} {x:Dec} (h : ∀ y,decOk y=true→¬ P (valD y)):LeastW P (x,false):=⟨fun h=>(nomatch h),fun _=>h⟩
theorem frac_exp {y:Dec} (hy:decOk y=true) (h : ¬ T 400 ∣ valD y):y.exp<0:=by
 rcases Int.lt_or_le y.exp 0 with h1 | h1
 ·exact h1
 ·exact absurd ((whole_iff hy).1 h1) h
theorem frac_bound {y:Dec} (hy:decOk y=true) (h : ¬ T 400 ∣ valD y):magD y≤(T 120-1) * T 399:=by
 have he:=frac_exp hy h
 have hn:y.digits≠[]:=fun hn=>by rw[decOk_nil hy hn] at he; simp at he
 obtain ⟨h1,h2,h3,h4,h5⟩:=decOk_num hy hn
 have hf:fold10 y.digits<T y.digits.length:=(fold10_bound _ h1.dig).2
 have hl:=T_le h3
 have hE:=T_le (show (y.exp+400).toNat≤399 by omega)
 have hp:=h1.pos
 have e:magD y=fold10 y.digits * T (y.exp+400).toNat:=rfl
 rw[e]
 exact Int.mul_le_mul (by omega) hE (by have:=T_pos (y.exp+400).toNat; omega) (by have:=T_pos 120; omega)
theorem nines_eq:(T 120-1) * T 399=T 519-T 399:=by
 rw[Int.sub_mul,Int.one_mul]
 have e:T 120 * T 399=T 519:=(Int.pow_add 10 120 399).symm
 rw[e]
theorem val_le (y:Dec) (hy:decOk y=true) : - magD y≤valD y∧valD y≤magD y:=by
 have:=magD_nonneg hy
 rcases val_abs y with h | h<;>omega
theorem whole_next {x:Dec} (hx:decOk x=true) (hw:T 400 ∣ valD x) (hb:magD x<T 519):(nextM x).2=true∧¬ T 400 ∣ valD (nextM x).1:=by
 obtain ⟨h1,h2⟩:=nextM_law x hx
 have hp:=T_pos 399
 have e400:T 400=10 * T 399:=T_succ 399
 have h519:T 400 ∣ T 519:=T_dvd (by omega)
 have hd:T 399 ∣ T 400:=T_dvd (by omega)
 have hdx:=Int.dvd_trans hd hw
 have hv:=val_le x hx
 have h801:=T_lt (show 519<801 by omega)
 have hV:IsV (valD x+T 399):=by
  rcases Int.lt_trichotomy (valD x+T 399) 0 with h | h | h
  ·have h3:IsV (-(valD x+T 399)):=V_K2 (L:=519) (by omega) (by omega) (by rw[show 519-120=399 from rfl]; exact Int.dvd_neg.2 (Int.dvd_add hdx (Int.dvd_refl _))) (not_dvd (by omega) (by omega))
   have:=V_pos_neg h3
   rwa [Int.neg_neg] at this
  ·rw[h]
   exact V_zero
  ·have h3:=gap (show 0<T 400 by omega) hw h519 (by omega)
   exact V_K2 (L:=519) h (by omega) (by rw[show 519-120=399 from rfl]; exact Int.dvd_add hdx (Int.dvd_refl _)) (not_dvd h (by omega))
 obtain ⟨z,hz,hzv⟩:=hV
 have ht:(nextM x).2=true:=by
  cases hb:(nextM x).2 with
  | true=>rfl
  | false=>
   have:=(h2 hb).2 z hz
   omega
 obtain ⟨k1,k2,k3⟩:=h1 ht
 have k4:=k3 z hz (by omega)
 refine ⟨ht,fun h=>?_⟩
 have:=gap (show 0<T 400 by omega) hw h k2
 omega
theorem frac_far : ∀ (k:Nat) (x:Dec),decOk x=true→T 519≤valD x→fracGo k x=(⟨false,[],0⟩,false)
 | 0,_,_,_=>rfl
 | k+1,x,hx,h=>by
  obtain ⟨h1,h2⟩:=nextM_law x hx
  rw[fracGo]
  cases hb:(nextM x).2 with
  | false=>rw[if_pos rfl]
  | true=>
   obtain ⟨k1,k2,k3⟩:=h1 hb
   rw[if_neg (by simp)]
   have hw : ¬ (nextM x).1.exp<0:=fun he=>by
    have h3:=frac_bound k1 (fun hh=>by have:=(whole_iff k1).2 hh; omega)
    rw[nines_eq] at h3
    have:=val_le _ k1
    have:=T_pos 399
    omega
   rw[if_neg hw]
   exact frac_far k _ k1 (by omega)
theorem nextFM_law (d:Dec) (opn:Bool) (hd:decOk d=true):LeastW (fun n=>Above (valD d) opn n∧¬ T 400 ∣ n) (nextFM d opn):=by
 have p399:=T_pos 399
 have p519:=T_pos 519
 unfold nextFM
 by_cases hfo:d.exp<0∧opn=false
 ·rw[if_pos hfo]
  obtain ⟨he,rfl⟩:=hfo
  have hnd : ¬ T 400 ∣ valD d:=fun h=>by have:=(whole_iff hd).2 h; omega
  exact leastW_some hd ⟨Int.le_refl _,hnd⟩ fun y _ hp=>hp.1
 rw[if_neg hfo]
 have weak : ∀ {n:Int},Above (valD d) opn n→valD d≤n:=fun {n} h=>by
  unfold Above at h
  split at h<;>omega
 by_cases hs:d.digits≠[]∧120≤(d.digits.length:Int)+d.exp
 ·rw[if_pos hs]
  have hlow:T 519≤magD d:=val_low hd hs.1 (by omega)
  cases hneg:d.neg with
  | true=>
   have hv:valD d = - magD d:=by unfold valD; rw[if_pos hneg]
   have h9:=nines_val
   rw[nines_eq] at h9
   have hnd : ¬ T 400 ∣ valD ninesD:=fun h=>by
    have:=(whole_iff nines_ok).2 h
    simp [ninesD] at this
   refine leastW_some nines_ok ⟨by unfold Above; split<;>omega,hnd⟩ fun y hy hp=>?_
   have h3:=frac_bound hy hp.2
   rw[nines_eq] at h3
   have:=val_le y hy
   omega
  | false=>
   have hv:valD d=magD d:=by unfold valD; rw[if_neg (by simp [hneg])]
   refine leastW_none fun y hy hp=>?_
   have h3:=frac_bound hy hp.2
   rw[nines_eq] at h3
   have:=val_le y hy
   have:=weak hp.1
   omega
 ·rw[if_neg hs]
  have hb:magD d<T 519:=by
   by_cases hn:d.digits=[]
   ·rw[magD_nil hn]; exact p519
   ·have : ¬ 120≤(d.digits.length:Int)+d.exp:=fun h=>hs ⟨hn,h⟩
    exact val_bound hd hn (by omega)
  have hvd:=val_le d hd
  have strict : ∀ {n:Int},Above (valD d) opn n→¬ T 400 ∣ n→valD d<n:=fun {n} h hn=>by
   cases ho:opn with
   | true=>
    rw[ho] at h
    exact h
   | false=>
    have he:0≤d.exp:=by
     rcases Int.lt_or_le d.exp 0 with h1 | h1
     ·exact absurd ⟨h1,ho⟩ hfo
     ·exact h1
    have hw:=(whole_iff hd).1 he
    have:=weak h
    rcases Int.lt_or_le (valD d) n with h1 | h1
    ·exact h1
    ·have:n=valD d:=by omega
     rw[this] at hn
     exact absurd hw hn
  have above : ∀ {n:Int},valD d<n→Above (valD d) opn n:=fun {n} h=>by
   unfold Above
   split<;>omega
  obtain ⟨n1,n2⟩:=nextM_law d hd
  rw[fracGo]
  cases hb1:(nextM d).2 with
  | false=>
   rw[if_pos rfl]
   refine leastW_none fun y hy hp=>?_
   have:=strict hp.1 hp.2
   have:=(n2 hb1).2 y hy
   omega
  | true=>
   rw[if_neg (by simp)]
   obtain ⟨k1,k2,k3⟩:=n1 hb1
   by_cases he:(nextM d).1.exp<0
   ·rw[if_pos he]
    refine leastW_some k1 ⟨above k2,fun h=>by have:=(whole_iff k1).2 h; omega⟩ fun y hy hp=>k3 y hy (strict hp.1 hp.2)
   ·rw[if_neg he]
    have hw1:=(whole_iff k1).1 (by omega)
    generalize (nextM d).1=x1 at *
    -- no fraction up to the first number
    have up : ∀ y,decOk y=true→valD d<valD y→¬ T 400 ∣ valD y→valD x1<valD y:=fun y hy h1 h2=>by
     have:=k3 y hy h1
     rcases Int.lt_or_le (valD x1) (valD y) with h3 | h3
     ·exact h3
     ·have:valD y=valD x1:=by omega
      rw[this] at h2
      exact absurd hw1 h2
    by_cases hb2:magD x1<T 519
    ·obtain ⟨f1,f2⟩:=whole_next k1 hw1 hb2
     obtain ⟨m1,m2,m3⟩:=(nextM_law x1 k1).1 f1
     rw[fracGo,if_neg (by rw[f1]; simp),if_pos (frac_exp m1 f2)]
     refine leastW_some m1 ⟨above (by omega),f2⟩ fun y hy hp=>m3 y hy (up y hy (strict hp.1 hp.2) hp.2)
    ·have hbig:T 519≤valD x1:=by
      rcases val_abs x1 with h | h<;>omega
     rw[frac_far 2 x1 k1 hbig]
     refine leastW_none fun y hy hp=>?_
     have h3:=frac_bound hy hp.2
     rw[nines_eq] at h3
     have:=val_le y hy
     have:=up y hy (strict hp.1 hp.2) hp.2
     omega
def SortOk (s n:Int):Prop:=s=0∨(s=1∧T 400 ∣ n)∨(s=2∧¬ T 400 ∣ n)
theorem sort_iff {s:Int} {y:Dec} (hy:decOk y=true) (h0:0≤s) (h2:s≤2):sortIn s (sortD y)=true↔SortOk s (valD y):=by
 unfold sortIn sortD SortOk
 rw[decide_eq_true_eq,←whole_iff hy]
 by_cases h:0≤y.exp
 ·rw[if_pos h]
  constructor
  ·rintro (h1 | h1)
   ·exact .inl h1
   ·exact .inr (.inl ⟨h1,h⟩)
  ·rintro (h1 | ⟨h1,_⟩ | ⟨_,h1⟩)
   ·exact .inl h1
   ·exact .inr h1
   ·exact absurd h h1
 ·rw[if_neg h]
  constructor
  ·rintro (h1 | h1)
   ·exact .inl h1
   ·exact .inr (.inr ⟨h1,h⟩)
  ·rintro (h1 | ⟨_,h1⟩ | ⟨h1,_⟩)
   ·exact .inl h1
   ·exact absurd h1 h
   ·exact .inr h1
theorem in_iff {p:Prt} (hp:prtOk p=true) {y:Dec} (hy:decOk y=true):inM p y=true↔(p.lo.set=true→Above (valD p.lo.num) p.lo.opn (valD y))∧(p.hi.set=true→Above (valD y) p.hi.opn (valD p.hi.num))∧SortOk p.sort (valD y):=by
 obtain ⟨h1,h2,h3,h4⟩:=prt_bnds hp
 rw[inM_key hp hy,Bool.and_eq_true,Bool.and_eq_true,decide_eq_true_eq,decide_eq_true_eq,low_key h1 hy,upp_key h2 hy,sort_iff hy h3 h4,and_assoc]
 have a1:(¬ (p.lo.set=true∧(cmpM y p.lo.num<0∨cmpM y p.lo.num=0∧p.lo.opn=true)))↔(p.lo.set=true→Above (valD p.lo.num) p.lo.opn (valD y)):=by
  by_cases hs:p.lo.set=true
  ·have hv:=cmpM_val hy (bnd_num h1 hs)
   unfold Above
   cases p.lo.opn<;>simp only[hs,true_and,true_implies,Bool.false_eq_true,and_false,or_false,and_true,if_false,if_true]<;>omega
  ·simp [hs]
 have a2:(¬ (p.hi.set=true∧(0<cmpM y p.hi.num∨cmpM y p.hi.num=0∧p.hi.opn=true)))↔(p.hi.set=true→Above (valD y) p.hi.opn (valD p.hi.num)):=by
  by_cases hs:p.hi.set=true
  ·have hv:=cmpM_val hy (bnd_num h2 hs)
   unfold Above
   cases p.hi.opn<;>simp only[hs,true_and,true_implies,Bool.false_eq_true,and_false,or_false,and_true,if_false,if_true]<;>omega
  ·simp [hs]
 rw[a1,a2]
def leastM (p:Prt):Dec × Bool:=
 if p.sort=1 then nextWM p.lo.num p.lo.opn else if p.sort=2 then nextFM p.lo.num p.lo.opn else if p.lo.opn=true then nextM p.lo.num else (p.lo.num,true)
theorem leastM_law {p:Prt} (hp:prtOk p=true) (hs:p.lo.set=true):LeastW (fun n=>Above (valD p.lo.num) p.lo.opn n∧SortOk p.sort n) (leastM p):=by
 obtain ⟨h1,h2,h3,h4⟩:=prt_bnds hp
 have hd:=bnd_num h1 hs
 unfold leastM
 by_cases s1:p.sort=1
 ·rw[if_pos s1]
  obtain ⟨k1,k2⟩:=nextWM_law p.lo.num p.lo.opn hd
  have e : ∀ n,SortOk p.sort n↔T 400 ∣ n:=fun n=>by unfold SortOk; rw[s1]; simp
  refine ⟨fun h=>?_,fun h y hy hq=>(k2 h).2 y hy ⟨hq.1,(e _).1 hq.2⟩⟩
  obtain ⟨g1,g2,g3⟩:=k1 h
  exact ⟨g1,⟨g2.1,(e _).2 g2.2⟩,fun y hy hq=>g3 y hy ⟨hq.1,(e _).1 hq.2⟩⟩
 rw[if_neg s1]
 by_cases s2:p.sort=2
 ·rw[if_pos s2]
  obtain ⟨k1,k2⟩:=nextFM_law p.lo.num p.lo.opn hd
  have e : ∀ n,SortOk p.sort n↔¬ T 400 ∣ n:=fun n=>by unfold SortOk; rw[s2]; simp
  refine ⟨fun h=>?_,fun h y hy hq=>k2 h y hy ⟨hq.1,(e _).1 hq.2⟩⟩
  obtain ⟨g1,g2,g3⟩:=k1 h
  exact ⟨g1,⟨g2.1,(e _).2 g2.2⟩,fun y hy hq=>g3 y hy ⟨hq.1,(e _).1 hq.2⟩⟩
 rw[if_neg s2]
 have e : ∀ n,SortOk p.sort n:=fun n=>.inl (by omega)
 cases ho:p.lo.opn with
 | true=>
  rw[if_pos rfl]
  obtain ⟨k1,k2⟩:=nextM_law p.lo.num hd
  refine ⟨fun h=>?_,fun h y hy hq=>?_⟩
  ·obtain ⟨g1,g2,g3⟩:=k1 h
   exact ⟨g1,⟨g2,e _⟩,fun y hy hq=>g3 y hy hq.1⟩
  ·have:=(k2 h).2 y hy
   have h5:valD p.lo.num<valD y:=hq.1
   omega
 | false=>
  rw[if_neg (by simp)]
  exact leastW_some hd ⟨Int.le_refl _,e _⟩ fun y _ hq=>hq.1
end Ago
