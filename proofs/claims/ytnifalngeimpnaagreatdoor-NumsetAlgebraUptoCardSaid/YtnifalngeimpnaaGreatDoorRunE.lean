/- numset.combine. -/
import Derived.Test.YtnifalngeimpnaaGreatDoorRunD
import Derived.Test.YtnifalngeimpnaaGreatDoorRunA
set_option linter.unusedSimpArgs false
set_option linter.unusedVariables false
set_option maxRecDepth 100000
set_option maxHeartbeats 16000000
namespace Ago
open Go (IntKind)
theorem regsM_pair (F:List Bool→Bool) (sets:Sets) (l:List Cut) : ∀ (k:Nat) (a b:Cut) (rs:List Reg),l[k]?=some a→l[k+1]?=some b→regsM F sets (l.drop k) rs=regsM F sets (l.drop (k+1)) (addR rs (regAt F sets a b)):=by
 intro k a b rs h1 h2
 obtain ⟨g1,g2⟩:=List.getElem?_eq_some_iff.1 h1
 obtain ⟨g3,g4⟩:=List.getElem?_eq_some_iff.1 h2
 rw[List.drop_eq_getElem_cons g1,List.drop_eq_getElem_cons g3,g2,g4,regsM]
theorem addR_len (rs:List Reg) (r:Reg):(addR rs r).length≤rs.length+1:=by
 unfold addR
 split
 ·simp
 ·split
  ·simp
  ·simp
theorem addR_ne (rs:List Reg) (r:Reg):addR rs r≠[]:=by
 unfold addR
 split
 ·simp
 ·split<;>simp
def pOut:List AV→AV
 | []=>.snil 11
 | _::zs=>.sref 11 0 0 (zs.length+1)
def pRegs (out:List AV) (n:Nat):AV:=match out with
 | []=>.sref 12 0 0 n
 | _::_=>.sref 12 1 0 n
def pHeap (out els:List AV):Heap:=match out with
 | []=>[.row 12 els false true 0]
 | z::zs=>[.row 11 (z::zs) false true 0,.row 12 els false true 1]
theorem combine_run (g:Nat) (F:List Bool→Bool) (sets:Sets) (hF:FunOk sets g F) (hs : ∀ s,s∈sets→∀ p,p∈s→prtOk p=true) (hn:(rawC sets).length<2^20) (hl:sets.length<2^20) (hne:sets≠[]):PRun CKN 695 [.fn g [],.tsl 1 (sets.map encNS)] (.tsl 11 ((partsM (regsM F sets (cutsM sets) [])).map encPrt)):=by
 have hc:=cuts_run sets hs hn hl
 have hlaw:=cutsM_law hs
 have hok:=hlaw.ok hs
 have hcl:(cutsM sets).length<2^20:=by have:=cuts_len hlaw; rw[rawC_len] at hn; omega
 have hsl : ∀ s,s∈sets→s.length<2^20:=fun s hm=>by
  have:=sum_mem_le (List.mem_map_of_mem (f:=List.length) hm)
  rw[rawC_len] at hn
  omega
 have hz : ¬ ((sets.length:Int)=0):=by have:=List.length_pos_iff.2 hne; omega
 have hhas:=fun lo hi h1 h2 t bs hb rs=>has_run sets g F hF hs hsl hl lo hi h1 h2 t bs hb rs
 refine prun_of ac695 rfl ?_
 (repeat' first|simp (disch:=omega) only[go_sem,ac695,enter,List.length_map,hz]|refine pure_of _ (hc) ?_|(apply spl<;>intro h<;>try simp (disch:=omega) only[go_sem,h]))
 all_goals first | omega | skip
 generalize hL:cutsM sets=l at *
 refine loop_of (α:=Nat × List Bool × List Reg) (fun a=>{ tmps:=slots 81 [(6,.fn 701 [.ptr 1 0 0 0,.ptr 1 1 0 0,.ptr 1 3 0 0]),(7,.ptr 1 4 0 0),(8,.fn 703 [.ptr 1 4 0 0]),(9,.tsl 5 (l.map encCut)),(10,.int .i64 a.1)],heap:=cH sets g a.2.1 (a.2.2.map encReg),base:=0 }) (fun a=>1≤a.1∧a.1≤l.length∧a.2.1.length=sets.length∧a.2.2.length<a.1∧regsM F sets l []=regsM F sets (l.drop (a.1-1)) a.2.2) (fun a=>l.length-a.1) (1,List.replicate sets.length false,[]) (by unfold cH bools; rw[List.map_replicate]; rfl) ⟨Nat.le_refl _,by simp only; have:=(hlaw.mem ⟨-1,zeroD,false⟩).2 (.inl rfl); have:=List.length_pos_of_mem this; omega,by simp,by simp,by simp⟩ ?_
 rintro ⟨k,bs,regs⟩ ⟨hk1,hk,hb,hrl,hreg⟩
 simp only at hk1 hk hb hrl hreg
 by_cases hlt:k<l.length
 ·obtain ⟨b,hbk⟩:=get_some hlt
  obtain ⟨a,hak⟩:=get_some (s:=l) (k:=k-1) (by omega)
  have ha2:=getN hak
  have hb2:=getN hbk
  have e1:(k:Int)-1=((k-1:Nat):Int):=by omega
  have h1:=hhas a b (hok a (List.mem_of_getElem? hak)) (hok b (List.mem_of_getElem? hbk)) 1 bs hb (regs.map encReg)
  have h2:=hhas a b (hok a (List.mem_of_getElem? hak)) (hok b (List.mem_of_getElem? hbk)) 2 (sets.map fun s=>covM s a b 1) (by simp) (regs.map encReg)
  have hpair:=regsM_pair F sets l (k-1) a b regs hak (by rw[show k-1+1=k by omega]; exact hbk)
  rw[hpair,show k-1+1=k by omega] at hreg
  have hadd:=add_run sets g (sets.map fun s=>covM s a b 2) regs (by omega) (regAt F sets a b)
  have hal:=addR_len regs (regAt F sets a b)
  have hane:=addR_ne regs (regAt F sets a b)
  have ereg:=encReg_flat (regAt F sets a b)
  rw[encCut_flat a] at ha2 h1 h2
  rw[encCut_flat b] at hb2 h1 h2
  rw[ereg] at hadd
  unfold regAt at hadd
  simp only at hadd
  have hH : ∃ H3,RunOf CKN 703 [.agg [.int .i64 a.fin,.bool a.num.neg,.str a.num.digits,.int .i64 a.num.exp,.bool a.aft,.int .i64 b.fin,.bool b.num.neg,.str b.num.digits,.int .i64 b.num.exp,.bool b.aft,.bool (hasF F sets a b 1),.bool (hasF F sets a b 2)],.ptr 1 4 0 0] (cH sets g (sets.map fun s=>covM s a b 2) (regs.map encReg)) (.tup []) H3∧(H3=cH sets g (sets.map fun s=>covM s a b 2) ((addR regs (regAt F sets a b)).map encReg)∨H3=cH2 sets g (sets.map fun s=>covM s a b 2) (regs.map encReg) ((addR regs (regAt F sets a b)).map encReg)):=by
   rcases hadd with h | ⟨_,h⟩
   ·exact ⟨_,h,.inl rfl⟩
   ·exact ⟨_,h,.inr rfl⟩
  obtain ⟨H3,h3,hH3⟩:=hH
  clear hadd
  generalize addR regs (regAt F sets a b)=R at *
  generalize hb2':(sets.map fun s=>covM s a b 2)=bs2 at *
  have hbl:bs2.length=sets.length:=by rw[←hb2']; simp
  clear hb2'
  generalize (sets.map fun s=>covM s a b 1)=bs1 at *
  generalize hasF F sets a b 1=w1 at *
  generalize hasF F sets a b 2=w2 at *
  generalize cH sets g bs (regs.map encReg)=H0 at *
  generalize cH sets g bs1 (regs.map encReg)=H1 at *
  generalize cH sets g bs2 (regs.map encReg)=H2 at *
  (repeat' first|simp (disch:=omega) only[go_sem,List.length_map]|(apply spl<;>intro h<;>try simp (disch:=omega) only[go_sem,h]))
  all_goals first | omega | skip
  refine drawPS_of ?s1 ?s2 ?s3 (by simp) ?g1 ?g2 ?g3 ?g4
  rotate_left 3
  case g1=>
   (repeat' first|simp (disch:=omega) only[go_sem,List.length_map,ha2,hb2,e1,toNatK,keep_mk]|(apply spl<;>intro h<;>try simp (disch:=omega) only[go_sem,h]))
   all_goals (first|omega|rfl)
  case g2=>
   repeat' first | exact midsTo_nil | refine midsTo_cons ?_ ?_
   all_goals
    (repeat' first|simp (disch:=omega) only[go_sem,List.length_map,ha2,hb2,toNatK]|(refine call_of _ _ h1 ?_)|(refine call_of _ _ h2 ?_)|(apply spl<;>intro h<;>try simp (disch:=omega) only[go_sem,h]))
   all_goals first | rfl | omega
  case g3=>
   (repeat' first|simp (disch:=omega) only[go_sem,List.length_map]|(refine call_of _ _ h3 ?_)|(apply spl<;>intro h<;>try simp (disch:=omega) only[go_sem,h]))
   all_goals first | rfl | omega
  case g4=>
   (repeat' first|simp (disch:=omega) only[go_sem,List.length_map]|(apply spl<;>intro h<;>try simp (disch:=omega) only[go_sem,h]))
   all_goals first | omega | skip
   refine ⟨(k+1,bs2,R),?_,⟨by simp only; omega,hlt,hbl,by simp only; omega,by rw[hreg]; rfl⟩,by simp only; omega⟩
   obtain ⟨z,zs,hz⟩ : ∃ z zs,R.map encReg=z::zs:=by
    cases R with
    | nil=>exact absurd rfl hane
    | cons x xs=>exact ⟨_,_,rfl⟩
   rw[hz] at hH3
   simp only[hz]
   rcases hH3 with rfl | rfl
   ·unfold cH
    simp only[outSl,outHp]
    rfl
   ·unfold cH cH2
    simp only[outSl,outHp,List.length_cons]
    rfl
 ·have hkk:k=l.length:=by omega
  have hfin:regsM F sets l []=regs:=by
   rw[hreg,hkk]
   obtain ⟨x,hx⟩:=get_some (s:=l) (k:=l.length-1) (by omega)
   obtain ⟨g1,g2⟩:=List.getElem?_eq_some_iff.1 hx
   rw[List.drop_eq_getElem_cons g1,List.drop_of_length_le (by omega),regsM]
   simp
  rw[hfin]
  clear hreg hfin hhas hc hlaw hok
  unfold cH
  cases hrr:regs.map encReg with
  | nil=>
   have h0:regs=[]:=by simpa using hrr
   subst h0
   simp only[outSl,outHp,List.append_nil,List.isEmpty_nil]
   (repeat' first|simp (disch:=omega) only[go_sem,List.length_map]|(apply spl<;>intro h<;>try simp (disch:=omega) only[go_sem,h]))
   all_goals first | omega | skip
   refine loop_of (α:=Unit) (fun _=>{ tmps:=slots 81 [(11,.snil 11),(63,.snil 12),(64,.int .i64 0),(65,.int .i64 0)],heap:=[],base:=0 }) (fun _=>True) (fun _=>0) () rfl trivial ?_
   rintro _ _
   (repeat' first|simp (disch:=omega) only[go_sem,List.length_map]|(apply spl<;>intro h<;>try simp (disch:=omega) only[go_sem,h]))
   all_goals (first|omega|rfl)
  | cons z zs=>
   simp only[outSl,outHp,List.append_nil,List.isEmpty_cons,List.cons_append,List.nil_append]
   have hzl:zs.length+1=regs.length:=by have:=congrArg List.length hrr; simpa using this.symm
   (repeat' first|simp (disch:=omega) only[go_sem,List.length_map]|(apply spl<;>intro h<;>try simp (disch:=omega) only[go_sem,h]))
   all_goals first | omega | skip
   refine loop_of (α:=Nat × List AV) (fun a=>{ tmps:=slots 81 [(11,pOut a.2),(63,pRegs a.2 (zs.length+1)),(64,.int .i64 (zs.length+1:Nat)),(65,.int .i64 a.1)],heap:=pHeap a.2 (z::zs),base:=0 }) (fun a=>a.1≤regs.length∧a.2=(partsM (regs.take a.1)).map encPrt) (fun a=>regs.length-a.1) (0,[]) rfl ⟨Nat.zero_le _,rfl⟩ ?_
   rintro ⟨i,out⟩ ⟨hi,ho⟩
   simp only at hi ho
   have hol:out.length≤i:=by
    rw[ho,List.length_map]
    unfold partsM
    rw[List.length_map]
    have:=List.length_filter_le liveR (regs.take i)
    rw[List.length_take] at this
    omega
   by_cases hlt2:i<regs.length
   ·obtain ⟨y,hy⟩:=get_some hlt2
    have hy2:(z::zs)[i]?=some (encReg y):=by rw[←hrr,List.getElem?_map,hy]; rfl
    have hr:=upK (part_run y)
    have hnew:(partsM (regs.take (i+1))).map encPrt=out++(if liveR y=true then [encPrt (prtR y)] else []):=by
     rw[ho,List.take_add_one,hy]
     unfold partsM
     rw[List.filter_append,List.map_append,List.map_append]
     congr 1
     cases hlv:liveR y<;>simp [hlv]
    have hdone:regs.length-(i+1)<regs.length-i:=by omega
    generalize prtR y=q at *
    rw[encReg_flat y] at hy2 hr
    cases hlv:liveR y with
    | false=>
     rw[hlv] at hr hnew
     simp only[Bool.false_eq_true,if_false,List.append_nil,encPrt,zeroD] at hr hnew
     cases out with
     | nil=>
      unfold pOut pRegs pHeap
      simp only
      (repeat' first|simp (disch:=omega) only[go_sem,hy2,List.length_map,List.length_cons,hzl]|refine pure_of _ (hr) ?_|(apply spl<;>intro h<;>try simp (disch:=omega) only[go_sem,h]))
      all_goals first | omega | skip
      exact ⟨(i+1,[]),rfl,⟨hlt2,hnew.symm⟩,hdone⟩
     | cons w ws=>
      unfold pOut pRegs pHeap
      simp only
      simp only[List.length_cons] at hol
      (repeat' first|simp (disch:=omega) only[go_sem,hy2,List.length_map,List.length_cons,hzl]|refine pure_of _ (hr) ?_|(apply spl<;>intro h<;>try simp (disch:=omega) only[go_sem,h]))
      all_goals first | omega | skip
      exact ⟨(i+1,w::ws),rfl,⟨hlt2,hnew.symm⟩,hdone⟩
    | true=>
     rw[hlv] at hr hnew
     simp only[if_true] at hr hnew
     have eq1:encPrt q = .agg [.bool q.lo.set,.bool q.lo.num.neg,.str q.lo.num.digits,.int .i64 q.lo.num.exp,.bool q.lo.opn,.bool q.hi.set,.bool q.hi.num.neg,.str q.hi.num.digits,.int .i64 q.hi.num.exp,.bool q.hi.opn,.int .i64 q.sort]:=rfl
     rw[eq1] at hr hnew
     cases out with
     | nil=>
      unfold pOut pRegs pHeap
      simp only
      (repeat' first|simp (disch:=omega) only[go_sem,hy2,List.length_map,List.length_cons,hzl]|refine pure_of _ (hr) ?_|(apply spl<;>intro h<;>try simp (disch:=omega) only[go_sem,h]))
      all_goals first | omega | skip
      exact ⟨(i+1,_),rfl,⟨hlt2,hnew.symm⟩,hdone⟩
     | cons w ws=>
      unfold pOut pRegs pHeap
      simp only
      simp only[List.length_cons] at hol
      (repeat' first|simp (disch:=omega) only[go_sem,hy2,List.length_map,List.length_cons,hzl]|refine pure_of _ (hr) ?_|(apply spl<;>intro h<;>try simp (disch:=omega) only[go_sem,h]))
      all_goals first | omega | skip
      refine ⟨(i+1,_),?_,⟨hlt2,hnew.symm⟩,hdone⟩
      simp only[List.cons_append,List.length_append,List.length_cons,List.length_nil]
      rfl
   ·rw[take_len hlt2 hi] at ho
    subst ho
    cases hpm:(partsM regs).map encPrt with
    | nil=>
     unfold pOut pRegs pHeap
     simp only
     (repeat' first|simp (disch:=omega) only[go_sem,List.length_map,List.length_cons,hzl]|(apply spl<;>intro h<;>try simp (disch:=omega) only[go_sem,h]))
     all_goals (first|omega|rfl)
    | cons w ws=>
     rw[hpm] at hol
     simp only[List.length_cons] at hol
     unfold pOut pRegs pHeap
     simp only
     (repeat' first|simp (disch:=omega) only[go_sem,List.length_map,List.length_cons,hzl]|(apply spl<;>intro h<;>try simp (disch:=omega) only[go_sem,h]))
     all_goals first | omega | skip
     all_goals first | rfl | rw[List.take_length]
end Ago
set_option maxRecDepth 100000
set_option maxHeartbeats 4000000
namespace Ago
open Go (IntKind)
def notF (l:List Bool):Bool:=!(l.getD 0 false)
def andF (l:List Bool):Bool:=l.getD 0 false && l.getD 1 false
def orrF (l:List Bool):Bool:=l.getD 0 false || l.getD 1 false
def neqF (l:List Bool):Bool:=l.getD 0 false != l.getD 1 false
theorem len1 {bs:List Bool} (h:bs.length=1) : ∃ x,bs=[x]:=by
 match bs,h with
 | [x],_=>exact ⟨x,rfl⟩
theorem len2 {bs:List Bool} (h:bs.length=2) : ∃ x y,bs=[x,y]:=by
 match bs,h with
 | [x,y],_=>exact ⟨x,y,rfl⟩
theorem not_ok (a:List Prt):FunOk [a] 691 notF:=by
 intro bs rs A B hb
 obtain ⟨x,rfl⟩:=len1 hb
 refine runR_of ac691 rfl ?_
 unfold cH bools
 cases rs<;>cases x
 all_goals
  simp only[outSl,outHp,List.append_nil,List.isEmpty_nil,List.isEmpty_cons,List.cons_append,List.nil_append,List.length_cons,List.length_nil,List.map_cons,List.map_nil]
  (repeat' first|simp (disch:=omega) only[go_sem,ac691,enter]|(apply spl<;>intro h<;>try simp (disch:=omega) only[go_sem,h]))
  all_goals first | omega | skip
  exact postR_of (.inr rfl) (.bool _) rfl rfl rfl
theorem and_ok (a b:List Prt):FunOk [a,b] 693 andF:=by
 intro bs rs A B hb
 obtain ⟨x,y,rfl⟩:=len2 hb
 refine runR_of ac693 rfl ?_
 unfold cH bools
 cases rs<;>cases x<;>cases y
 all_goals
  simp only[outSl,outHp,List.append_nil,List.isEmpty_nil,List.isEmpty_cons,List.cons_append,List.nil_append,List.length_cons,List.length_nil,List.map_cons,List.map_nil]
  (repeat' first|simp (disch:=omega) only[go_sem,ac693,enter]|(apply spl<;>intro h<;>try simp (disch:=omega) only[go_sem,h]))
  all_goals first | omega | skip
  exact postR_of (.inr rfl) (.bool _) rfl rfl rfl
theorem orr_ok (a b:List Prt):FunOk [a,b] 694 orrF:=by
 intro bs rs A B hb
 obtain ⟨x,y,rfl⟩:=len2 hb
 refine runR_of ac694 rfl ?_
 unfold cH bools
 cases rs<;>cases x<;>cases y
 all_goals
  simp only[outSl,outHp,List.append_nil,List.isEmpty_nil,List.isEmpty_cons,List.cons_append,List.nil_append,List.length_cons,List.length_nil,List.map_cons,List.map_nil]
  (repeat' first|simp (disch:=omega) only[go_sem,ac694,enter]|(apply spl<;>intro h<;>try simp (disch:=omega) only[go_sem,h]))
  all_goals first | omega | skip
  exact postR_of (.inr rfl) (.bool _) rfl rfl rfl
theorem neq_ok (a b:List Prt):FunOk [a,b] 696 neqF:=by
 intro bs rs A B hb
 obtain ⟨x,y,rfl⟩:=len2 hb
 refine runR_of ac696 rfl ?_
 unfold cH bools
 cases rs<;>cases x<;>cases y
 all_goals
  simp only[outSl,outHp,List.append_nil,List.isEmpty_nil,List.isEmpty_cons,List.cons_append,List.nil_append,List.length_cons,List.length_nil,List.map_cons,List.map_nil]
  (repeat' first|simp (disch:=omega) only[go_sem,ac696,enter]|(apply spl<;>intro h<;>try simp (disch:=omega) only[go_sem,h]))
  all_goals first | omega | skip
  exact postR_of (.inr rfl) (.bool _) rfl rfl rfl
def cmbM (F:List Bool→Bool) (sets:Sets):List Prt × Int:=
 if sets.all setOk=true then (if (partsM (regsM F sets (cutsM sets) [])).length≤256 then (partsM (regsM F sets (cutsM sets) []),0) else ([],32)) else ([],1)
theorem sets_ok {sets:Sets} (h:sets.all setOk=true):(∀ s,s∈sets→∀ p,p∈s→prtOk p=true)∧∀ s,s∈sets→s.length≤256:=
 ⟨fun s hs=>setOk_all (List.all_eq_true.1 h s hs),fun s hs=>setOk_len (List.all_eq_true.1 h s hs)⟩
theorem sum_bound {l:List Nat} {B:Nat} (h : ∀ x,x∈l→x≤B):l.sum≤l.length * B:=by
 induction l with
 | nil=>simp
 | cons x l ih=>
  have h1:=h x (by simp)
  have h2:=ih fun y hy=>h y (List.mem_cons_of_mem _ hy)
  rw[List.sum_cons,List.length_cons,Nat.add_mul]
  omega
theorem combined_run (g:Nat) (F:List Bool→Bool) (sets:Sets) (hF:FunOk sets g F) (hsl : ∀ s,s∈sets→slimP s) (hl:sets.length≤2) (hne:sets≠[]):PRun CKN 690 [.fn g [],.tsl 1 (sets.map encNS)] (encNR (cmbM F sets)):=by
 have hcom:sets.all setOk=true→PRun CKN 695 [.fn g [],.tsl 1 (sets.map encNS)] (.tsl 11 ((partsM (regsM F sets (cutsM sets) [])).map encPrt)):=fun h=>by
  obtain ⟨h1,h2⟩:=sets_ok h
  have h3:(sets.map List.length).sum≤2 * 256:=by
   have:=sum_bound (l:=sets.map List.length) (B:=256) (fun x hx=>by
    obtain ⟨s,hs,rfl⟩:=List.mem_map.1 hx
    exact h2 s hs)
   rw[List.length_map] at this
   have:=Nat.mul_le_mul_right 256 hl
   omega
  exact combine_run g F sets hF h1 (by rw[rawC_len]; omega) (by omega) hne
 refine prun_of ac690 rfl ?_
 unfold encNR cmbM
 (repeat' first|simp (disch:=omega) only[go_sem,ac690,enter,List.length_map]|(apply spl<;>intro h<;>try simp (disch:=omega) only[go_sem,h]))
 all_goals first | omega | skip
 refine loop_of (α:=Nat) (fun k=>{ tmps:=slots 29 [(0,.fn g []),(1,.tsl 1 (sets.map encNS)),(4,.ptr 1 0 0 0),(9,.tsl 1 (sets.map encNS)),(10,.int .i64 sets.length),(11,.int .i64 k)],heap:=[.row 1 [.agg [.snil 11]] false true 0],base:=0 }) (fun k=>k≤sets.length∧(sets.take k).all setOk=true) (fun k=>sets.length-k) 0 rfl ⟨Nat.zero_le _,rfl⟩ ?_
 rintro k ⟨hk,hd⟩
 by_cases hlt:k<sets.length
 ·obtain ⟨s,hsi⟩:=get_some hlt
  have hs2:(sets.map encNS)[k]?=some (.agg [.tsl 11 (s.map encPrt)]):=map_get (g:=encNS) hsi
  have hr:=upK (setI_run s (hsl s (List.mem_of_getElem? hsi)))
  unfold encNS at hr
  cases hb:setOk s with
  | true=>
   rw[hb] at hr
   (repeat' first|simp (disch:=omega) only[go_sem,hs2,List.length_map]|refine pure_of _ (hr) ?_|(apply spl<;>intro h<;>try simp (disch:=omega) only[go_sem,h]))
   all_goals first | omega | skip
   exact ⟨k+1,rfl,⟨hlt,take_succ_all hsi hd hb⟩,by omega⟩
  | false=>
   rw[hb] at hr
   have hn:sets.all setOk=false:=not_all hsi hb
   rw[hn]
   simp only[Bool.false_eq_true,if_false]
   (repeat' first|simp (disch:=omega) only[go_sem,hs2,List.length_map]|refine pure_of _ (hr) ?_|(apply spl<;>intro h<;>try simp (disch:=omega) only[go_sem,h]))
   all_goals (first|omega|rfl)
 ·rw[take_len hlt hk] at hd
  have hc:=hcom hd
  rw[hd]
  simp only[if_true]
  have hpl:(partsM (regsM F sets (cutsM sets) [])).length<2^20:=by
   obtain ⟨h1,h2⟩:=sets_ok hd
   have h3:=(comb_law (F:=F) (cutsM_law h1) h1).2.1
   have h4:=cuts_len (cutsM_law h1)
   have h5:=sum_bound (l:=sets.map List.length) (B:=256) (fun x hx=>by
    obtain ⟨s,hs,rfl⟩:=List.mem_map.1 hx
    exact h2 s hs)
   rw[List.length_map] at h5
   have:=Nat.mul_le_mul_right 256 hl
   omega
  generalize partsM (regsM F sets (cutsM sets) [])=P at *
  by_cases h256:P.length≤256
  ·rw[if_pos h256]
   (repeat' first|simp (disch:=omega) only[go_sem,List.length_map]|refine pure_of _ (hc) ?_|(apply spl<;>intro h<;>try simp (disch:=omega) only[go_sem,h]))
   all_goals (first|omega|rfl)
  ·rw[if_neg h256]
   (repeat' first|simp (disch:=omega) only[go_sem,List.length_map]|refine pure_of _ (hc) ?_|(apply spl<;>intro h<;>try simp (disch:=omega) only[go_sem,h]))
   all_goals (first|omega|rfl)
theorem NotI_run (a:List Prt) (ha:slimP a):PRun CKN 672 [encNS a] (encNR (cmbM notF [a])):=by
 have h:=combined_run 691 notF [a] (not_ok a) (fun s hs=>by rw[List.mem_singleton.1 hs]; exact ha) (by simp) (by simp)
 generalize cmbM notF [a]=r at *
 unfold encNR encNS at *
 refine prun_of ac672 rfl ?_
 (repeat' first|simp (disch:=omega) only[go_sem,ac672,enter,List.map_cons,List.map_nil,markFrom,Blk.mark,List.contains_cons,List.contains_nil,Bool.or_false]|refine pure_of _ (h) ?_|(apply spl<;>intro h<;>try simp (disch:=omega) only[go_sem,h]))
 all_goals (first|omega|rfl)
theorem pair_all {a b:List Prt} {P:List Prt→Prop} (ha:P a) (hb:P b) : ∀ s,s∈[a,b]→P s:=fun s hs=>by
 simp only[List.mem_cons,List.not_mem_nil,or_false] at hs
 rcases hs with rfl | rfl
 ·exact ha
 ·exact hb
theorem AndI_run (a b:List Prt) (ha:slimP a) (hb:slimP b):PRun CKN 675 [encNS a,encNS b] (encNR (cmbM andF [a,b])):=by
 have h:=combined_run 693 andF [a,b] (and_ok a b) (pair_all ha hb) (by simp) (by simp)
 generalize cmbM andF [a,b]=r at *
 unfold encNR encNS at *
 refine prun_of ac675 rfl ?_
 (repeat' first|simp (disch:=omega) only[go_sem,ac675,enter,List.map_cons,List.map_nil,markFrom,Blk.mark,List.contains_cons,List.contains_nil,Bool.or_false]|refine pure_of _ (h) ?_|(apply spl<;>intro h<;>try simp (disch:=omega) only[go_sem,h]))
 all_goals (first|omega|rfl)
theorem OrI_run (a b:List Prt) (ha:slimP a) (hb:slimP b):PRun CKN 676 [encNS a,encNS b] (encNR (cmbM orrF [a,b])):=by
 have h:=combined_run 694 orrF [a,b] (orr_ok a b) (pair_all ha hb) (by simp) (by simp)
 generalize cmbM orrF [a,b]=r at *
 unfold encNR encNS at *
 refine prun_of ac676 rfl ?_
 (repeat' first|simp (disch:=omega) only[go_sem,ac676,enter,List.map_cons,List.map_nil,markFrom,Blk.mark,List.contains_cons,List.contains_nil,Bool.or_false]|refine pure_of _ (h) ?_|(apply spl<;>intro h<;>try simp (disch:=omega) only[go_sem,h]))
 all_goals (first|omega|rfl)
end Ago
