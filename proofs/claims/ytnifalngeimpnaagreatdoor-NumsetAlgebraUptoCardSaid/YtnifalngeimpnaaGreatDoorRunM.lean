/- The law NumsetAlgebra. -/
import Derived.Test.YtnifalngeimpnaaGreatDoorRunL
set_option linter.unusedSimpArgs false
set_option linter.unusedVariables false
set_option maxRecDepth 100000
set_option exponentiation.threshold 2000
set_option maxHeartbeats 16000000
namespace Ago
open Go (IntKind)
section
variable {R:Nat→List AV→Heap→AV→Heap→Prop} {PR:Nat→List AV→AV→Prop}
def allN (R:Nat→List AV→Heap→AV→Heap→Prop) (PR:Nat→List AV→AV→Prop) (s s':St) (ls:List (List AOper)):Prop:=∀ l,l∈ls→awOps R PR l (fun t=>t=s') s
theorem allN_nil {s s':St}:allN R PR s s' []:=fun _ h=>by cases h
theorem allN_cons {s s':St} {l:List AOper} {ls:List (List AOper)} (h : @withStI s ⟨awOps R PR l fun t=>t=s'⟩) (h2:allN R PR s s' ls):allN R PR s s' (l::ls):=fun x hx=>by
 unfold withStI at h
 rcases List.mem_cons.1 hx with rfl | hx
 ·exact h
 ·exact h2 x hx
theorem drawN_of {k:Nat} {l:List AOper} {ls:List (List AOper)} {Q:Ex→St→Prop} {s:St} (s':St) (h:allN R PR (s.keep k) s' (l::ls)) (h3 : @withStI { s' with rb:=0 } ⟨Q .normal⟩):aw R PR (.draw k (l::ls)) Q s:=by
 unfold withStI at h3
 exact ⟨s',by simp,h,h3⟩
end
theorem equal_run {a b:List Prt} (oa:setOk a=true) (ob:setOk b=true):PRun CKN 687 [encNS a,encNS b] (.bool (eqlM a b).1):=by
 have h:=Equal_run a b (ok_slim oa) (ok_slim ob)
 rw[(eqlM_law oa ob).1] at h
 have la:=setOk_len oa
 have lb:=setOk_len ob
 generalize (eqlM a b).1=w at *
 unfold encNS at *
 refine prun_of ac687 rfl ?_
 cases w
 all_goals
  (repeat' first|simp (disch:=omega) only[go_sem,ac687,enter,List.length_map]|refine pure_of _ (h) ?_|(apply spl<;>intro h<;>try simp (disch:=omega) only[go_sem,ac687,enter,List.length_map ,h]))
  all_goals (first|omega|rfl)
theorem eql_iff {a b:List Prt} (oa:setOk a=true) (ob:setOk b=true):(eqlM a b).1=true↔∀ d,decOk d=true→anyIn a d=anyIn b d:=by
 obtain ⟨_,h1,h2⟩:=eqlM_law oa ob
 constructor
 ·exact h1
 ·intro h
  cases hb:(eqlM a b).1 with
  | true=>rfl
  | false=>
   obtain ⟨d,hd,hne⟩:=h2 hb
   exact absurd (h d hd) hne
theorem within_run {a b:List Prt} (oa:setOk a=true) (ob:setOk b=true) (la:a.length≤40) (lb:b.length≤40) : ∃ w,PRun CKN 688 [encNS a,encNS b] (.bool w)∧(w=true↔∀ d,decOk d=true→anyIn a d=true→anyIn b d=true):=by
 have sa:=ok_slim oa
 have sb:=ok_slim ob
 obtain ⟨C,c1,c2,c3,c4⟩:=not_small ob (by omega)
 have sc:=ok_slim c2
 obtain ⟨X,x1,x2,x3,x4⟩:=and_small oa c2 (by omega)
 have sx:=ok_slim x2
 have hn:=NotI_run b sb
 have ha:=AndI_run a C sa sc
 have hp:=upK (empty_run X sx)
 obtain ⟨p1,p2⟩:=pickM_law x2
 rw[c1] at hn
 rw[x1] at ha
 refine ⟨!(pickM X).2,?_,?_⟩
 ·generalize (pickM X).2=w at *
  unfold encNR encNS at *
  refine prun_of ac688 rfl ?_
  cases w
  all_goals
   (repeat' first|simp (disch:=omega) only[go_sem,ac688,enter]|refine pure_of _ (hn) ?_|refine pure_of _ (ha) ?_|refine pure_of _ (hp) ?_|(apply spl<;>intro h<;>try simp (disch:=omega) only[go_sem,ac688,enter ,h]))
   all_goals (first|omega|rfl)
 ·cases hb:(pickM X).2 with
  | true=>
   obtain ⟨g1,g2⟩:=p1 hb
   rw[x4 _ g1,c4 _ g1] at g2
   simp only[Bool.and_eq_true,Bool.not_eq_true'] at g2
   constructor
   ·intro h; cases h
   ·intro h
    have:=h _ g1 g2.1
    rw[g2.2] at this
    cases this
  | false=>
   constructor
   ·intro _ d hd h1
    have h2:=(p2 hb).2 d hd
    rw[x4 d hd,c4 d hd,h1] at h2
    simpa using h2
   ·intro _; rfl
theorem all_any (d:Dec) (hd:decOk d=true):anyIn [allPrt] d=true:=by
 have h:inM allPrt d=true:=by
  unfold inM allPrt
  simp
 unfold anyIn
 simp [h]
theorem all_ok:setOk [allPrt]=true:=by decide
theorem empty_none {X:List Prt} (hX:setOk X=true) (h : ∀ d,decOk d=true→anyIn X d=false):(pickM X).2=false:=by
 cases hb:(pickM X).2 with
 | false=>rfl
 | true=>
  obtain ⟨g1,g2⟩:=(pickM_law hX).1 hb
  rw[h _ g1] at g2
  cases g2
theorem numsetAlgebra_run (a b c:List Prt) (d:Dec) (ha:slimP a) (hb:slimP b) (hc:slimP c) (hs:d.digits.length<2^31):PRun CKN 670 [.agg [.tsl 11 (a.map encPrt),.tsl 11 (b.map encPrt),.tsl 11 (c.map encPrt)],encDec d] (.bool true):=by
 have haw:=awk18
 have va:=upK (setI_run a ha)
 have vb:=upK (setI_run b hb)
 have vc:=upK (setI_run c hc)
 have la:=ha.1
 have lb:=hb.1
 have lc:=hc.1
 refine prun_of ac670 rfl ?_
 unfold encNS encDec at *
 have hch : ∀ x y z:AV,chunk 1 3 [x,y,z]=[x,y,z]:=fun _ _ _=>rfl
 (repeat' first|simp (disch:=omega) only[go_sem,ac670,enter,hch]|(apply spl<;>intro h<;>try simp (disch:=omega) only[go_sem,ac670,enter,hch,h]))
 all_goals first | omega | skip
 refine drawN_of ?s1 ?g1 ?g2
 rotate_left
 case g1=>
  repeat' first | exact allN_nil | refine allN_cons ?_ ?_
  all_goals
   (repeat' first|simp (disch:=omega) only[go_sem,keep_mk,hch]|(apply spl<;>intro h<;>try simp (disch:=omega) only[go_sem,keep_mk,hch,h]))
   all_goals first | rfl | omega
 case g2=>
  cases oa:setOk a with
  | false=>
   rw[oa] at va
   (repeat' first|simp (disch:=omega) only[go_sem]|refine pure_of _ (va) ?_|refine pure_of _ (haw) ?_|(apply spl<;>intro h<;>try simp (disch:=omega) only[go_sem,h]))
   all_goals (first|omega|rfl)
  | true=>
  cases ob:setOk b with
  | false=>
   rw[oa] at va
   rw[ob] at vb
   (repeat' first|simp (disch:=omega) only[go_sem]|refine pure_of _ (va) ?_|refine pure_of _ (vb) ?_|refine pure_of _ (haw) ?_|(apply spl<;>intro h<;>try simp (disch:=omega) only[go_sem,h]))
   all_goals (first|omega|rfl)
  | true=>
  cases oc:setOk c with
  | false=>
   rw[oa] at va
   rw[ob] at vb
   rw[oc] at vc
   (repeat' first|simp (disch:=omega) only[go_sem]|refine pure_of _ (va) ?_|refine pure_of _ (vb) ?_|refine pure_of _ (vc) ?_|refine pure_of _ (haw) ?_|(apply spl<;>intro h<;>try simp (disch:=omega) only[go_sem,h]))
   all_goals (first|omega|rfl)
  | true=>
  have wa:=oa
  have wb:=ob
  have wc:=oc
  rw[wa] at va
  rw[wb] at vb
  rw[wc] at vc
  by_cases h3a:3<a.length
  ·(repeat' first|simp (disch:=omega) only[go_sem,List.length_map,h3a]|refine pure_of _ (va) ?_|refine pure_of _ (vb) ?_|refine pure_of _ (vc) ?_|refine pure_of _ (haw) ?_|(apply spl<;>intro h<;>try simp (disch:=omega) only[go_sem,List.length_map,h3a ,h]))
   all_goals (first|omega|rfl)
  by_cases h3b:3<b.length
  ·(repeat' first|simp (disch:=omega) only[go_sem,List.length_map,h3a,h3b]|refine pure_of _ (va) ?_|refine pure_of _ (vb) ?_|refine pure_of _ (vc) ?_|refine pure_of _ (haw) ?_|(apply spl<;>intro h<;>try simp (disch:=omega) only[go_sem,List.length_map,h3a,h3b ,h]))
   all_goals (first|omega|rfl)
  by_cases h3c:3<c.length
  ·(repeat' first|simp (disch:=omega) only[go_sem,List.length_map,h3a,h3b,h3c]|refine pure_of _ (va) ?_|refine pure_of _ (vb) ?_|refine pure_of _ (vc) ?_|refine pure_of _ (haw) ?_|(apply spl<;>intro h<;>try simp (disch:=omega) only[go_sem,List.length_map,h3a,h3b,h3c ,h]))
   all_goals (first|omega|rfl)
  obtain ⟨NA,na1,na2,na3,na4⟩:=not_small oa (by omega)
  obtain ⟨NB,nb1,nb2,nb3,nb4⟩:=not_small ob (by omega)
  obtain ⟨BK,bk1,bk2,bk3,bk4⟩:=not_small na2 (by omega)
  obtain ⟨AN,an1,an2,an3,an4⟩:=and_small oa ob (by omega)
  obtain ⟨OR,or1,or2,or3,or4⟩:=or_small oa ob (by omega)
  obtain ⟨NN,nn1,nn2,nn3,nn4⟩:=not_small an2 (by omega)
  obtain ⟨SM,sm1,sm2,sm3,sm4⟩:=or_small na2 nb2 (by omega)
  obtain ⟨BC,bc1,bc2,bc3,bc4⟩:=or_small ob oc (by omega)
  obtain ⟨LF,lf1,lf2,lf3,lf4⟩:=and_small oa bc2 (by omega)
  obtain ⟨AC,ac1,ac2,ac3,ac4⟩:=and_small oa oc (by omega)
  obtain ⟨RT,rt1,rt2,rt3,rt4⟩:=or_small an2 ac2 (by omega)
  obtain ⟨AB,ab1,ab2,ab3,ab4⟩:=or_small oa an2 (by omega)
  obtain ⟨NO,no1,no2,no3,no4⟩:=and_small oa na2 (by omega)
  obtain ⟨AL,al1,al2,al3,al4⟩:=or_small oa na2 (by omega)
  have c1:=NotI_run a (ok_slim oa)
  have c2:=NotI_run b (ok_slim ob)
  have c3:=NotI_run NA (ok_slim na2)
  have c4:=AndI_run a b (ok_slim oa) (ok_slim ob)
  have c5:=OrI_run a b (ok_slim oa) (ok_slim ob)
  have c6:=NotI_run AN (ok_slim an2)
  have c7:=OrI_run NA NB (ok_slim na2) (ok_slim nb2)
  have c8:=OrI_run b c (ok_slim ob) (ok_slim oc)
  have c9:=AndI_run a BC (ok_slim oa) (ok_slim bc2)
  have c10:=AndI_run a c (ok_slim oa) (ok_slim oc)
  have c11:=OrI_run AN AC (ok_slim an2) (ok_slim ac2)
  have c12:=OrI_run a AN (ok_slim oa) (ok_slim an2)
  have c13:=AndI_run a NA (ok_slim oa) (ok_slim na2)
  have c14:=OrI_run a NA (ok_slim oa) (ok_slim na2)
  rw[na1] at c1
  rw[nb1] at c2
  rw[bk1] at c3
  rw[an1] at c4
  rw[or1] at c5
  rw[nn1] at c6
  rw[sm1] at c7
  rw[bc1] at c8
  rw[lf1] at c9
  rw[ac1] at c10
  rw[rt1] at c11
  rw[ab1] at c12
  rw[no1] at c13
  rw[al1] at c14
  have q1:=equal_run bk2 oa
  have q2:=equal_run nn2 sm2
  have q3:=equal_run lf2 rt2
  have q4:=equal_run ab2 oa
  have q5:=equal_run al2 all_ok
  have q6:=equal_run or2 ob
  have q7:=equal_run an2 oa
  rw[(eql_iff bk2 oa).2 fun d hd=>by rw[bk4 d hd,na4 d hd]; cases anyIn a d<;>rfl] at q1
  rw[(eql_iff nn2 sm2).2 fun d hd=>by rw[nn4 d hd,an4 d hd,sm4 d hd,na4 d hd,nb4 d hd]; cases anyIn a d<;>cases anyIn b d<;>rfl] at q2
  rw[(eql_iff lf2 rt2).2 fun d hd=>by rw[lf4 d hd,bc4 d hd,rt4 d hd,an4 d hd,ac4 d hd]; cases anyIn a d<;>cases anyIn b d<;>cases anyIn c d<;>rfl] at q3
  rw[(eql_iff ab2 oa).2 fun d hd=>by rw[ab4 d hd,an4 d hd]; cases anyIn a d<;>cases anyIn b d<;>rfl] at q4
  rw[(eql_iff al2 all_ok).2 fun d hd=>by rw[al4 d hd,na4 d hd,all_any d hd]; cases anyIn a d<;>rfl] at q5
  have hem:=upK (empty_run NO (ok_slim no2))
  rw[empty_none no2 fun d hd=>by rw[no4 d hd,na4 d hd]; cases anyIn a d<;>rfl] at hem
  have hall:=upK AllI_run
  obtain ⟨w,r8,w8⟩:=within_run oa ob (by omega) (by omega)
  have s6:(eqlM OR b).1=w:=by
   have h1:=eql_iff or2 ob
   have h2:(∀ d,decOk d=true→anyIn OR d=anyIn b d)↔∀ d,decOk d=true→anyIn a d=true→anyIn b d=true:=by
    constructor
    ·intro h d hd h3
     have:=h d hd
     rw[or4 d hd,h3] at this
     simpa using this.symm
    ·intro h d hd
     rw[or4 d hd]
     cases h4:anyIn a d with
     | false=>rfl
     | true=>rw[h d hd h4]; rfl
   rw[h2,←w8] at h1
   cases h5:(eqlM OR b).1<;>cases w<;>simp [h5] at h1 ⊢
  have s7:(eqlM AN a).1=w:=by
   have h1:=eql_iff an2 oa
   have h2:(∀ d,decOk d=true→anyIn AN d=anyIn a d)↔∀ d,decOk d=true→anyIn a d=true→anyIn b d=true:=by
    constructor
    ·intro h d hd h3
     have:=h d hd
     rw[an4 d hd,h3] at this
     simpa using this
    ·intro h d hd
     rw[an4 d hd]
     cases h4:anyIn a d with
     | false=>rfl
     | true=>rw[h d hd h4]; rfl
   rw[h2,←w8] at h1
   cases h5:(eqlM AN a).1<;>cases w<;>simp [h5] at h1 ⊢
  rw[s6] at q6
  rw[s7] at q7
  have ka:=upK (HasI_run a d ha hs)
  have kb:=upK (HasI_run b d hb hs)
  have hsub:w=true→hasM a d=true→hasM b d=true:=fun h1 h2=>by
   cases hd:decOk d with
   | false=>rw[hasM_none hd] at h2; cases h2
   | true=>
    rw[hasM_any oa hd] at h2
    rw[hasM_any ob hd]
    exact w8.1 h1 d hd h2
  clear w8 s6 s7 na4 nb4 bk4 an4 or4 nn4 sm4 bc4 lf4 ac4 rt4 ab4 no4 al4 na3 nb3 bk3 an3 or3 nn3 sm3 bc3 lf3 ac3 rt3 ab3 no3 al3 na1 nb1 bk1 an1 or1 nn1 sm1 bc1 lf1 ac1 rt1 ab1 no1 al1
  generalize hasM a d=k1 at *
  generalize hasM b d=k2 at *
  unfold encNR encNS encDec at *
  simp only[Bool.not_false] at hem
  cases w with
  | true=>
   cases k1 with
   | true=>
    have hk2:=hsub rfl rfl
    subst hk2
    (repeat' first|simp (disch:=omega) only[go_sem,List.length_map,h3a,h3b,h3c]|refine pure_of _ (va) ?_|refine pure_of _ (vb) ?_|refine pure_of _ (vc) ?_|refine pure_of _ (c1) ?_|refine pure_of _ (c2) ?_|refine pure_of _ (c3) ?_|refine pure_of _ (c4) ?_|refine pure_of _ (c5) ?_|refine pure_of _ (c6) ?_|refine pure_of _ (c7) ?_|refine pure_of _ (c8) ?_|refine pure_of _ (c9) ?_|refine pure_of _ (c10) ?_|refine pure_of _ (c11) ?_|refine pure_of _ (c12) ?_|refine pure_of _ (c13) ?_|refine pure_of _ (c14) ?_|refine pure_of _ (q1) ?_|refine pure_of _ (q2) ?_|refine pure_of _ (q3) ?_|refine pure_of _ (q4) ?_|refine pure_of _ (q5) ?_|refine pure_of _ (q6) ?_|refine pure_of _ (q7) ?_|refine pure_of _ (hem) ?_|refine pure_of _ (hall) ?_|refine pure_of _ (r8) ?_|refine pure_of _ (ka) ?_|refine pure_of _ (kb) ?_|refine pure_of _ (haw) ?_|(apply spl<;>intro h<;>try simp (disch:=omega) only[go_sem,List.length_map,h3a,h3b,h3c ,h]))
    all_goals (first|omega|rfl)
   | false=>
    (repeat' first|simp (disch:=omega) only[go_sem,List.length_map,h3a,h3b,h3c]|refine pure_of _ (va) ?_|refine pure_of _ (vb) ?_|refine pure_of _ (vc) ?_|refine pure_of _ (c1) ?_|refine pure_of _ (c2) ?_|refine pure_of _ (c3) ?_|refine pure_of _ (c4) ?_|refine pure_of _ (c5) ?_|refine pure_of _ (c6) ?_|refine pure_of _ (c7) ?_|refine pure_of _ (c8) ?_|refine pure_of _ (c9) ?_|refine pure_of _ (c10) ?_|refine pure_of _ (c11) ?_|refine pure_of _ (c12) ?_|refine pure_of _ (c13) ?_|refine pure_of _ (c14) ?_|refine pure_of _ (q1) ?_|refine pure_of _ (q2) ?_|refine pure_of _ (q3) ?_|refine pure_of _ (q4) ?_|refine pure_of _ (q5) ?_|refine pure_of _ (q6) ?_|refine pure_of _ (q7) ?_|refine pure_of _ (hem) ?_|refine pure_of _ (hall) ?_|refine pure_of _ (r8) ?_|refine pure_of _ (ka) ?_|refine pure_of _ (kb) ?_|refine pure_of _ (haw) ?_|(apply spl<;>intro h<;>try simp (disch:=omega) only[go_sem,List.length_map,h3a,h3b,h3c ,h]))
    all_goals (first|omega|rfl)
  | false=>
   (repeat' first|simp (disch:=omega) only[go_sem,List.length_map,h3a,h3b,h3c]|refine pure_of _ (va) ?_|refine pure_of _ (vb) ?_|refine pure_of _ (vc) ?_|refine pure_of _ (c1) ?_|refine pure_of _ (c2) ?_|refine pure_of _ (c3) ?_|refine pure_of _ (c4) ?_|refine pure_of _ (c5) ?_|refine pure_of _ (c6) ?_|refine pure_of _ (c7) ?_|refine pure_of _ (c8) ?_|refine pure_of _ (c9) ?_|refine pure_of _ (c10) ?_|refine pure_of _ (c11) ?_|refine pure_of _ (c12) ?_|refine pure_of _ (c13) ?_|refine pure_of _ (c14) ?_|refine pure_of _ (q1) ?_|refine pure_of _ (q2) ?_|refine pure_of _ (q3) ?_|refine pure_of _ (q4) ?_|refine pure_of _ (q5) ?_|refine pure_of _ (q6) ?_|refine pure_of _ (q7) ?_|refine pure_of _ (hem) ?_|refine pure_of _ (hall) ?_|refine pure_of _ (r8) ?_|refine pure_of _ (ka) ?_|refine pure_of _ (kb) ?_|refine pure_of _ (haw) ?_|(apply spl<;>intro h<;>try simp (disch:=omega) only[go_sem,List.length_map,h3a,h3b,h3c ,h]))
   all_goals (first|omega|rfl)
end Ago
