/- Parts of sets of numbers as values,on both sides. -/
import Derived.Test.YtahoajoopdphhaaGreatDoorRunM
set_option linter.unusedSimpArgs false
set_option linter.unusedVariables false
set_option maxRecDepth 100000
set_option maxHeartbeats 4000000
namespace Ago
open Go (IntKind)
section
variable {R:Nat→List AV→Heap→AV→Heap→Prop} {PR:Nat→List AV→AV→Prop}
def qvB (R:Nat→List AV→Heap→AV→Heap→Prop) (PR:Nat→List AV→AV→Prop) (s s':St) (ls:List (List AOper)):Prop:=∀ l,l∈ls→q1l R PR l (fun t=>t=s') s
theorem q1X {s s':St}:qvB R PR s s' []:=fun _ h=>by cases h
theorem q1C {s s':St} {l:List AOper} {ls:List (List AOper)} (h : @q19 s ⟨q1l R PR l fun t=>t=s'⟩) (h2:qvB R PR s s' ls):qvB R PR s s' (l::ls):=fun x hx=>by
 unfold q19 at h
 rcases KA.1 hx with rfl | hx
 ·exact h
 ·exact h2 x hx
theorem q1Z {k:Nat} {l:List AOper} {ls:List (List AOper)} {Q:Ex→St→Prop} {s:St} (s':St) (h:qvB R PR (s.keep k) s' (l::ls)) (h3 : @q19 { s' with rb:=0 } ⟨Q .normal⟩):aw R PR (.draw k (l::ls)) Q s:=by
 unfold q19 at h3
 exact ⟨s',by simp,h,h3⟩
end
def qoZ (b:Bnd) (c o:List UInt8):List (List UInt8 × V):=if b.set then [(if b.opn then o else c,q5t b.num)] else []
def qrq (s:Int):List (List UInt8 × V):=if s=1 then [([115,111,114,116],q1v [119,104,111,108,101])] else if s=2 then [([115,111,114,116],q1v [102,114,97,99,116,105,111,110])] else []
def q23 (p:Prt):V:=qlN (qoZ p.lo [102,114,111,109] [97,98,111,118,101]++qoZ p.hi [116,111] [98,101,108,111,119]++qrq p.sort)
theorem q6J (k:List UInt8) (d:Dec):q0J (k,q5t d) = .agg [.str k,.int .i64 2,.bool false,.bool d.neg,.str d.digits,.int .i64 d.exp,.int .i64 0,.int .i64 0,.int .i64 0,.int .i64 0,.str [],.tsl 1 [],.tsl 13 [],.tsl 14 []]:=by
 rw[q17]; rfl
theorem q4f (k s:List UInt8):q0J (k,q1v s) = .agg [.str k,.int .i64 4,.bool false,.bool false,.str [],.int .i64 0,.int .i64 0,.int .i64 0,.int .i64 0,.int .i64 0,.str s,.tsl 1 [],.tsl 13 [],.tsl 14 []]:=by
 rw[q17]; rfl
theorem qgN (d:Dec):q0m CT 128 [.agg [.bool d.neg,.str d.digits,.int .i64 d.exp]] (.agg [.int .i64 2,.bool false,.bool d.neg,.str d.digits,.int .i64 d.exp,.int .i64 0,.int .i64 0,.int .i64 0,.int .i64 0,.str [],.tsl 1 [],.tsl 13 [],.tsl 14 []]):=by
 have h:=upT (upS (qlz d))
 rw[q7i] at h
 exact h
theorem qa9 (d:Dec):q0m CT 548 [.agg [.bool d.neg,.str d.digits,.int .i64 d.exp]] (.agg [.int .i64 2,.bool false,.bool d.neg,.str d.digits,.int .i64 d.exp,.int .i64 0,.int .i64 0,.int .i64 0,.int .i64 0,.str [],.tsl 1 [],.tsl 13 [],.tsl 14 []]):=by
 refine q05 qiI rfl ?_
 (repeat' first|simp (disch:=omega) only[go_sem,qiI,enter])
 all_goals first | rfl
theorem qfL (p:Prt):q0m CT 530 [q0p p] (q0g (q23 p)):=by
 have t1:=q2r [119,104,111,108,101]
 have t2:=q2r [102,114,97,99,116,105,111,110]
 have n1:=qa9 p.lo.num
 have n2:=qa9 p.hi.num
 rw[q3e] at t1 t2
 unfold q23 qoZ qrq
 rw[q7t]
 by_cases s1:p.sort=1
 ·cases h1:p.lo.set<;>cases h2:p.lo.opn<;>cases h3:p.hi.set<;>cases h4:p.hi.opn
  all_goals
   simp only[s1,if_true,Km,if_false,Kh,Kj,Kf,Kd,Kl,q6J,q4f]
   refine q05 qdz rfl ?_
   (repeat' first|simp (disch:=omega) only[go_sem,qdz,enter,q0p,h1,h2,h3,h4,s1,List.length_cons,List.length_nil]|refine q00 _ (t1) ?_|refine q00 _ (n1) ?_|refine q00 _ (n2) ?_)
   all_goals first | rfl
 ·have s2:(if p.sort=1 then [([115,111,114,116],q1v [119,104,111,108,101])] else if p.sort=2 then [([115,111,114,116],q1v [102,114,97,99,116,105,111,110])] else [])=(if p.sort=2 then [(([115,111,114,116]:List UInt8),q1v [102,114,97,99,116,105,111,110])] else []):=if_neg s1
  rw[s2]
  by_cases s3:p.sort=2
  ·cases h1:p.lo.set<;>cases h2:p.lo.opn<;>cases h3:p.hi.set<;>cases h4:p.hi.opn
   all_goals
    simp only[s3,if_true,Km,if_false,Kh,Kj,Kf,Kd,Kl,q6J,q4f]
    refine q05 qdz rfl ?_
    (repeat' first|simp (disch:=omega) only[go_sem,qdz,enter,q0p,h1,h2,h3,h4,s3,List.length_cons,List.length_nil]|refine q00 _ (t2) ?_|refine q00 _ (n1) ?_|refine q00 _ (n2) ?_)
    all_goals first | rfl
  ·cases h1:p.lo.set<;>cases h2:p.lo.opn<;>cases h3:p.hi.set<;>cases h4:p.hi.opn
   all_goals
    simp only[s3,if_true,Km,if_false,Kh,Kj,Kf,Kd,Kl,q6J,q4f]
    refine q05 qdz rfl ?_
    (repeat' first|simp (disch:=omega) only[go_sem,qdz,enter,q0p,h1,h2,h3,h4,s1,s3,List.length_cons,List.length_nil]|refine q00 _ (n1) ?_|refine q00 _ (n2) ?_)
    all_goals first | rfl
end Ago
set_option maxRecDepth 100000
set_option maxHeartbeats 4000000
namespace Ago
open Go (IntKind)
def zV:AV:=.agg [.int .i64 0,.bool false,.bool false,.str [],.int .i64 0,.int .i64 0,.int .i64 0,.int .i64 0,.int .i64 0,.str [],.snil 1,.snil 13,.snil 14]
def mpV (f:AV):AV:=.agg [.int .i64 7,.bool false,.bool false,.str [],.int .i64 0,.int .i64 0,.int .i64 0,.int .i64 0,.int .i64 0,.str [],.snil 1,.snil 13,f]
def qeW (b:Bnd):AV:=.agg [.bool b.set,.bool b.num.neg,.str b.num.digits,.int .i64 b.num.exp,.bool b.opn]
def fdN (k:List UInt8) (d:Dec):AV:=.agg [.str k,.int .i64 2,.bool false,.bool d.neg,.str d.digits,.int .i64 d.exp,.int .i64 0,.int .i64 0,.int .i64 0,.int .i64 0,.str [],.tsl 1 [],.tsl 13 [],.tsl 14 []]
theorem qhu (P:AV) (b:Bnd) (c o:List UInt8):q1z CT 605 [qeW b,.str c,.str o,.ptr 13 2 0 0] [.row 11 [P] false true 0,.row 13 [zV] false true 1,.row 13 [mpV (.snil 14)] false true 2] (.tup [])
  (if b.set then [.row 11 [P] false true 0,.row 13 [zV] false true 1,.row 13 [mpV (.sref 14 3 0 1)] false false 2,.row 14 [fdN (if b.opn then o else c) b.num] false false 3] else [.row 11 [P] false true 0,.row 13 [zV] false true 1,.row 13 [mpV (.snil 14)] false true 2]):=by
 have n1:=qgN b.num
 unfold qeW mpV zV fdN
 cases h1:b.set with
 | false=>
  refine q1s qbj rfl ?_
  rw[if_neg (by simp)]
  (repeat' first|simp (disch:=omega) only[go_sem,qbj,enter,h1,List.length_cons,List.length_nil]|(apply spl<;>intro h<;>try simp (disch:=omega) only[go_sem,h]))
  all_goals first | exact q1D (.inl rfl) (.tup []) rfl rfl rfl | exact q1D (.inr rfl) (.tup []) rfl rfl rfl
 | true=>
  rw[if_pos rfl]
  cases h2:b.opn
  all_goals
   refine q1s qbj rfl ?_
   (repeat' first|simp (disch:=omega) only[go_sem,qbj,enter,h1,h2,List.length_cons,List.length_nil]|refine q00 _ (n1) ?_|(apply spl<;>intro h<;>try simp (disch:=omega) only[go_sem,h]))
   refine q1Z ?_ ?_ ?_
   rotate_left
   ·repeat' first | exact q1X | refine q1C ?_ ?_
    all_goals
     (repeat' first|simp (disch:=omega) only[go_sem,q20,List.length_cons,List.length_nil]|refine q00 _ (n1) ?_|(apply spl<;>intro h<;>try simp (disch:=omega) only[go_sem,h]))
     all_goals first | rfl
   ·(repeat' first|simp (disch:=omega) only[go_sem,List.length_cons,List.length_nil]|(apply spl<;>intro h<;>try simp (disch:=omega) only[go_sem,h]))
    all_goals first | exact q1D (.inl rfl) (.tup []) rfl rfl rfl | exact q1D (.inr rfl) (.tup []) rfl rfl rfl
theorem qnx (P:AV) (k1:List UInt8) (d1:Dec) (b:Bnd) (c o:List UInt8):q1z CT 605 [qeW b,.str c,.str o,.ptr 13 2 0 0] [.row 11 [P] false true 0,.row 13 [zV] false true 1,.row 13 [mpV (.sref 14 3 0 1)] false false 2,.row 14 [fdN k1 d1] false false 3] (.tup [])
  (if b.set then [.row 11 [P] false true 0,.row 13 [zV] false true 1,.row 13 [mpV (.sref 14 4 0 2)] false false 2,.gone,.row 14 [fdN k1 d1,fdN (if b.opn then o else c) b.num] false false 3] else [.row 11 [P] false true 0,.row 13 [zV] false true 1,.row 13 [mpV (.sref 14 3 0 1)] false false 2,.row 14 [fdN k1 d1] false false 3]):=by
 have n1:=qgN b.num
 unfold qeW mpV zV fdN
 cases h1:b.set with
 | false=>
  refine q1s qbj rfl ?_
  rw[if_neg (by simp)]
  (repeat' first|simp (disch:=omega) only[go_sem,qbj,enter,h1,List.length_cons,List.length_nil]|(apply spl<;>intro h<;>try simp (disch:=omega) only[go_sem,h]))
  all_goals first | exact q1D (.inl rfl) (.tup []) rfl rfl rfl | exact q1D (.inr rfl) (.tup []) rfl rfl rfl
 | true=>
  rw[if_pos rfl]
  cases h2:b.opn
  all_goals
   refine q1s qbj rfl ?_
   (repeat' first|simp (disch:=omega) only[go_sem,qbj,enter,h1,h2,List.length_cons,List.length_nil]|refine q00 _ (n1) ?_|(apply spl<;>intro h<;>try simp (disch:=omega) only[go_sem,h]))
   refine q1Z ?_ ?_ ?_
   rotate_left
   ·repeat' first | exact q1X | refine q1C ?_ ?_
    all_goals
     (repeat' first|simp (disch:=omega) only[go_sem,q20,List.length_cons,List.length_nil]|refine q00 _ (n1) ?_|(apply spl<;>intro h<;>try simp (disch:=omega) only[go_sem,h]))
     all_goals first | rfl
   ·(repeat' first|simp (disch:=omega) only[go_sem,List.length_cons,List.length_nil]|(apply spl<;>intro h<;>try simp (disch:=omega) only[go_sem,h]))
    all_goals first | exact q1D (.inl rfl) (.tup []) rfl rfl rfl | exact q1D (.inr rfl) (.tup []) rfl rfl rfl
theorem qnn (p:Prt):q0m CT 571 [q0p p] (q0g (q23 p)):=by
 have t1:=q4v [119,104,111,108,101]
 have t2:=q4v [102,114,97,99,116,105,111,110]
 rw[q3e] at t1 t2
 have a1:=qhu (q0p p) p.lo [102,114,111,109] [97,98,111,118,101]
 have a2:=qhu (q0p p) p.hi [116,111] [98,101,108,111,119]
 have a3:=qnx (q0p p) (if p.lo.opn then [97,98,111,118,101] else [102,114,111,109]) p.lo.num p.hi [116,111] [98,101,108,111,119]
 unfold q23 qoZ qrq
 rw[q7t]
 cases h1:p.lo.set with
 | false=>
  cases h3:p.hi.set with
  | false=>
   by_cases s1:p.sort=1
   ·rw[if_neg (show ¬ p.lo.set=true by rw[h1]; simp)] at a1
    rw[if_neg (show ¬ p.hi.set=true by rw[h3]; simp)] at a2
    simp only[h1,h3,s1,if_true,Km,if_false,Kf,Kh,Kj,Kd,Kl,q6J,q4f]
    unfold qeW mpV zV q0p at a1 a2
    simp only[h1,h3,s1] at a1 a2
    generalize (if p.lo.opn=true then ([97,98,111,118,101]:List UInt8) else [102,114,111,109])=K1 at *
    generalize (if p.hi.opn=true then ([98,101,108,111,119]:List UInt8) else [116,111])=K2 at *
    refine q05 q3U rfl ?_
    (repeat' first|simp (disch:=omega) only[go_sem,q3U,enter,q0p,h1,h3,s1,List.length_cons,List.length_nil]|(refine q0b _ _ a1 ?_)|(refine q0b _ _ a2 ?_)|(apply spl<;>intro h<;>try simp (disch:=omega) only[go_sem,h]))
    refine q1Z ?_ ?_ ?_
    rotate_left
    ·repeat' first | exact q1X | refine q1C ?_ ?_
     all_goals
      (repeat' first|simp (disch:=omega) only[go_sem,q20,List.length_cons,List.length_nil]|refine q00 _ (t1) ?_|(apply spl<;>intro h<;>try simp (disch:=omega) only[go_sem,h]))
      all_goals first | rfl
    ·(repeat' first|simp (disch:=omega) only[go_sem,List.length_cons,List.length_nil])
     all_goals first | rfl
   ·by_cases s3:p.sort=2
    ·rw[if_neg (show ¬ p.lo.set=true by rw[h1]; simp)] at a1
     rw[if_neg (show ¬ p.hi.set=true by rw[h3]; simp)] at a2
     simp only[h1,h3,s3,if_true,Km,if_false,Kf,Kh,Kj,Kd,Kl,q6J,q4f]
     unfold qeW mpV zV q0p at a1 a2
     simp only[h1,h3,s3] at a1 a2
     generalize (if p.lo.opn=true then ([97,98,111,118,101]:List UInt8) else [102,114,111,109])=K1 at *
     generalize (if p.hi.opn=true then ([98,101,108,111,119]:List UInt8) else [116,111])=K2 at *
     refine q05 q3U rfl ?_
     (repeat' first|simp (disch:=omega) only[go_sem,q3U,enter,q0p,h1,h3,s3,List.length_cons,List.length_nil]|(refine q0b _ _ a1 ?_)|(refine q0b _ _ a2 ?_)|(apply spl<;>intro h<;>try simp (disch:=omega) only[go_sem,h]))
     refine q1Z ?_ ?_ ?_
     rotate_left
     ·repeat' first | exact q1X | refine q1C ?_ ?_
      all_goals
       (repeat' first|simp (disch:=omega) only[go_sem,q20,List.length_cons,List.length_nil]|refine q00 _ (t2) ?_|(apply spl<;>intro h<;>try simp (disch:=omega) only[go_sem,h]))
       all_goals first | rfl
     ·(repeat' first|simp (disch:=omega) only[go_sem,List.length_cons,List.length_nil]|(apply spl<;>intro h<;>try simp (disch:=omega) only[go_sem,h]))
      all_goals first | rfl
    ·rw[if_neg (show ¬ p.lo.set=true by rw[h1]; simp)] at a1
     rw[if_neg (show ¬ p.hi.set=true by rw[h3]; simp)] at a2
     simp only[h1,h3,s1,s3,if_true,Km,if_false,Kf,Kh,Kj,Kd,Kl,q6J,q4f]
     unfold qeW mpV zV q0p at a1 a2
     simp only[h1,h3] at a1 a2
     generalize (if p.lo.opn=true then ([97,98,111,118,101]:List UInt8) else [102,114,111,109])=K1 at *
     generalize (if p.hi.opn=true then ([98,101,108,111,119]:List UInt8) else [116,111])=K2 at *
     refine q05 q3U rfl ?_
     (repeat' first|simp (disch:=omega) only[go_sem,q3U,enter,q0p,h1,h3,s1,s3,List.length_cons,List.length_nil]|(refine q0b _ _ a1 ?_)|(refine q0b _ _ a2 ?_))
     all_goals first | rfl
  | true=>
   by_cases s1:p.sort=1
   ·rw[if_neg (show ¬ p.lo.set=true by rw[h1]; simp)] at a1
    rw[if_pos h3] at a2
    simp only[h1,h3,s1,if_true,Km,if_false,Kf,Kh,Kj,Kd,Kl,q6J,q4f]
    unfold qeW mpV zV q0p at a1 a2
    try unfold fdN at a1
    try unfold fdN at a2
    simp only[h1,h3,s1] at a1 a2
    generalize (if p.lo.opn=true then ([97,98,111,118,101]:List UInt8) else [102,114,111,109])=K1 at *
    generalize (if p.hi.opn=true then ([98,101,108,111,119]:List UInt8) else [116,111])=K2 at *
    refine q05 q3U rfl ?_
    (repeat' first|simp (disch:=omega) only[go_sem,q3U,enter,q0p,h1,h3,s1,List.length_cons,List.length_nil]|(refine q0b _ _ a1 ?_)|(refine q0b _ _ a2 ?_)|(apply spl<;>intro h<;>try simp (disch:=omega) only[go_sem,h]))
    refine q1Z ?_ ?_ ?_
    rotate_left
    ·repeat' first | exact q1X | refine q1C ?_ ?_
     all_goals
      (repeat' first|simp (disch:=omega) only[go_sem,q20,List.length_cons,List.length_nil]|refine q00 _ (t1) ?_|(apply spl<;>intro h<;>try simp (disch:=omega) only[go_sem,h]))
      all_goals first | rfl
    ·(repeat' first|simp (disch:=omega) only[go_sem,List.length_cons,List.length_nil])
     all_goals first | rfl
   ·by_cases s3:p.sort=2
    ·rw[if_neg (show ¬ p.lo.set=true by rw[h1]; simp)] at a1
     rw[if_pos h3] at a2
     simp only[h1,h3,s3,if_true,Km,if_false,Kf,Kh,Kj,Kd,Kl,q6J,q4f]
     unfold qeW mpV zV q0p at a1 a2
     try unfold fdN at a1
     try unfold fdN at a2
     simp only[h1,h3,s3] at a1 a2
     generalize (if p.lo.opn=true then ([97,98,111,118,101]:List UInt8) else [102,114,111,109])=K1 at *
     generalize (if p.hi.opn=true then ([98,101,108,111,119]:List UInt8) else [116,111])=K2 at *
     refine q05 q3U rfl ?_
     (repeat' first|simp (disch:=omega) only[go_sem,q3U,enter,q0p,h1,h3,s3,List.length_cons,List.length_nil]|(refine q0b _ _ a1 ?_)|(refine q0b _ _ a2 ?_)|(apply spl<;>intro h<;>try simp (disch:=omega) only[go_sem,h]))
     refine q1Z ?_ ?_ ?_
     rotate_left
     ·repeat' first | exact q1X | refine q1C ?_ ?_
      all_goals
       (repeat' first|simp (disch:=omega) only[go_sem,q20,List.length_cons,List.length_nil]|refine q00 _ (t2) ?_|(apply spl<;>intro h<;>try simp (disch:=omega) only[go_sem,h]))
       all_goals first | rfl
     ·(repeat' first|simp (disch:=omega) only[go_sem,List.length_cons,List.length_nil]|(apply spl<;>intro h<;>try simp (disch:=omega) only[go_sem,h]))
      all_goals first | rfl
    ·rw[if_neg (show ¬ p.lo.set=true by rw[h1]; simp)] at a1
     rw[if_pos h3] at a2
     simp only[h1,h3,s1,s3,if_true,Km,if_false,Kf,Kh,Kj,Kd,Kl,q6J,q4f]
     unfold qeW mpV zV q0p at a1 a2
     try unfold fdN at a1
     try unfold fdN at a2
     simp only[h1,h3] at a1 a2
     generalize (if p.lo.opn=true then ([97,98,111,118,101]:List UInt8) else [102,114,111,109])=K1 at *
     generalize (if p.hi.opn=true then ([98,101,108,111,119]:List UInt8) else [116,111])=K2 at *
     refine q05 q3U rfl ?_
     (repeat' first|simp (disch:=omega) only[go_sem,q3U,enter,q0p,h1,h3,s1,s3,List.length_cons,List.length_nil]|(refine q0b _ _ a1 ?_)|(refine q0b _ _ a2 ?_))
     all_goals first | rfl
 | true=>
  cases h3:p.hi.set with
  | false=>
   by_cases s1:p.sort=1
   ·rw[if_pos h1] at a1
    rw[if_neg (show ¬ p.hi.set=true by rw[h3]; simp)] at a3
    simp only[h1,h3,s1,if_true,Km,if_false,Kf,Kh,Kj,Kd,Kl,q6J,q4f]
    unfold qeW mpV zV q0p at a1 a3
    try unfold fdN at a1
    try unfold fdN at a3
    simp only[h1,h3,s1] at a1 a3
    generalize (if p.lo.opn=true then ([97,98,111,118,101]:List UInt8) else [102,114,111,109])=K1 at *
    generalize (if p.hi.opn=true then ([98,101,108,111,119]:List UInt8) else [116,111])=K2 at *
    refine q05 q3U rfl ?_
    (repeat' first|simp (disch:=omega) only[go_sem,q3U,enter,q0p,h1,h3,s1,List.length_cons,List.length_nil]|(refine q0b _ _ a1 ?_)|(refine q0b _ _ a3 ?_)|(apply spl<;>intro h<;>try simp (disch:=omega) only[go_sem,h]))
    refine q1Z ?_ ?_ ?_
    rotate_left
    ·repeat' first | exact q1X | refine q1C ?_ ?_
     all_goals
      (repeat' first|simp (disch:=omega) only[go_sem,q20,List.length_cons,List.length_nil]|refine q00 _ (t1) ?_|(apply spl<;>intro h<;>try simp (disch:=omega) only[go_sem,h]))
      all_goals first | rfl
    ·(repeat' first|simp (disch:=omega) only[go_sem,List.length_cons,List.length_nil])
     all_goals first | rfl
   ·by_cases s3:p.sort=2
    ·rw[if_pos h1] at a1
     rw[if_neg (show ¬ p.hi.set=true by rw[h3]; simp)] at a3
     simp only[h1,h3,s3,if_true,Km,if_false,Kf,Kh,Kj,Kd,Kl,q6J,q4f]
     unfold qeW mpV zV q0p at a1 a3
     try unfold fdN at a1
     try unfold fdN at a3
     simp only[h1,h3,s3] at a1 a3
     generalize (if p.lo.opn=true then ([97,98,111,118,101]:List UInt8) else [102,114,111,109])=K1 at *
     generalize (if p.hi.opn=true then ([98,101,108,111,119]:List UInt8) else [116,111])=K2 at *
     refine q05 q3U rfl ?_
     (repeat' first|simp (disch:=omega) only[go_sem,q3U,enter,q0p,h1,h3,s3,List.length_cons,List.length_nil]|(refine q0b _ _ a1 ?_)|(refine q0b _ _ a3 ?_)|(apply spl<;>intro h<;>try simp (disch:=omega) only[go_sem,h]))
     refine q1Z ?_ ?_ ?_
     rotate_left
     ·repeat' first | exact q1X | refine q1C ?_ ?_
      all_goals
       (repeat' first|simp (disch:=omega) only[go_sem,q20,List.length_cons,List.length_nil]|refine q00 _ (t2) ?_|(apply spl<;>intro h<;>try simp (disch:=omega) only[go_sem,h]))
       all_goals first | rfl
     ·(repeat' first|simp (disch:=omega) only[go_sem,List.length_cons,List.length_nil]|(apply spl<;>intro h<;>try simp (disch:=omega) only[go_sem,h]))
      all_goals first | rfl
    ·rw[if_pos h1] at a1
     rw[if_neg (show ¬ p.hi.set=true by rw[h3]; simp)] at a3
     simp only[h1,h3,s1,s3,if_true,Km,if_false,Kf,Kh,Kj,Kd,Kl,q6J,q4f]
     unfold qeW mpV zV q0p at a1 a3
     try unfold fdN at a1
     try unfold fdN at a3
     simp only[h1,h3] at a1 a3
     generalize (if p.lo.opn=true then ([97,98,111,118,101]:List UInt8) else [102,114,111,109])=K1 at *
     generalize (if p.hi.opn=true then ([98,101,108,111,119]:List UInt8) else [116,111])=K2 at *
     refine q05 q3U rfl ?_
     (repeat' first|simp (disch:=omega) only[go_sem,q3U,enter,q0p,h1,h3,s1,s3,List.length_cons,List.length_nil]|(refine q0b _ _ a1 ?_)|(refine q0b _ _ a3 ?_))
     all_goals first | rfl
  | true=>
   by_cases s1:p.sort=1
   ·rw[if_pos h1] at a1
    rw[if_pos h3] at a3
    simp only[h1,h3,s1,if_true,Km,if_false,Kf,Kh,Kj,Kd,Kl,q6J,q4f]
    unfold qeW mpV zV q0p at a1 a3
    try unfold fdN at a1
    try unfold fdN at a3
    simp only[h1,h3,s1] at a1 a3
    generalize (if p.lo.opn=true then ([97,98,111,118,101]:List UInt8) else [102,114,111,109])=K1 at *
    generalize (if p.hi.opn=true then ([98,101,108,111,119]:List UInt8) else [116,111])=K2 at *
    refine q05 q3U rfl ?_
    (repeat' first|simp (disch:=omega) only[go_sem,q3U,enter,q0p,h1,h3,s1,List.length_cons,List.length_nil]|(refine q0b _ _ a1 ?_)|(refine q0b _ _ a3 ?_)|(apply spl<;>intro h<;>try simp (disch:=omega) only[go_sem,h]))
    refine q1Z ?_ ?_ ?_
    rotate_left
    ·repeat' first | exact q1X | refine q1C ?_ ?_
     all_goals
      (repeat' first|simp (disch:=omega) only[go_sem,q20,List.length_cons,List.length_nil]|refine q00 _ (t1) ?_|(apply spl<;>intro h<;>try simp (disch:=omega) only[go_sem,h]))
      all_goals first | rfl
    ·(repeat' first|simp (disch:=omega) only[go_sem,List.length_cons,List.length_nil])
     all_goals first | rfl
   ·by_cases s3:p.sort=2
    ·rw[if_pos h1] at a1
     rw[if_pos h3] at a3
     simp only[h1,h3,s3,if_true,Km,if_false,Kf,Kh,Kj,Kd,Kl,q6J,q4f]
     unfold qeW mpV zV q0p at a1 a3
     try unfold fdN at a1
     try unfold fdN at a3
     simp only[h1,h3,s3] at a1 a3
     generalize (if p.lo.opn=true then ([97,98,111,118,101]:List UInt8) else [102,114,111,109])=K1 at *
     generalize (if p.hi.opn=true then ([98,101,108,111,119]:List UInt8) else [116,111])=K2 at *
     refine q05 q3U rfl ?_
     (repeat' first|simp (disch:=omega) only[go_sem,q3U,enter,q0p,h1,h3,s3,List.length_cons,List.length_nil]|(refine q0b _ _ a1 ?_)|(refine q0b _ _ a3 ?_)|(apply spl<;>intro h<;>try simp (disch:=omega) only[go_sem,h]))
     refine q1Z ?_ ?_ ?_
     rotate_left
     ·repeat' first | exact q1X | refine q1C ?_ ?_
      all_goals
       (repeat' first|simp (disch:=omega) only[go_sem,q20,List.length_cons,List.length_nil]|refine q00 _ (t2) ?_|(apply spl<;>intro h<;>try simp (disch:=omega) only[go_sem,h]))
       all_goals first | rfl
     ·(repeat' first|simp (disch:=omega) only[go_sem,List.length_cons,List.length_nil]|(apply spl<;>intro h<;>try simp (disch:=omega) only[go_sem,h]))
      all_goals first | rfl
    ·rw[if_pos h1] at a1
     rw[if_pos h3] at a3
     simp only[h1,h3,s1,s3,if_true,Km,if_false,Kf,Kh,Kj,Kd,Kl,q6J,q4f]
     unfold qeW mpV zV q0p at a1 a3
     try unfold fdN at a1
     try unfold fdN at a3
     simp only[h1,h3] at a1 a3
     generalize (if p.lo.opn=true then ([97,98,111,118,101]:List UInt8) else [102,114,111,109])=K1 at *
     generalize (if p.hi.opn=true then ([98,101,108,111,119]:List UInt8) else [116,111])=K2 at *
     refine q05 q3U rfl ?_
     (repeat' first|simp (disch:=omega) only[go_sem,q3U,enter,q0p,h1,h3,s1,s3,List.length_cons,List.length_nil]|(refine q0b _ _ a1 ?_)|(refine q0b _ _ a3 ?_))
     all_goals first | rfl
end Ago
