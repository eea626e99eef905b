/- Schemas as values: the program at kinds,numbers and values. -/
import Derived.Test.YtahoajoopdphhaaGreatDoorRunO
set_option linter.unusedSimpArgs false
set_option linter.unusedVariables false
set_option maxRecDepth 100000
set_option exponentiation.threshold 2000
set_option maxHeartbeats 4000000
namespace Ago
open Go (IntKind)
theorem q7k {live:List Nat} {tm tm':List AV} {H H':Heap} {rb:Nat} (R:List (List Nat)) (ks:List Nat) (dr:List (Nat × Nat)) (hR:H.map Blk.refs=R) (hk:q8B R 0 4000 ((q0l live 0 tm).flatMap (AV.refsN 6)++(R.take 0).flatMap id) []=ks)
  (hc:((R.take 0++ks.map fun r=>R.getD r []).all fun l=>l.all fun q=>(q0V 0 ks q).isSome)=true) (hd:q1c ks (H.drop 0) 0=dr) (hf:q6U dr (ks.map fun r=>H.getD r .gone)=true) (ht:(q0l live 0 tm).map (AV.renN (q0V 0 ks) 6)=tm')
  (hh:(q3i dr (ks.map fun r=>H.getD r .gone)).map (Blk.ren (q0V 0 ks) (q2K H 0 ks))=H'):St.norm live ⟨tm,H,0,rb⟩=⟨tm',H',0,0⟩:=by
 have e2 : ∀ r,(H.getD r .gone).refs=R.getD r []:=fun r=>by
  rw[←hR,Ko,Ko,KH]
  cases H[r]?<;>rfl
 unfold St.norm St.normTm
 simp only[VC,List.flatMap_nil,qd3,hR]
 simp only[VC,List.flatMap_nil] at hk
 simp only[hk]
 unfold St.normBy
 have hcl:q1f (q0V 0 ks) (ks.map fun r=>H.getD r .gone)=true:=by
  unfold q1f
  rw[VC,Kh,List.all_map] at hc
  rw[List.all_map]
  have e4:(ks.all ((fun b=>b.refs.all fun q=>(q0V 0 ks q).isSome) ∘ fun r=>H.getD r .gone))=ks.all ((fun l=>l.all fun q=>(q0V 0 ks q).isSome) ∘ fun r=>R.getD r []):=by
   congr 1
   funext r
   simp only[Function.comp]
   rw[e2]
  rw[e4]
  exact hc
 simp only[VC,Kh,hd,hcl,hf,V7,q4l,ht,hh]
def qqP (X:AV) (l:List (Nat × AV)) (E:List AV):St:={ tmps:=q0i 194 ([(1,.ptr 15 0 0 0),(2,.ptr 13 1 0 0),(3,.ptr 13 2 0 0)]++l),heap:=ofH X E,base:=0 }
def qru (l:List (Nat × AV)) (E:List AV):St:=
 { tmps:=q0i 194 ([(2,.ptr 13 0 0 0),(3,.ptr 13 1 0 0)]++l), heap:=[.row 13 [zV] false true 0,.row 13 [lsV (match E with | []=>.snil 13 | z::l=>.sref 13 2 0 (l.length+1))] false E.isEmpty 1]++(match E with | []=>[] | z::l=>[.row 13 (z::l) false false 2]),base:=0 }
theorem qdO (m:Int) : ∀ k,(q2W m k).length≤k
 | 0=>by simp [q2W]
 | k+1=>by
  have:=qdO m k
  rw[q4W,Kb]
  split<;>simp<;>omega
theorem qr5 {f:Sch→V} (x:Sch) (h:x.s.op=3):q0m CT 525 [q06 x] (q0g (q10 f x)):=by
 have d:=q1R [107,105,110,100,115] (q0A (q2W x.s.mask 8))
 rw[que h]
 generalize q0x [107,105,110,100,115] (q0A (q2W x.s.mask 8))=D at *
 rw[q07 D] at d ⊢
 rw[q58] at d
 refine q05 q3c rfl ?_
 have hX:=q02 x
 rw[hX]
 (repeat' first|simp (disch:=omega) only[go_sem,q3c,enter,h]|(apply spl<;>intro h<;>try simp (disch:=omega) only[go_sem,h]))
 refine q0a (α:=Nat) (fun k=>qqP (q06 x) [(25,.int .i64 k)] ((q2W x.s.mask k).map q0g)) (fun k=>k≤8) (fun k=>8-k) 0 (by rw[hX,h]; rfl) (Kn _) ?_
 intro k hk
 rw[hX]
 unfold qqP ofH ouO ouR lsV zV
 by_cases hlt:k<8
 ·have r1:=ql7 k hlt
  have r2:=q4v (qbb k)
  have hw:IntKind.u64.wrap (k:Int)=k:=by simp only[IntKind.wrap,IntKind.signed,IntKind.bits,IntKind.min,IntKind.max]; first | omega | (simp; omega)
  have hn0 : ¬ (k:Int)<0:=by omega
  have hen:=q4W x.s.mask k
  have hst : ∀ z,z∈(q2W x.s.mask (k+1)).map q0g→q4B z:=fun z hz=>by
   obtain ⟨y,_,rfl⟩:=KV.1 hz
   exact q8h _
  cases hb:qoA x.s.mask (k:Int) with
  | false=>
   rw[hb,if_neg (by simp),Kj] at hen
   rw[hen] at hst
   unfold qoA at hb
   rw[V2,beq_eq_false_iff_ne] at hb
   generalize hE:(q2W x.s.mask k).map q0g=E at hst ⊢
   rcases E with _ | ⟨e0,es⟩
   all_goals
    (repeat' first|simp (disch:=omega) only[go_sem,hw,if_neg hn0,hb,K9,KO,Kf,Kh,Kj]|(apply spl<;>intro h<;>try simp (disch:=omega) only[go_sem,h]))
    all_goals try exact (hb h).elim
    all_goals
     refine ⟨k+1,?_,hlt,by omega⟩
     rw[hen,hE]
     simp only[qqP,ofH,ouO,ouR,lsV,zV,hX,Kf,Kh,Kb,List.length_cons,List.length_nil,KO,KS]
     first
     | rfl
     | (
      refine q7k [[],[],[3],[]] [0,1,2,3] [] ?_ rfl rfl rfl rfl rfl ?_
      ·simp only[Kd,Kl,q3L hst]
       rfl
      ·simp only[q3i,Kd,Kl,Vr,Vx,q4q hst]
       rfl)
  | true=>
   rw[hb,if_pos rfl] at hen
   rw[hen,Va,Kd,Kl] at hst
   unfold qoA at hb
   rw[V2,beq_iff_eq] at hb
   have hle:((q2W x.s.mask k).map q0g).length≤k:=by rw[Ka]; exact qdO _ _
   generalize hE:(q2W x.s.mask k).map q0g=E at hst hle ⊢
   rw[q3e] at r2 hst
   rcases E with _ | ⟨e0,es⟩
   all_goals
    simp only[List.length_cons,List.length_nil] at hle
    simp only[Kf,Kh] at hst
    (repeat' first|simp (disch:=omega) only[go_sem,hw,if_neg hn0,hb,K9,KO,Kf,Kh,Kj,List.length_cons]|(apply spl<;>intro h<;>try simp (disch:=omega) only[go_sem,h]))
    all_goals try exact (h hb).elim
    refine q1Z ?_ ?_ ?_
    rotate_left
    ·repeat' first | exact q1X | refine q1C ?_ ?_
     all_goals
      (repeat' first|simp (disch:=omega) only[go_sem,q20,List.length_cons,List.length_nil,qaC,qa2]|refine q00 _ (r1) ?_|refine q00 _ (r2) ?_|(apply spl<;>intro h<;>try simp (disch:=omega) only[go_sem,h]))
      all_goals first | omega | rfl
    ·(repeat' first|simp (disch:=omega) only[go_sem,List.length_cons,List.length_nil]|(apply spl<;>intro h<;>try simp (disch:=omega) only[go_sem,h]))
     all_goals try omega
     all_goals
      refine ⟨k+1,?_,hlt,by omega⟩
      rw[hen,Va,hE,Kd,Kl,q3e]
      simp only[qqP,ofH,ouO,ouR,lsV,zV,hX,Kf,Kh,Kb,List.length_cons,List.length_nil,KO,KS]
      first
      | rfl
      | (
       refine q7k [[],[],[5],[],[],[]] [0,1,2,5] [] ?_ rfl rfl rfl rfl rfl ?_
       ·simp only[Kd,Kl,q3L hst]
        rfl
       ·simp only[q3i,Kd,Kl,Vr,Vx,q4q hst]
        rfl)
 ·obtain rfl:k=8:=by omega
  have hst : ∀ z,z∈(q2W x.s.mask 8).map q0g→∃ v,z=q0g v:=fun z hz=>by
   obtain ⟨y,_,rfl⟩:=KV.1 hz
   exact ⟨_,rfl⟩
  generalize (q2W x.s.mask 8).map q0g=E at hst d ⊢
  rcases E with _ | ⟨e0,es⟩
  ·(repeat' first|simp (disch:=omega) only[go_sem,K9,Kj,List.length_cons,List.length_nil]|refine q00 _ (d) ?_)
   all_goals first | rfl | omega
  ·have z1:=fun H=>fzL H (l:=es) fun z hz=>hst z (Kt _ hz)
   have r1:=fun H=>frL H (l:=es) fun z hz=>hst z (Kt _ hz)
   obtain ⟨v0,rfl⟩:=hst e0 (Ku ..)
   have z2:=fun H=>fzE H v0
   have r2:=fun H=>frE H v0
   rw[q07 v0] at d z2 r2 ⊢
   (repeat' first|simp (disch:=omega) only[go_sem,KO,Kf,Kh,List.length_cons,List.length_nil,z1,r1,z2,r2,q0R,Blk.mark,K5,Vf,Vu,K4,Ky]|refine q00 _ (d) ?_)
   all_goals first | rfl | omega
end Ago
set_option maxRecDepth 100000
set_option exponentiation.threshold 2000
set_option maxHeartbeats 4000000
namespace Ago
open Go (IntKind)
theorem qpm {f:Sch→V} (x:Sch) (hx:x.bulk≤2^24) (h:x.s.op=4):q0m CT 525 [q06 x] (q0g (q10 f x)):=by
 have L:=Sch.lens hx
 have hl:=L.parts
 have d:=q1R [110,117,109,98,101,114] (q0A (x.s.parts.map q23))
 rw[qrO h]
 generalize q0x [110,117,109,98,101,114] (q0A (x.s.parts.map q23))=D at *
 rw[q07 D] at d ⊢
 rw[q58] at d
 refine q05 q3c rfl ?_
 have hX:=q02 x
 rw[hX]
 (repeat' first|simp (disch:=omega) only[go_sem,q3c,enter,h,Ka]|(apply spl<;>intro h<;>try simp (disch:=omega) only[go_sem,h]))
 all_goals first | omega | skip
 refine q0a (α:=Nat) (fun k=>qru [(52,.tsl 11 (x.s.parts.map q0p)),(53,.int .i64 x.s.parts.length),(54,.int .i64 k)] ((x.s.parts.take k).map fun y=>q0g (q23 y)) ) (fun k=>k≤x.s.parts.length) (fun k=>x.s.parts.length-k) 0 rfl (Kn _) ?_
 intro k hk
 unfold qru lsV zV
 by_cases hlt:k<x.s.parts.length
 ·obtain ⟨y,hy⟩:=q08 hlt
  have hym:=Kc hy
  have hy2:=q0d (g:=q0p) hy
  have r1:=qnn y
  simp only[q0p] at hy2 r1
  have hen:(x.s.parts.take (k+1)).map (fun y=>q0g (q23 y))=(x.s.parts.take k).map (fun y=>q0g (q23 y))++[q0g (q23 y)]:=by rw[KD,hy]; simp
  have hle:((x.s.parts.take k).map (fun y=>q0g (q23 y))).length=k:=by rw[Ka,KI]; omega
  have hst : ∀ z,z∈(x.s.parts.take (k+1)).map (fun y=>q0g (q23 y))→q4B z:=fun z hz=>by
   obtain ⟨y,_,rfl⟩:=KV.1 hz
   exact q8h _
  rw[hen] at hst
  generalize q23 y=Y at *
  rw[q07 Y] at r1 hen hst
  generalize hE:(x.s.parts.take k).map (fun y=>q0g (q23 y))=E at hen hle hst ⊢
  rcases E with _ | ⟨e0,es⟩
  all_goals
   simp only[List.length_cons,List.length_nil] at hle
   simp only[Kf,Kh] at hst
   (repeat' first|simp (disch:=omega) only[go_sem,hy2,Ka,List.length_cons,K9,KO,Kf,Kh,Kj]|(apply spl<;>intro h<;>try simp (disch:=omega) only[go_sem,h]))
   all_goals try omega
   refine q1Z ?_ ?_ ?_
   rotate_left
   ·repeat' first | exact q1X | refine q1C ?_ ?_
    all_goals
     (repeat' first|simp (disch:=omega) only[go_sem,q20,List.length_cons,List.length_nil,qaC,qa2]|refine q00 _ (r1) ?_|(apply spl<;>intro h<;>try simp (disch:=omega) only[go_sem,h]))
     all_goals first | omega | rfl
   ·(repeat' first|simp (disch:=omega) only[go_sem,List.length_cons,List.length_nil]|(apply spl<;>intro h<;>try simp (disch:=omega) only[go_sem,h]))
    all_goals try omega
    all_goals
     refine ⟨k+1,?_,hlt,by omega⟩
     rw[hen]
     simp only[qru,lsV,zV,Kf,Kh,Kb,List.length_cons,List.length_nil,KO,KS]
     first
     | rfl
     | (
      refine q7k [[],[5],[],[],[],[]] [0,1,5] [] ?_ rfl rfl rfl rfl rfl ?_
      ·simp only[Kd,Kl,q3L hst]
       rfl
      ·simp only[q3i,Kd,Kl,Vr,Vx,q4q hst]
       rfl)
 ·obtain rfl:k=x.s.parts.length:=by omega
  rw[Ky]
  rw[show (x.s.parts.map q23).map q0g=x.s.parts.map (fun y=>q0g (q23 y)) by rw[Vn]; rfl] at d
  have hst : ∀ z,z∈x.s.parts.map (fun y=>q0g (q23 y))→∃ v,z=q0g v:=fun z hz=>by
   obtain ⟨y,_,rfl⟩:=KV.1 hz
   exact ⟨_,rfl⟩
  generalize x.s.parts.map (fun y=>q0g (q23 y))=E at hst d ⊢
  rcases E with _ | ⟨e0,es⟩
  ·(repeat' first|simp (disch:=omega) only[go_sem,K9,Kj,List.length_cons,List.length_nil]|refine q00 _ (d) ?_)
   all_goals first | rfl | omega
  ·have z1:=fun H=>fzL H (l:=es) fun z hz=>hst z (Kt _ hz)
   have r1:=fun H=>frL H (l:=es) fun z hz=>hst z (Kt _ hz)
   obtain ⟨v0,rfl⟩:=hst e0 (Ku ..)
   have z2:=fun H=>fzE H v0
   have r2:=fun H=>frE H v0
   rw[q07 v0] at d z2 r2 ⊢
   (repeat' first|simp (disch:=omega) only[go_sem,KO,Kf,Kh,List.length_cons,List.length_nil,z1,r1,z2,r2,q0R,Blk.mark,K5,Vf,Vu,K4,Ky]|refine q00 _ (d) ?_)
   all_goals first | rfl | omega
theorem qqc {f:Sch→V} (x:Sch) (hx:x.bulk≤2^24) (h:x.s.op=8) (hf:q18 x=true):q0m CT 525 [q06 x] (q0g (q10 f x)):=by
 have L:=Sch.lens hx
 have hl:=L.vals
 have d:=q1R [118,97,108,117,101,115] (q0A (x.s.vals))
 rw[qta h]
 generalize q0x [118,97,108,117,101,115] (q0A (x.s.vals))=D at *
 rw[q07 D] at d ⊢
 rw[q58] at d
 refine q05 q3c rfl ?_
 have hX:=q02 x
 rw[hX]
 (repeat' first|simp (disch:=omega) only[go_sem,q3c,enter,h,Ka]|(apply spl<;>intro h<;>try simp (disch:=omega) only[go_sem,h]))
 all_goals first | omega | skip
 refine q0a (α:=Nat) (fun k=>qru [(97,.tsl 13 (x.s.vals.map q0g)),(98,.int .i64 x.s.vals.length),(99,.int .i64 k)] ((x.s.vals.take k).map fun y=>q0g (y)) ) (fun k=>k≤x.s.vals.length) (fun k=>x.s.vals.length-k) 0 rfl (Kn _) ?_
 intro k hk
 unfold qru lsV zV
 by_cases hlt:k<x.s.vals.length
 ·obtain ⟨y,hy⟩:=q08 hlt
  have hym:=Kc hy
  have hy2:=q0d (g:=q0g) hy
  have r1:=upT (upS (q9Q y (by have:=L.val y hym; omega)))
  have hyn:=q9C hf h y hym
  rw[q22 hyn.1 hyn.2 65536 (Kn _)] at r1
  have hen:(x.s.vals.take (k+1)).map (fun y=>q0g (y))=(x.s.vals.take k).map (fun y=>q0g (y))++[q0g (y)]:=by rw[KD,hy]; simp
  have hle:((x.s.vals.take k).map (fun y=>q0g (y))).length=k:=by rw[Ka,KI]; omega
  have hst : ∀ z,z∈(x.s.vals.take (k+1)).map (fun y=>q0g (y))→q4B z:=fun z hz=>by
   obtain ⟨y,_,rfl⟩:=KV.1 hz
   exact q8h _
  rw[hen] at hst
  skip
  rw[q07 y] at r1 hen hst hy2
  generalize hE:(x.s.vals.take k).map (fun y=>q0g (y))=E at hen hle hst ⊢
  rcases E with _ | ⟨e0,es⟩
  all_goals
   simp only[List.length_cons,List.length_nil] at hle
   simp only[Kf,Kh] at hst
   (repeat' first|simp (disch:=omega) only[go_sem,hy2,Ka,List.length_cons,K9,KO,Kf,Kh,Kj]|(apply spl<;>intro h<;>try simp (disch:=omega) only[go_sem,h]))
   all_goals try omega
   refine q1Z ?_ ?_ ?_
   rotate_left
   ·repeat' first | exact q1X | refine q1C ?_ ?_
    all_goals
     (repeat' first|simp (disch:=omega) only[go_sem,q20,List.length_cons,List.length_nil,qaC,qa2]|refine q00 _ (r1) ?_|(apply spl<;>intro h<;>try simp (disch:=omega) only[go_sem,h]))
     all_goals first | omega | rfl
   ·(repeat' first|simp (disch:=omega) only[go_sem,List.length_cons,List.length_nil]|(apply spl<;>intro h<;>try simp (disch:=omega) only[go_sem,h]))
    all_goals try omega
    all_goals
     refine ⟨k+1,?_,hlt,by omega⟩
     rw[hen]
     simp only[qru,lsV,zV,Kf,Kh,Kb,List.length_cons,List.length_nil,KO,KS]
     first
     | rfl
     | (
      refine q7k [[],[5],[],[],[],[]] [0,1,5] [] ?_ rfl rfl rfl rfl rfl ?_
      ·simp only[Kd,Kl,q3L hst]
       rfl
      ·simp only[q3i,Kd,Kl,Vr,Vx,q4q hst]
       rfl)
 ·obtain rfl:k=x.s.vals.length:=by omega
  rw[Ky]
  rw[show (x.s.vals).map q0g=x.s.vals.map (fun y=>q0g (y)) by rfl] at d
  have hst : ∀ z,z∈x.s.vals.map (fun y=>q0g (y))→∃ v,z=q0g v:=fun z hz=>by
   obtain ⟨y,_,rfl⟩:=KV.1 hz
   exact ⟨_,rfl⟩
  generalize x.s.vals.map (fun y=>q0g (y))=E at hst d ⊢
  rcases E with _ | ⟨e0,es⟩
  ·(repeat' first|simp (disch:=omega) only[go_sem,K9,Kj,List.length_cons,List.length_nil]|refine q00 _ (d) ?_)
   all_goals first | rfl | omega
  ·have z1:=fun H=>fzL H (l:=es) fun z hz=>hst z (Kt _ hz)
   have r1:=fun H=>frL H (l:=es) fun z hz=>hst z (Kt _ hz)
   obtain ⟨v0,rfl⟩:=hst e0 (Ku ..)
   have z2:=fun H=>fzE H v0
   have r2:=fun H=>frE H v0
   rw[q07 v0] at d z2 r2 ⊢
   (repeat' first|simp (disch:=omega) only[go_sem,KO,Kf,Kh,List.length_cons,List.length_nil,z1,r1,z2,r2,q0R,Blk.mark,K5,Vf,Vu,K4,Ky]|refine q00 _ (d) ?_)
   all_goals first | rfl | omega
end Ago
set_option maxRecDepth 100000
set_option exponentiation.threshold 2000
set_option maxHeartbeats 4000000
namespace Ago
open Go (IntKind)
theorem fzK (H:Heap) (k:Nat) (v:V):frz H (k+2) (q0g v)=some (q0g v):=by rw[q07]; rfl
theorem frK (H:Heap) (k:Nat) (v:V):q0q H (k+2) (q0g v)=[]:=by rw[q07]; rfl
theorem qwS (H:Heap) (k:Nat) : ∀ {l:List AV},(∀ x,x∈l→∃ v,x=q0g v)→q1L (frz H (k+2)) l=some l
 | [],_=>rfl
 | x::l,h=>by
  obtain ⟨v,rfl⟩:=h x (Ku ..)
  have ih:=qwS H k (l:=l) fun y hy=>h y (Kt _ hy)
  unfold q1L
  rw[fzK,ih]
theorem qx2 (H:Heap) (k:Nat) {l:List AV} (h : ∀ x,x∈l→∃ v,x=q0g v):l.flatMap (q0q H (k+2))=[]:=by
 rw[VN]
 intro x hx
 obtain ⟨v,rfl⟩:=h x hx
 exact frK H k v
theorem qhV {l:List V} {v:V} (h:v∈l):v.bulk≤AV.bulks (l.map q0g):=by
 induction l with
 | nil=>cases h
 | cons x l ih=>
  rw[q1r]
  rcases KA.1 h with rfl | h
  ·omega
  ·have:=ih h
   omega
theorem qo3 {f:Sch→V} (x:Sch) (hx:x.bulk≤2^24) (hf:q18 x=true) (h:x.s.op=10) (hr : ∀ y,y∈x.kids→q0m CT 525 [q06 y] (q0g (f y))) (hs : ∀ y,y∈x.kids→Sh 900 (f y)) (hbk:(q10 f x).bulk≤2^24):q0m CT 525 [q06 x] (q0g (q10 f x)):=by
 have L:=Sch.lens hx
 have hl:=L.props
 obtain ⟨w,hw⟩:=q8g (q32 hf (.inr (.inl h)))
 have rw':=hr w (Kv.2 (.inr (by rw[hw]; simp)))
 have sw:=hs w (Kv.2 (.inr (by rw[hw]; simp)))
 rw[qoK h,hw] at hbk ⊢
 have hbk2:(q0A (q0A (x.p.map (q1V f))::[w].map f)).bulk≤2^24:=by rw[q14] at hbk; omega
 have hbk3:(q0A (x.p.map (q1V f))).bulk≤2^24:=by rw[q1y,q1r] at hbk2; omega
 have hpb : ∀ p,p∈x.p→(q1V f p).bulk≤2^24:=fun p hp=>by
  rw[q1y] at hbk3
  have:=qhV (VJ (f:=q1V f) hp)
  omega
 have hps : ∀ p,p∈x.p→∀ v,v∈[q1v p.1.key,q6n p.1.req,f p.2]→Sh 1000 v:=fun p hp v hv=>by
  simp only[KA,Vq,or_false] at hv
  rcases hv with rfl | rfl | rfl
  ·exact Sh.mono (q22 rfl rfl) (Kn _)
  ·exact Sh.mono (q22 rfl rfl) (Kn _)
  ·exact (hs p.2 (Kv.2 (.inl (KV.2 ⟨p,hp,rfl⟩)))).mono (by omega)
 have c:=q7O (q0A (x.p.map (q1V f))::[w].map f) (fun v hv=>by
  rcases KA.1 hv with rfl | hv
  ·exact (q3K (m:=901) fun v hv=>by
    obtain ⟨p,hp,rfl⟩:=KV.1 hv
    exact q3K (m:=900) fun v hv=>by
     simp only[KA,Vq,or_false] at hv
     rcases hv with rfl | rfl | rfl
     ·exact Sh.mono (q22 rfl rfl) (Kn _)
     ·exact Sh.mono (q22 rfl rfl) (Kn _)
     ·exact hs p.2 (Kv.2 (.inl (KV.2 ⟨p,hp,rfl⟩)))).mono (by omega)
  ·simp only[Kd,Kl,Kx] at hv
   subst hv
   exact sw.mono (by omega)) hbk2
 have d:=q1R [109,97,112] (q0A (q0A (x.p.map (q1V f))::[w].map f))
 simp only[Kd,Kl] at c d ⊢
 generalize q0x [109,97,112] (q0A [q0A (x.p.map (q1V f)),f w])=D at *
 generalize q0A [q0A (x.p.map (q1V f)),f w]=C at *
 rw[q07 D] at d ⊢
 rw[q07 C] at c d
 rw[q58] at c
 generalize f w=W at *
 rw[q07 W] at rw' c
 rw[q02 w] at rw'
 have hX:=q02 x
 rw[hw,Kd,Kl,q02 w] at hX
 refine q05 q3c rfl ?_
 rw[hX]
 (repeat' first|simp (disch:=omega) only[go_sem,q3c,enter,h,Ka]|(apply spl<;>intro h<;>try simp (disch:=omega) only[go_sem,h]))
 all_goals first | omega | skip
 refine q0a (α:=Nat) (fun k=>qqP (q06 x) [(134,.tsl 17 (x.p.map q1k)),(135,.int .i64 x.p.length),(136,.int .i64 k)] ((x.p.take k).map fun y=>q0g (q1V f y))) (fun k=>k≤x.p.length) (fun k=>x.p.length-k) 0 (by rw[hX,h]; rfl) (Kn _) ?_
 intro k hk
 rw[hX]
 unfold qqP ofH ouO ouR lsV zV
 by_cases hlt:k<x.p.length
 ·obtain ⟨y,hy⟩:=q08 hlt
  have hym:=Kc hy
  have hy2:=q0d (g:=q1k) hy
  rw[q2g y] at hy2
  have r1:=q4v y.1.key
  have r2:=qaS y.1.req
  have r3:=hr y.2 (Kv.2 (.inl (KV.2 ⟨y,hym,rfl⟩)))
  have r4:=q7O [q1v y.1.key,q6n y.1.req,f y.2] (hps y hym) (hpb y hym)
  have hen:(x.p.take (k+1)).map (fun y=>q0g (q1V f y))=(x.p.take k).map (fun y=>q0g (q1V f y))++[q0g (q1V f y)]:=by rw[KD,hy]; simp
  have hle:((x.p.take k).map (fun y=>q0g (q1V f y))).length=k:=by rw[Ka,KI]; omega
  have hst : ∀ z,z∈(x.p.take (k+1)).map (fun y=>q0g (q1V f y))→q4B z:=fun z hz=>by
   obtain ⟨y,_,rfl⟩:=KV.1 hz
   exact q8h _
  rw[hen] at hst
  have hpe:q0g (q1V f y)=q0g (q0A [q1v y.1.key,q6n y.1.req,f y.2]):=rfl
  rw[hpe] at hen hst
  simp only[Kd,Kl] at r4
  generalize q0A [q1v y.1.key,q6n y.1.req,f y.2]=P at *
  generalize f y.2=Y at *
  rw[q07 P] at r4 hen hst
  rw[q07 Y] at r3 r4
  rw[q02 y.2] at r3
  rw[q3e] at r1 r4
  rw[q3X] at r2 r4
  generalize hE:(x.p.take k).map (fun y=>q0g (q1V f y))=E at hen hle hst ⊢
  rcases E with _ | ⟨e0,es⟩
  all_goals
   simp only[List.length_cons,List.length_nil] at hle
   simp only[Kf,Kh] at hst
   (repeat' first|simp (disch:=omega) only[go_sem,hy2,Ka,List.length_cons,K9,KO,Kf,Kh,Kj]|(apply spl<;>intro h<;>try simp (disch:=omega) only[go_sem,h]))
   all_goals try omega
   refine q1Z ?_ ?_ ?_
   rotate_left
   ·repeat' first | exact q1X | refine q1C ?_ ?_
    all_goals
     (repeat' first|simp (disch:=omega) only[go_sem,q20,List.length_cons,List.length_nil,qaC,qa2,q0R,Blk.mark,K5,Vf,Vu]|refine q00 _ (r1) ?_|refine q00 _ (r2) ?_|refine q00 _ (r3) ?_|refine q00 _ (r4) ?_|(apply spl<;>intro h<;>try simp (disch:=omega) only[go_sem,h]))
     all_goals first | omega | rfl
   ·(repeat' first|simp (disch:=omega) only[go_sem,List.length_cons,List.length_nil]|(apply spl<;>intro h<;>try simp (disch:=omega) only[go_sem,h]))
    all_goals try omega
    all_goals
     refine ⟨k+1,?_,hlt,by omega⟩
     rw[hen]
     simp only[qqP,ofH,ouO,ouR,lsV,zV,hX,Kf,Kh,Kb,List.length_cons,List.length_nil,KO,KS]
     first
     | rfl
     | (
      refine q7k [[],[],[7],[],[],[],[],[]] [0,1,2,7] [(5,3)] ?_ rfl rfl rfl rfl rfl ?_
      ·simp only[Kd,Kl,q3L hst]
       rfl
      ·simp only[q3i,Blk.roBy,Kd,Kl,Vr,Vx,q4q hst]
       rfl)
 ·obtain rfl:k=x.p.length:=by omega
  rw[Ky]
  rw[show (x.p.map (q1V f)).map q0g=x.p.map (fun y=>q0g (q1V f y)) by rw[Vn]; rfl] at c
  have hst : ∀ z,z∈x.p.map (fun y=>q0g (q1V f y))→∃ v,z=q0g v:=fun z hz=>by
   obtain ⟨y,_,rfl⟩:=KV.1 hz
   exact ⟨_,rfl⟩
  generalize x.p.map (fun y=>q0g (q1V f y))=E at hst c ⊢
  rcases E with _ | ⟨e0,es⟩
  ·(repeat' first|simp (disch:=omega) only[go_sem,K9,Kj,List.length_cons,List.length_nil,q0R,Blk.mark,K5,Vf,Vu]|refine q00 _ (rw') ?_|refine q00 _ (c) ?_|refine q00 _ (d) ?_)
   all_goals first | rfl | omega
  ·have z1:=fun H=>qwS H 1 (l:=es) fun z hz=>hst z (Kt _ hz)
   have r1:=fun H=>qx2 H 1 (l:=es) fun z hz=>hst z (Kt _ hz)
   obtain ⟨v0,rfl⟩:=hst e0 (Ku ..)
   have z2:=fun H=>fzK H 1 v0
   have r2:=fun H=>frK H 1 v0
   rw[q07 v0] at c z2 r2 ⊢
   (repeat' first|simp (disch:=omega) only[go_sem,KO,Kf,Kh,List.length_cons,List.length_nil,z1,r1,z2,r2,q0R,Blk.mark,K5,Vf,Vu,Vj,Bool.or_true,if_true,K4,Ky]|refine q00 _ (rw') ?_|refine q00 _ (c) ?_|refine q00 _ (d) ?_)
   all_goals first | rfl | omega
end Ago
set_option maxRecDepth 100000
set_option exponentiation.threshold 2000
set_option maxHeartbeats 4000000
namespace Ago
open Go (IntKind)
def roO (r:Nat) (E:List AV):AV:=match E with | []=>.snil 13 | z::l=>.sref 13 r 0 (l.length+1)
def roR (r:Nat) (E:List AV):Heap:=match E with | []=>[] | z::l=>[.row 13 (z::l) false true r]
theorem qwq (f:Sch→V) (l:List Sch):(l.map f).map q0g=l.map fun y=>q0g (f y):=by rw[Vn]; rfl
theorem qfg (f:Sch→V) (l:List Sch) (hl:l.length<2^24) (hk : ∀ y,y∈l→q0m CT 496 [q06 y] (q0g (f y))):q0m CT 532 [.tsl 15 (l.map q06)] (q0g (q0A (l.map f))):=by
 have c:=q1G (l.map f)
 generalize hC:q0A (l.map f)=C at *
 rw[qwq] at c
 rw[q07 C] at c ⊢
 refine q05 qnp rfl ?_
 (repeat' first|simp (disch:=omega) only[go_sem,qnp,enter,Ka]|(apply spl<;>intro h<;>try simp (disch:=omega) only[go_sem,h]))
 refine q0a (α:=Nat) (fun k=>{ tmps:=q0i 21 [(0,.tsl 15 (l.map q06)),(2,.ptr 13 0 0 0),(3,roO 1 ((l.take k).map fun y=>q0g (f y))),(4,.int .i64 k)],heap:=[.row 13 [zV] false true 0]++roR 1 ((l.take k).map fun y=>q0g (f y)),base:=0 }) (fun k=>k≤l.length) (fun k=>l.length-k) 0 rfl (Kn _) ?_
 intro k hk2
 by_cases hlt:k<l.length
 ·obtain ⟨y,hy⟩:=q08 hlt
  have hym:=Kc hy
  have hy2:=q0d (g:=q06) hy
  have r1:=hk y hym
  have hen:(l.take (k+1)).map (fun y=>q0g (f y))=(l.take k).map (fun y=>q0g (f y))++[q0g (f y)]:=by rw[KD,hy]; simp
  have hle:((l.take k).map (fun y=>q0g (f y))).length=k:=by rw[Ka,KI]; omega
  rw[q02] at hy2 r1
  generalize f y=Y at *
  rw[q07 Y] at r1 hen
  generalize hE:(l.take k).map (fun y=>q0g (f y))=E at hen hle ⊢
  rcases E with _ | ⟨e0,es⟩
  all_goals
   simp only[List.length_cons,List.length_nil] at hle
   unfold roO roR zV
   (repeat' first|simp (disch:=omega) only[go_sem,hy2,Ka,List.length_cons,List.length_nil,Kf,Kh,Kj]|refine q00 _ (r1) ?_|(apply spl<;>intro h<;>try simp (disch:=omega) only[go_sem,h]))
   all_goals try omega
   all_goals
    refine ⟨k+1,?_,hlt,by omega⟩
    rw[hen]
    simp only[roO,roR,zV,Kf,Kh,Kb,List.length_cons,List.length_nil,KS]
    rfl
 ·obtain rfl:k=l.length:=by omega
  rw[Ky]
  generalize l.map (fun y=>q0g (f y))=E at c ⊢
  rcases E with _ | ⟨e0,es⟩
  all_goals
   unfold roO roR zV
   (repeat' first|simp (disch:=omega) only[go_sem,Ka,List.length_cons,List.length_nil,Kf,Kh,Kj,K4,Ky,q0R,Blk.mark,K5,Vf,Vu,Vj,Bool.or_true,if_true]|refine q00 _ (c) ?_)
   all_goals first | rfl | omega
theorem qkK (k:List UInt8) {f:Sch→V} (x:Sch) (hx:x.bulk≤2^24) (h:x.s.op=11∧k=[97,108,108]∨x.s.op=12∧k=[97,110,121]) (hr : ∀ y,y∈x.a→q0m CT 496 [q06 y] (q0g (f y))):q0m CT 496 [q06 x] (q0g (q0x k (q0A (x.a.map f)))):=by
 have L:=Sch.lens hx
 have c:=qfg f x.a (by have:=L.args; omega) hr
 have d:=q1Q k (q0A (x.a.map f))
 generalize q0x k (q0A (x.a.map f))=D at *
 generalize q0A (x.a.map f)=C at *
 rw[q07 D] at d ⊢
 rw[q07 C] at c d
 refine q05 q3v rfl ?_
 rw[q02 x]
 rcases h with ⟨h,rfl⟩ | ⟨h,rfl⟩
 all_goals
  (repeat' first|simp (disch:=omega) only[go_sem,q3v,enter,h]|refine q00 _ (c) ?_|refine q00 _ (d) ?_)
  all_goals first | rfl | omega
theorem qqX {f:Sch→V} (x:Sch) (h:x.s.op=8):q0m CT 496 [q06 x] (q0g (q10 f x)):=by
 have c:=q1G x.s.vals
 have d:=q1Q [118,97,108,117,101,115] (q0A x.s.vals)
 rw[qta h]
 generalize q0x [118,97,108,117,101,115] (q0A x.s.vals)=D at *
 generalize q0A x.s.vals=C at *
 rw[q07 D] at d ⊢
 rw[q07 C] at c d
 refine q05 q3v rfl ?_
 rw[q02 x]
 (repeat' first|simp (disch:=omega) only[go_sem,q3v,enter,h]|refine q00 _ (c) ?_|refine q00 _ (d) ?_)
 all_goals first | rfl | omega
end Ago
set_option maxRecDepth 100000
set_option exponentiation.threshold 2000
set_option maxHeartbeats 4000000
namespace Ago
open Go (IntKind)
def qlQ (X:AV) (l:List (Nat × AV)) (E:List AV):St:={ tmps:=q0i 168 ([(1,.ptr 15 0 0 0),(2,.ptr 13 1 0 0),(3,roO 2 E)]++l),heap:=[.row 15 [X] false true 0,.row 13 [zV] false true 1]++roR 2 E,base:=0 }
theorem qbw (m:Int) : ∀ k,(q2W m k).length≤k
 | 0=>by simp [q2W]
 | k+1=>by
  have:=qbw m k
  rw[q4W,Kb]
  split<;>simp<;>omega
theorem qpS {f:Sch→V} (x:Sch) (h:x.s.op=3):q0m CT 496 [q06 x] (q0g (q10 f x)):=by
 have c:=q1G (q2W x.s.mask 8)
 have d:=q1Q [107,105,110,100,115] (q0A (q2W x.s.mask 8))
 rw[que h]
 generalize q0x [107,105,110,100,115] (q0A (q2W x.s.mask 8))=D at *
 generalize q0A (q2W x.s.mask 8)=C at *
 rw[q07 D] at d ⊢
 rw[q07 C] at c d
 refine q05 q3v rfl ?_
 have hX:=q02 x
 rw[hX]
 (repeat' first|simp (disch:=omega) only[go_sem,q3v,enter,h]|(apply spl<;>intro h<;>try simp (disch:=omega) only[go_sem,h]))
 refine q0a (α:=Nat) (fun k=>qlQ (q06 x) [(4,.int .i64 k)] ((q2W x.s.mask k).map q0g)) (fun k=>k≤8) (fun k=>8-k) 0 (by rw[hX,h]; rfl) (Kn _) ?_
 intro k hk
 rw[hX]
 unfold qlQ
 by_cases hlt:k<8
 ·have r1:=qfQ k hlt
  have r2:=q2r (qbb k)
  have hn0 : ¬ (k:Int)<0:=by omega
  have hen:=q4W x.s.mask k
  have hle:((q2W x.s.mask k).map q0g).length≤k:=by rw[Ka]; exact qbw _ _
  cases hb:qoA x.s.mask (k:Int) with
  | false=>
   rw[hb,if_neg (by simp),Kj] at hen
   unfold qoA at hb
   rw[V2,beq_eq_false_iff_ne] at hb
   generalize hE:(q2W x.s.mask k).map q0g=E at hle ⊢
   rcases E with _ | ⟨e0,es⟩
   all_goals
    unfold roO roR zV
    (repeat' first|simp (disch:=omega) only[go_sem,if_neg hn0,hb,Kf,Kh,Kj]|(apply spl<;>intro h<;>try simp (disch:=omega) only[go_sem,h]))
    all_goals try exact (hb h).elim
    all_goals
     refine ⟨k+1,?_,hlt,by omega⟩
     rw[hen,hE]
     simp only[qlQ,roO,roR,zV,hX,Kf,Kh,Kb,List.length_cons,List.length_nil,KS]
     rfl
  | true=>
   rw[hb,if_pos rfl] at hen
   unfold qoA at hb
   rw[V2,beq_iff_eq] at hb
   generalize hE:(q2W x.s.mask k).map q0g=E at hle ⊢
   rw[q3e] at r2
   rcases E with _ | ⟨e0,es⟩
   all_goals
    simp only[List.length_cons,List.length_nil] at hle
    unfold roO roR zV
    (repeat' first|simp (disch:=omega) only[go_sem,if_neg hn0,hb,Kf,Kh,Kj,List.length_cons]|refine q00 _ (r1) ?_|refine q00 _ (r2) ?_|(apply spl<;>intro h<;>try simp (disch:=omega) only[go_sem,h]))
    all_goals try exact (h hb).elim
    all_goals try omega
    all_goals
     refine ⟨k+1,?_,hlt,by omega⟩
     rw[hen,Va,hE,Kd,Kl,q3e]
     simp only[qlQ,roO,roR,zV,hX,Kf,Kh,Kb,List.length_cons,List.length_nil,KS]
     rfl
 ·obtain rfl:k=8:=by omega
  generalize (q2W x.s.mask 8).map q0g=E at c ⊢
  rcases E with _ | ⟨e0,es⟩
  all_goals
   unfold roO roR zV
   (repeat' first|simp (disch:=omega) only[go_sem,Ka,List.length_cons,List.length_nil,Kf,Kh,Kj,K4,Ky,q0R,Blk.mark,K5,Vf,Vu,Vj,Bool.or_true,if_true]|refine q00 _ (c) ?_|refine q00 _ (d) ?_)
   all_goals first | rfl | omega
theorem qq6 {f:Sch→V} (x:Sch) (hx:x.bulk≤2^24) (h:x.s.op=4):q0m CT 496 [q06 x] (q0g (q10 f x)):=by
 have L:=Sch.lens hx
 have hl:=L.parts
 have c:=q1G (x.s.parts.map q23)
 have d:=q1Q [110,117,109,98,101,114] (q0A (x.s.parts.map q23))
 rw[qrO h]
 generalize q0x [110,117,109,98,101,114] (q0A (x.s.parts.map q23))=D at *
 generalize q0A (x.s.parts.map q23)=C at *
 rw[q07 D] at d ⊢
 rw[q07 C] at c d
 rw[show (x.s.parts.map q23).map q0g=x.s.parts.map (fun y=>q0g (q23 y)) by rw[Vn]; rfl] at c
 refine q05 q3v rfl ?_
 have hX:=q02 x
 rw[hX]
 (repeat' first|simp (disch:=omega) only[go_sem,q3v,enter,h]|(apply spl<;>intro h<;>try simp (disch:=omega) only[go_sem,h]))
 refine q0a (α:=Nat) (fun k=>qlQ (q06 x) [(5,.int .i64 k)] ((x.s.parts.take k).map fun y=>q0g (q23 y))) (fun k=>k≤x.s.parts.length) (fun k=>x.s.parts.length-k) 0 (by rw[hX,h]; rfl) (Kn _) ?_
 intro k hk
 rw[hX]
 unfold qlQ
 by_cases hlt:k<x.s.parts.length
 ·obtain ⟨y,hy⟩:=q08 hlt
  have hy2:=q0d (g:=q0p) hy
  have r1:=qfL y
  simp only[q0p] at hy2 r1
  have hen:(x.s.parts.take (k+1)).map (fun y=>q0g (q23 y))=(x.s.parts.take k).map (fun y=>q0g (q23 y))++[q0g (q23 y)]:=by rw[KD,hy]; simp
  have hle:((x.s.parts.take k).map (fun y=>q0g (q23 y))).length=k:=by rw[Ka,KI]; omega
  generalize q23 y=Y at *
  rw[q07 Y] at r1 hen
  generalize hE:(x.s.parts.take k).map (fun y=>q0g (q23 y))=E at hen hle ⊢
  rcases E with _ | ⟨e0,es⟩
  all_goals
   simp only[List.length_cons,List.length_nil] at hle
   unfold roO roR zV
   (repeat' first|simp (disch:=omega) only[go_sem,hy2,Ka,List.length_cons,List.length_nil,Kf,Kh,Kj]|refine q00 _ (r1) ?_|(apply spl<;>intro h<;>try simp (disch:=omega) only[go_sem,h]))
   all_goals try omega
   all_goals
    refine ⟨k+1,?_,hlt,by omega⟩
    rw[hen]
    simp only[qlQ,roO,roR,zV,hX,Kf,Kh,Kb,List.length_cons,List.length_nil,KS]
    rfl
 ·obtain rfl:k=x.s.parts.length:=by omega
  rw[Ky]
  generalize x.s.parts.map (fun y=>q0g (q23 y))=E at c ⊢
  rcases E with _ | ⟨e0,es⟩
  all_goals
   unfold roO roR zV
   (repeat' first|simp (disch:=omega) only[go_sem,Ka,List.length_cons,List.length_nil,Kf,Kh,Kj,K4,Ky,q0R,Blk.mark,K5,Vf,Vu,Vj,Bool.or_true,if_true]|refine q00 _ (c) ?_|refine q00 _ (d) ?_)
   all_goals first | rfl | omega
theorem qoc {f:Sch→V} (x:Sch) (hx:x.bulk≤2^24) (hf:q18 x=true) (h:x.s.op=10) (hr : ∀ y,y∈x.kids→q0m CT 496 [q06 y] (q0g (f y))):q0m CT 496 [q06 x] (q0g (q10 f x)):=by
 have L:=Sch.lens hx
 have hl:=L.props
 obtain ⟨w,hw⟩:=q8g (q32 hf (.inr (.inl h)))
 have rw':=hr w (Kv.2 (.inr (by rw[hw]; simp)))
 rw[qoK h,hw]
 have b:=q1G (x.p.map (q1V f))
 have c:=q1G (q0A (x.p.map (q1V f))::[w].map f)
 have d:=q1Q [109,97,112] (q0A (q0A (x.p.map (q1V f))::[w].map f))
 simp only[Kd,Kl] at c d ⊢
 generalize q0x [109,97,112] (q0A [q0A (x.p.map (q1V f)),f w])=D at *
 generalize q0A [q0A (x.p.map (q1V f)),f w]=C at *
 generalize q0A (x.p.map (q1V f))=B at *
 rw[q07 D] at d ⊢
 rw[q07 C] at c d
 rw[q07 B] at b c
 generalize f w=W at *
 rw[q07 W] at rw' c
 rw[q02 w] at rw'
 rw[show (x.p.map (q1V f)).map q0g=x.p.map (fun y=>q0g (q1V f y)) by rw[Vn]; rfl] at b
 have hX:=q02 x
 rw[hw,Kd,Kl,q02 w] at hX
 refine q05 q3v rfl ?_
 rw[hX]
 (repeat' first|simp (disch:=omega) only[go_sem,q3v,enter,h]|(apply spl<;>intro h<;>try simp (disch:=omega) only[go_sem,h]))
 refine q0a (α:=Nat) (fun k=>qlQ (q06 x) [(6,.int .i64 k)] ((x.p.take k).map fun y=>q0g (q1V f y))) (fun k=>k≤x.p.length) (fun k=>x.p.length-k) 0 (by rw[hX,h]; rfl) (Kn _) ?_
 intro k hk
 rw[hX]
 unfold qlQ
 by_cases hlt:k<x.p.length
 ·obtain ⟨y,hy⟩:=q08 hlt
  have hym:=Kc hy
  have hy2:=q0d (g:=q1k) hy
  rw[q2g y] at hy2
  have r1:=q2r y.1.key
  have r2:=q6G y.1.req
  have r3:=hr y.2 (Kv.2 (.inl (KV.2 ⟨y,hym,rfl⟩)))
  have r4:=q1G [q1v y.1.key,q6n y.1.req,f y.2]
  have hen:(x.p.take (k+1)).map (fun y=>q0g (q1V f y))=(x.p.take k).map (fun y=>q0g (q1V f y))++[q0g (q1V f y)]:=by rw[KD,hy]; simp
  have hle:((x.p.take k).map (fun y=>q0g (q1V f y))).length=k:=by rw[Ka,KI]; omega
  have hpe:q0g (q1V f y)=q0g (q0A [q1v y.1.key,q6n y.1.req,f y.2]):=rfl
  rw[hpe] at hen
  simp only[Kd,Kl] at r4
  generalize q0A [q1v y.1.key,q6n y.1.req,f y.2]=P at *
  generalize f y.2=Y at *
  rw[q07 P] at r4 hen
  rw[q07 Y] at r3 r4
  rw[q02 y.2] at r3
  rw[q3e] at r1 r4
  rw[q3X] at r2 r4
  generalize hE:(x.p.take k).map (fun y=>q0g (q1V f y))=E at hen hle ⊢
  rcases E with _ | ⟨e0,es⟩
  all_goals
   simp only[List.length_cons,List.length_nil] at hle
   unfold roO roR zV
   (repeat' first|simp (disch:=omega) only[go_sem,hy2,Ka,List.length_cons,List.length_nil,Kf,Kh,Kj,q0R,Blk.mark,K5,Vf,Vu]|refine q00 _ (r1) ?_|refine q00 _ (r2) ?_|refine q00 _ (r3) ?_|refine q00 _ (r4) ?_|(apply spl<;>intro h<;>try simp (disch:=omega) only[go_sem,h]))
   all_goals try omega
   all_goals
    refine ⟨k+1,?_,hlt,by omega⟩
    rw[hen]
    simp only[qlQ,roO,roR,zV,hX,Kf,Kh,Kb,List.length_cons,List.length_nil,KS]
    first | rfl
 ·obtain rfl:k=x.p.length:=by omega
  rw[Ky]
  generalize x.p.map (fun y=>q0g (q1V f y))=E at b ⊢
  rcases E with _ | ⟨e0,es⟩
  all_goals
   unfold roO roR zV
   (repeat' first|simp (disch:=omega) only[go_sem,Ka,List.length_cons,List.length_nil,Kf,Kh,Kj,K4,Ky,q0R,Blk.mark,K5,Vf,Vu,Vj,Bool.or_true,if_true]|refine q00 _ (b) ?_|refine q00 _ (rw') ?_|refine q00 _ (c) ?_|refine q00 _ (d) ?_)
   all_goals first | rfl | omega
end Ago
set_option maxRecDepth 100000
set_option exponentiation.threshold 2000
set_option maxHeartbeats 4000000
namespace Ago
open Go (IntKind)
theorem qdV : ∀ (d:Nat) (x:Sch),WrS d x→d≤200→x.bulk≤2^20→q0m CT 525 [q06 x] (q0g (wrM d x))∧q0m CT 496 [q06 x] (q0g (wrM d x))
 | 0,x,h,_,_=>h.elim
 | d+1,x,h,hd,hx=>by
  have hbk:=q9x (d+1) x h
  obtain ⟨hf,hk⟩:=h
  have ih:=fun y hy=>qdV d y (hk y hy) (by omega) (by have:=Sch.kids_bulk hy; omega)
  have h1:=fun y hy=>(ih y hy).1
  have h2:=fun y hy=>(ih y hy).2
  have hs : ∀ y,y∈x.kids→Sh 900 (wrM d y):=fun y hy=>(qqn d y (hk y hy)).mono (by omega)
  have ha : ∀ y,y∈x.a→y∈x.kids:=fun y hy=>Kv.2 (.inr hy)
  have hb:(q10 (wrM d) x).bulk≤2^24:=by
   have e:wrM (d+1) x=q10 (wrM d) x:=rfl
   rw[e] at hbk
   omega
  have hx4:x.bulk≤2^24:=by omega
  show q0m CT 525 [q06 x] (q0g (q10 (wrM d) x))∧q0m CT 496 [q06 x] (q0g (q10 (wrM d) x))
  have ho:=qpb hf
  obtain o | o | o | o | o | o | o | o | o | o | o | o | o | o:x.s.op=1∨x.s.op=2∨x.s.op=3∨x.s.op=4∨x.s.op=5∨x.s.op=6∨x.s.op=7∨x.s.op=8∨x.s.op=9∨x.s.op=10∨x.s.op=11∨x.s.op=12∨x.s.op=13∨x.s.op=14:=by omega
  ·exact ⟨qp4 x o,qpc x o⟩
  ·exact ⟨qpx x o,qqt x o⟩
  ·exact ⟨qr5 x o,qpS x o⟩
  ·exact ⟨qpm x hx4 o,qq6 x hx4 o⟩
  ·exact ⟨qqz x hf o,qrk x hf o⟩
  ·exact ⟨qpg x hx4 hf o,qrl x hx4 hf o⟩
  ·exact ⟨qpy x o,qph x o⟩
  ·exact ⟨qqc x hx4 o hf,qqX x o⟩
  ·exact ⟨qqY x hx4 hf o (fun y hy=>h1 y (ha y hy)) (fun y hy=>hs y (ha y hy)) hb,qrd x hx4 hf o (fun y hy=>h2 y (ha y hy)) (fun y hy=>hs y (ha y hy)) hb⟩
  ·exact ⟨qo3 x hx4 hf o h1 hs hb,qoc x hx4 hf o h2⟩
  ·rw[qub o]
   exact ⟨qkG _ x hx4 (.inl ⟨o,rfl⟩) fun y hy=>h1 y (ha y hy),qkK _ x hx4 (.inl ⟨o,rfl⟩) fun y hy=>h2 y (ha y hy)⟩
  ·rw[qs0 o]
   exact ⟨qkG _ x hx4 (.inr ⟨o,rfl⟩) fun y hy=>h1 y (ha y hy),qkK _ x hx4 (.inr ⟨o,rfl⟩) fun y hy=>h2 y (ha y hy)⟩
  ·exact ⟨qnP x hf o fun y hy=>h1 y (ha y hy),qo4 x hf o fun y hy=>h2 y (ha y hy)⟩
  ·exact ⟨qop x o,qnz x o⟩
end Ago
