/- Layer 7 of the references: what is wrong with a value. -/
import Derived.Test.YtahoajoopdphhaaGreatDoorRunA
set_option linter.unusedSimpArgs false
set_option linter.unusedVariables false
set_option maxRecDepth 100000
set_option maxHeartbeats 4000000
namespace Ago
open Go (IntKind)
def qwd (v:V):Prop:=(v.s.kind=6∨v.l.length=0)∧(v.s.kind=7∨v.f.length=0)
end Ago
set_option maxRecDepth 100000
set_option maxHeartbeats 4000000
namespace Ago
open Go (IntKind)

end Ago
set_option maxRecDepth 100000
set_option maxHeartbeats 4000000
namespace Ago
open Go (IntKind)
def V.kids (v:V):List V:=if v.s.kind=7 then v.f.map (·.2) else v.l

theorem qnk (v:V) (hv:v.bulk≤2^24):q0m C0 58 [q0g v] (.tsl 13 (v.kids.map q0g)):=by
 have L:=V.lens hv
 refine q05 qqU rfl ?_
 rw[q07]
 by_cases h7:v.s.kind=7
 ·(repeat' first|simp (disch:=omega) only[go_sem,qqU,enter]|(apply spl<;>intro h<;>try simp (disch:=omega) only[go_sem,qqU,enter,h]))
  refine q0a (α:=Nat × List AV) (fun a=>{ tmps:=q0i 27 [(1,.ptr 13 0 0 0),(3,q0B 13 1 a.2),(4,.int .i64 a.1)],heap:=[.row 13 [q0g v] false true 0]++q0z 13 1 a.2,base:=0 }) (fun a=>a.1≤v.f.length∧a.2=(v.f.take a.1).map fun x=>q0g x.2) (fun a=>v.f.length-a.1) (0,[]) (by rw[q07]; rfl) (by simp) ?_
  rintro ⟨k,els⟩ ⟨hk,hl⟩
  simp only at hk hl
  rw[q07]
  by_cases hlt:k<v.f.length
  ·obtain ⟨x,hx⟩:=q08 hlt
   have hx2:=q0d (g:=q0J) hx
   rw[q17] at hx2
   have hnew:els++[q0g x.2]=(v.f.take (k+1)).map fun x=>q0g x.2:=by rw[hl,KD,hx]; simp
   rw[q07 x.2] at hnew
   have hlen:els.length=k:=by rw[hl]; simp; omega
   have hfl:=L.fields
   cases els with
   | nil=>
    (repeat' first|simp (disch:=omega) only[go_sem,hx2,Ka,q0B,q0z]|(apply spl<;>intro h<;>try simp (disch:=omega) only[go_sem,hx2,Ka,q0B,q0z,h]))
    refine ⟨(k+1,(v.f.take (k+1)).map fun x=>q0g x.2),?_,⟨hlt,rfl⟩,by simp only; omega⟩
    simp only[←hnew]
    rfl
   | cons y els=>
    simp only[List.length_cons] at hlen
    (repeat' first|simp (disch:=omega) only[go_sem,hx2,Ka,q0B,q0z]|(apply spl<;>intro h<;>try simp (disch:=omega) only[go_sem,hx2,Ka,q0B,q0z,h]))
    refine ⟨(k+1,(v.f.take (k+1)).map fun x=>q0g x.2),?_,⟨hlt,rfl⟩,by simp only; omega⟩
    simp only[←hnew,Kf,q0B,q0z,Kb,List.length_cons,List.length_nil]
    rfl
  ·have hf:els=v.kids.map q0g:=by
    rw[hl,q0M hlt hk]
    simp [V.kids,h7]
   rw[←hf]
   cases els with
   | nil=>
    (repeat' first|simp (disch:=omega) only[go_sem,Ka,q0B,q0z])
   | cons y els=>
    (repeat' first|simp (disch:=omega) only[go_sem,Ka,q0B,q0z,Ky])
 ·(repeat' first|simp (disch:=omega) only[go_sem,qqU,enter]|(apply spl<;>intro h<;>try simp (disch:=omega) only[go_sem,qqU,enter,h]))
  simp [V.kids,h7]

inductive Good:Nat→V→Prop where
 | mk {n:Nat} {v:V} (h:q6C v.s.num=true) (ho:qwd v) (hk : ∀ x,x∈v.kids→Good n x):Good (n+1) v

theorem kids_bulk {v:V} (hv:v.bulk≤2^24):(∀ x,x∈v.kids→x.bulk<v.bulk)∧v.kids.length<2^24:=by
 have L:=V.lens hv
 unfold V.kids
 split
 ·refine ⟨fun x hx=>?_,by simp only[Ka]; exact L.fields⟩
  obtain ⟨y,hy,rfl⟩:=KV.1 hx
  exact (L.fkids y hy).1
 ·exact ⟨L.kids,L.list⟩

end Ago
set_option maxRecDepth 100000
set_option maxHeartbeats 4000000
namespace Ago
open Go (IntKind)
theorem qp9 : ∀ (n:Nat) (v:V),v.bulk≤n→n≤2^24→∀ (left d:Int),0≤left→left<2^30→-1≤d→d<2^30→∃ r:Int,q0m C0 38 [q0g v,.int .i64 left,.int .i64 d] (.int .i64 r)∧-1≤r∧r<2^30:=by
 intro n
 induction n with
 | zero=>
  intro v hv
  have:1≤v.bulk:=q46 _
  omega
 | succ n ih=>
  intro v hv hn left d hl1 hl2 hd1 hd2
  have L:=V.lens (v:=v) (N:=2^24) (by omega)
  have h:=q4I (C:=C0) (f:=38) (ts:=[q0g v,.int .i64 left,.int .i64 d]) (k:=fun w=>∃ r:Int,w = .int .i64 r∧-1≤r∧r<2^30) qpl rfl (by
   rw[q07]
   by_cases hdz:d≤0
   ·(repeat' first|simp (disch:=omega) only[go_sem,qpl,enter,Ka]|(apply spl<;>intro h<;>try simp (disch:=omega) only[go_sem,qpl,enter,Ka,h]))
    exact ⟨_,rfl,by omega,by omega⟩
   (repeat' first|simp (disch:=omega) only[go_sem,qpl,enter,Ka]|(apply spl<;>intro h<;>try simp (disch:=omega) only[go_sem,qpl,enter,Ka,h]))
   all_goals first | exact ⟨_,rfl,by omega,by omega⟩ | skip
   refine q0a (α:=Nat × Int) (fun a=>{ tmps:=q0i 69 [(1,.int .i64 a.2),(2,.int .i64 d),(3,.ptr 13 0 0 0),(7,.int .i64 a.1)],heap:=[.row 13 [q0g v] false true 0],base:=0 }) (fun a=>a.1≤v.l.length∧-1≤a.2∧a.2<2^30) (fun a=>v.l.length-a.1) (0,left-1) (by rw[q07]; rfl) ⟨Kn _,by simp only; omega,by simp only; omega⟩ ?_
   rintro ⟨k,lf⟩ ⟨hk,hs3,hs4⟩
   simp only at hk hs3 hs4
   rw[q07]
   by_cases hlt:k<v.l.length∧0≤lf
   ·obtain ⟨hlt,hlf⟩:=hlt
    obtain ⟨x,hx⟩:=q08 hlt
    have hxm:=Kc hx
    have hx2:=q0d (g:=q0g) hx
    obtain ⟨r,hr,k1,k2⟩:=ih x (by have:=L.kids x hxm; omega) (by omega) lf (d-1) (by omega) (by omega) (by omega) (by omega)
    rw[q07] at hx2 hr
    (repeat' first|simp (disch:=omega) only[go_sem,hx2,Ka]|refine q00 _ (hr) ?_|(apply spl<;>intro h<;>try simp (disch:=omega) only[go_sem,hx2,Ka ,h]))
    exact ⟨(k+1,r),rfl,⟨hlt,by simp only; omega,by simp only; omega⟩,by simp only; omega⟩
   ·have key : ∀ lf:Int,-1≤lf→lf<2^30→∀ (k:Nat),True:=fun _ _ _ _=>trivial
    by_cases hlt2:k<v.l.length
    ·have hlf:lf<0:=by omega
     (repeat' first|simp (disch:=omega) only[go_sem,Ka]|(apply spl<;>intro h<;>try simp (disch:=omega) only[go_sem,Ka,h]))
     refine q0a (α:=Nat × Int) (fun a=>{ tmps:=q0i 69 [(1,.int .i64 a.2),(2,.int .i64 d),(3,.ptr 13 0 0 0),(8,.int .i64 a.1)],heap:=[.row 13 [q0g v] false true 0],base:=0 }) (fun a=>a.1≤v.f.length∧-1≤a.2∧a.2<2^30) (fun a=>v.f.length-a.1) (0,lf) (by rw[q07]; rfl) ⟨Kn _,by simp only; omega,by simp only; omega⟩ ?_
     clear hk hs3 hs4 hlt hlt2
     rintro ⟨k,lf⟩ ⟨hk,hs3,hs4⟩
     simp only at hk hs3 hs4
     rw[q07]
     by_cases hlt:k<v.f.length∧0≤lf
     ·obtain ⟨hlt,hlf⟩:=hlt
      obtain ⟨x,hx⟩:=q08 hlt
      have hxm:=Kc hx
      have hx2:=q0d (g:=q0J) hx
      obtain ⟨r,hr,k1,k2⟩:=ih x.2 (by have:=(L.fkids x hxm).1; omega) (by omega) lf (d-1) (by omega) (by omega) (by omega) (by omega)
      rw[q17] at hx2
      rw[q07] at hr
      (repeat' first|simp (disch:=omega) only[go_sem,hx2,Ka]|refine q00 _ (hr) ?_|(apply spl<;>intro h<;>try simp (disch:=omega) only[go_sem,hx2,Ka ,h]))
      exact ⟨(k+1,r),rfl,⟨hlt,by simp only; omega,by simp only; omega⟩,by simp only; omega⟩
     ·by_cases hlt2:k<v.f.length
      ·have hlf:lf<0:=by omega
       (repeat' first|simp (disch:=omega) only[go_sem,Ka]|(apply spl<;>intro h<;>try simp (disch:=omega) only[go_sem,Ka,h]))
       exact ⟨_,rfl,by omega,by omega⟩
      ·(repeat' first|simp (disch:=omega) only[go_sem,Ka]|(apply spl<;>intro h<;>try simp (disch:=omega) only[go_sem,Ka,h]))
       exact ⟨_,rfl,by omega,by omega⟩
    ·(repeat' first|simp (disch:=omega) only[go_sem,Ka]|(apply spl<;>intro h<;>try simp (disch:=omega) only[go_sem,Ka,h]))
     refine q0a (α:=Nat × Int) (fun a=>{ tmps:=q0i 69 [(1,.int .i64 a.2),(2,.int .i64 d),(3,.ptr 13 0 0 0),(8,.int .i64 a.1)],heap:=[.row 13 [q0g v] false true 0],base:=0 }) (fun a=>a.1≤v.f.length∧-1≤a.2∧a.2<2^30) (fun a=>v.f.length-a.1) (0,lf) (by rw[q07]; rfl) ⟨Kn _,by simp only; omega,by simp only; omega⟩ ?_
     clear hk hs3 hs4 hlt hlt2
     rintro ⟨k,lf⟩ ⟨hk,hs3,hs4⟩
     simp only at hk hs3 hs4
     rw[q07]
     by_cases hlt:k<v.f.length∧0≤lf
     ·obtain ⟨hlt,hlf⟩:=hlt
      obtain ⟨x,hx⟩:=q08 hlt
      have hxm:=Kc hx
      have hx2:=q0d (g:=q0J) hx
      obtain ⟨r,hr,k1,k2⟩:=ih x.2 (by have:=(L.fkids x hxm).1; omega) (by omega) lf (d-1) (by omega) (by omega) (by omega) (by omega)
      rw[q17] at hx2
      rw[q07] at hr
      (repeat' first|simp (disch:=omega) only[go_sem,hx2,Ka]|refine q00 _ (hr) ?_|(apply spl<;>intro h<;>try simp (disch:=omega) only[go_sem,hx2,Ka ,h]))
      exact ⟨(k+1,r),rfl,⟨hlt,by simp only; omega,by simp only; omega⟩,by simp only; omega⟩
     ·by_cases hlt2:k<v.f.length
      ·have hlf:lf<0:=by omega
       (repeat' first|simp (disch:=omega) only[go_sem,Ka]|(apply spl<;>intro h<;>try simp (disch:=omega) only[go_sem,Ka,h]))
       exact ⟨_,rfl,by omega,by omega⟩
      ·(repeat' first|simp (disch:=omega) only[go_sem,Ka]|(apply spl<;>intro h<;>try simp (disch:=omega) only[go_sem,Ka,h]))
       exact ⟨_,rfl,by omega,by omega⟩)
  obtain ⟨w,k1,r,rfl,k2,k3⟩:=h
  exact ⟨r,k1,k2,k3⟩

theorem qmR (v:V) (hv:v.bulk≤2^24) (n d:Int) (h1:0≤n) (h2:n<2^30) (h3 : -1≤d) (h4:d<2^30) : ∃ b,q0m C0 18 [q0g v,.int .i64 n,.int .i64 d] (.bool b):=by
 obtain ⟨r,k1,_,_⟩:=qp9 _ v (Kr _) hv n d h1 h2 h3 h4
 rw[q07] at k1 ⊢
 refine ⟨decide (r≥0),q05 qtV rfl ?_⟩
 (repeat' first|simp (disch:=omega) only[go_sem,qtV,enter]|refine q00 _ (k1) ?_|(apply spl<;>intro h<;>try simp (disch:=omega) only[go_sem,qtV,enter ,h]))
end Ago
