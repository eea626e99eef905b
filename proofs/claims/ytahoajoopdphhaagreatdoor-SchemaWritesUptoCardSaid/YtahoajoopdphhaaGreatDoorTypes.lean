/- The types of the program: values and schemas as trees. -/
import Derived.Test.YtahoajoopdphhaaGreatDoorRows
import Derived.Test.YtahoajoopdphhaaGreatDoorMachD
import Derived.Test.YtahoajoopdphhaaGreatDoorRunA
import Derived.JoinedCond
set_option linter.unusedSimpArgs false
set_option linter.unusedVariables false
set_option maxRecDepth 100000
namespace Go.Proofs.YtahoajoopdphhaaGreatDoor
open Ago Go.ChangeShapes Go.WideShapes Go.ChangeAt Go.RowKit

theorem own:ownKnob Tryz.prog.godebug=none:=by kernel_rfl
theorem laid:laidOutB Tryz.prog=true:=by kernel_rfl
def tys:List Nat:=[3,4,5,9,22,23,25,26,28,29,30,31,33,35,39,41,42,43,45,55,66,71,90,92]
theorem qw6:qkP Tryz.prog tys=true:=by kernel_rfl
theorem qxa:Tryz.prog.underlying 3=some (.int .i64):=by kernel_rfl
theorem qsa:Tryz.prog.underlying 4=some .bool:=by kernel_rfl
theorem qvQ:Tryz.prog.underlying 5=some (.int .u8):=by kernel_rfl
theorem qqq:Tryz.prog.underlying 9=some .string:=by kernel_rfl
theorem qte:q0n Tryz.prog 5=1:=by kernel_rfl
theorem qpk:q0n Tryz.prog 45=13:=by kernel_rfl
theorem qpR:q0n Tryz.prog 66=14:=by kernel_rfl
theorem qss:q0v Tryz.prog 5=false:=by kernel_rfl
theorem qrf:q0v Tryz.prog 45=true:=by kernel_rfl
theorem qr3:q0v Tryz.prog 66=true:=by kernel_rfl

theorem q7h {α β:Type} {g:α→β} : ∀ {l:List β},(∀ x,x∈l→∃ y,x=g y)→∃ ys:List α,l=ys.map g
  | [],_=>⟨[],rfl⟩
  | x::l,h=>by
    obtain ⟨y,rfl⟩:=h x (Ku ..)
    obtain ⟨ys,rfl⟩:=q7h fun z hz=>h z (Kt _ hz)
    exact ⟨y::ys,rfl⟩

theorem q6p {k:Nat} {cs:List AV} (h:q11 Tryz.prog k 3 cs) : ∃ n,cs=[.int .i64 n]:=by
  cases k with
  | zero=>exact h.elim
  | succ k=>simp only[q11,qxa] at h; obtain ⟨n,h,_⟩:=h; exact ⟨n,h⟩
theorem qdh {k:Nat} {cs:List AV} (h:q11 Tryz.prog k 4 cs) : ∃ b,cs=[.bool b]:=by
  cases k with
  | zero=>exact h.elim
  | succ k=>simp only[q11,qsa] at h; exact h
theorem q60 {k:Nat} {cs:List AV} (h:q11 Tryz.prog k 9 cs) : ∃ s,cs=[.str s]:=by
  cases k with
  | zero=>exact h.elim
  | succ k=>simp only[q11,qqq] at h; exact h
theorem qp3 {k:Nat} {cs:List AV} (h:q11 Tryz.prog k 42 cs) : ∃ b,cs=[.tsl 1 (q4O b)]:=by
  cases k with
  | zero=>exact h.elim
  | succ k=>
    simp only[q11,Tryz.underlying42,qte,qss] at h
    obtain ⟨l,rfl,hl⟩:=h
    obtain ⟨ys,rfl⟩:=q7h (g:=fun c:UInt8=>AV.int .u8 c.toNat) (l:=l) fun x hx=>by
      obtain ⟨h1,h2⟩:=hl x hx
      cases k with
      | zero=>exact h2.elim
      | succ k=>
        simp only[q11,qvQ] at h2
        obtain ⟨n,h3,h4⟩:=h2
        rw[h3] at h1
        cases h1
        have hn:0≤n∧n≤255:=by simpa [Lit.wf,IntKind.min,IntKind.max,IntKind.signed,IntKind.bits] using h4
        refine ⟨UInt8.ofNat n.toNat,?_⟩
        have:(UInt8.ofNat n.toNat).toNat=n.toNat:=UInt8.toNat_ofNat_of_lt' (by show n.toNat<256; omega)
        rw[this]
        congr 1
        omega
    exact ⟨ys,rfl⟩
theorem qsD {k:Nat} {cs:List AV} (h:q11 Tryz.prog k 39 cs) : ∃ d:Dec,cs=[.bool d.neg,.str d.digits,.int .i64 d.exp]:=by
  cases k with
  | zero=>exact h.elim
  | succ k=>
    simp only[q11,Tryz.underlying39,q6P] at h
    obtain ⟨a,b,rfl,h1,c,d,rfl,h2,e,f,rfl,h3,rfl⟩:=h
    obtain ⟨x,rfl⟩:=qdh h1
    obtain ⟨y,rfl⟩:=q60 h2
    obtain ⟨z,rfl⟩:=q6p h3
    exact ⟨⟨x,y,z⟩,rfl⟩
theorem qs3 {k:Nat} {cs:List AV} (h:q11 Tryz.prog k 41 cs) : ∃ t:Tm,cs=[.int .i64 t.kind,.int .i64 t.day,.int .i64 t.nano,.int .i64 t.off]:=by
  cases k with
  | zero=>exact h.elim
  | succ k=>
    simp only[q11,Tryz.underlying41,q6P] at h
    obtain ⟨a,b,rfl,h1,c,d,rfl,h2,e,f,rfl,h3,g,i,rfl,h4,rfl⟩:=h
    obtain ⟨x,rfl⟩:=q6p h1
    obtain ⟨y,rfl⟩:=q6p h2
    obtain ⟨z,rfl⟩:=q6p h3
    obtain ⟨w,rfl⟩:=q6p h4
    exact ⟨⟨x,y,z,w⟩,rfl⟩

theorem tyV : ∀ (k:Nat),(∀ cs,q11 Tryz.prog k 45 cs→∃ v:V,cs=(q0g v).cells)∧(∀ cs,q11 Tryz.prog k 66 cs→∃ x:List UInt8 × V,cs=(q0J x).cells)∧(∀ cs,q11 Tryz.prog k 29 cs→∃ l:List V,cs=[.tsl 13 (l.map q0g)])∧(∀ cs,q11 Tryz.prog k 43 cs→∃ l:List (List UInt8 × V),cs=[.tsl 14 (l.map q0J)]):=by
  intro k
  induction k with
  | zero=>exact ⟨fun cs h=>h.elim,fun cs h=>h.elim,fun cs h=>h.elim,fun cs h=>h.elim⟩
  | succ k ih=>
    obtain ⟨ih1,ih2,ih3,ih4⟩:=ih
    refine ⟨fun cs h=>?_,fun cs h=>?_,fun cs h=>?_,fun cs h=>?_⟩
    · simp only[q11,Tryz.underlying45,q6P] at h
      obtain ⟨a1,b1,rfl,h1,a2,b2,rfl,h2,a3,b3,rfl,h3,a4,b4,rfl,h4,a5,b5,rfl,h5,a6,b6,rfl,h6,a7,b7,rfl,h7,a8,b8,rfl,h8,rfl⟩:=h
      obtain ⟨x1,rfl⟩:=q6p h1
      obtain ⟨x2,rfl⟩:=qdh h2
      obtain ⟨x3,rfl⟩:=qsD h3
      obtain ⟨x4,rfl⟩:=qs3 h4
      obtain ⟨x5,rfl⟩:=q60 h5
      obtain ⟨x6,rfl⟩:=qp3 h6
      obtain ⟨x7,rfl⟩:=ih3 _ h7
      obtain ⟨x8,rfl⟩:=ih4 _ h8
      refine ⟨.mk ⟨x1,x2,x3,x4,x5,x6⟩ x7 x8,?_⟩
      rw[q07]
      rfl
    · simp only[q11,Tryz.underlying66,q6P] at h
      obtain ⟨a1,b1,rfl,h1,a2,b2,rfl,h2,rfl⟩:=h
      obtain ⟨x1,rfl⟩:=q60 h1
      obtain ⟨x2,rfl⟩:=ih1 _ h2
      refine ⟨(x1,x2),?_⟩
      simp [q0J,AV.cells]
    · simp only[q11,Tryz.underlying29,qpk,qrf] at h
      obtain ⟨l,rfl,hl⟩:=h
      obtain ⟨ys,rfl⟩:=q7h (g:=q0g) (l:=l) fun x hx=>by
        obtain ⟨h1,h2⟩:=hl x hx
        obtain ⟨v,hv⟩:=ih1 _ h2
        rw[hv] at h1
        refine ⟨v,?_⟩
        rw[q07] at h1 ⊢
        exact (K7 h1).symm
      exact ⟨ys,rfl⟩
    · simp only[q11,Tryz.underlying43,qpR,qr3] at h
      obtain ⟨l,rfl,hl⟩:=h
      obtain ⟨ys,rfl⟩:=q7h (g:=q0J) (l:=l) fun x hx=>by
        obtain ⟨h1,h2⟩:=hl x hx
        obtain ⟨v,hv⟩:=ih2 _ h2
        rw[hv] at h1
        refine ⟨v,?_⟩
        unfold q0J at h1 ⊢
        exact (K7 h1).symm
      exact ⟨ys,rfl⟩

theorem qsC:q0n Tryz.prog 92=11:=by kernel_rfl
theorem qti:q0v Tryz.prog 92=true:=by kernel_rfl
theorem qwu:q0n Tryz.prog 28=6:=by kernel_rfl
theorem qvJ:q0v Tryz.prog 28=true:=by kernel_rfl
theorem qvC:q0n Tryz.prog 33=15:=by kernel_rfl
theorem qvT:q0v Tryz.prog 33=true:=by kernel_rfl
theorem qsO:q0n Tryz.prog 71=17:=by kernel_rfl
theorem qse:q0v Tryz.prog 71=true:=by kernel_rfl
theorem qrE {k:Nat} {cs:List AV} (h:q11 Tryz.prog k 90 cs) : ∃ b:Bnd,cs=[.bool b.set,.bool b.num.neg,.str b.num.digits,.int .i64 b.num.exp,.bool b.opn]:=by
  cases k with
  | zero=>exact h.elim
  | succ k=>
    simp only[q11,Tryz.underlying90,q6P] at h
    obtain ⟨a,b,rfl,h1,c,d,rfl,h2,e,f,rfl,h3,rfl⟩:=h
    obtain ⟨x,rfl⟩:=qdh h1
    obtain ⟨y,rfl⟩:=qsD h2
    obtain ⟨z,rfl⟩:=qdh h3
    exact ⟨⟨x,y,z⟩,rfl⟩
theorem qu3 {k:Nat} {cs:List AV} (h:q11 Tryz.prog k 92 cs) : ∃ p:Prt,cs=(q0p p).cells:=by
  cases k with
  | zero=>exact h.elim
  | succ k=>
    simp only[q11,Tryz.underlying92,q6P] at h
    obtain ⟨a,b,rfl,h1,c,d,rfl,h2,e,f,rfl,h3,rfl⟩:=h
    obtain ⟨x,rfl⟩:=qrE h1
    obtain ⟨y,rfl⟩:=qrE h2
    obtain ⟨z,rfl⟩:=q6p h3
    exact ⟨⟨x,y,z⟩,rfl⟩
theorem qre {k:Nat} {cs:List AV} (h:q11 Tryz.prog k 23 cs) : ∃ l:List Prt,cs=[.tsl 11 (l.map q0p)]:=by
  cases k with
  | zero=>exact h.elim
  | succ k=>
    simp only[q11,Tryz.underlying23,qsC,qti] at h
    obtain ⟨l,rfl,hl⟩:=h
    obtain ⟨ys,rfl⟩:=q7h (g:=q0p) (l:=l) fun x hx=>by
      obtain ⟨h1,h2⟩:=hl x hx
      obtain ⟨v,hv⟩:=qu3 h2
      rw[hv] at h1
      exact ⟨v,(K7 h1).symm⟩
    exact ⟨ys,rfl⟩
theorem qxb {k:Nat} {cs:List AV} (h:q11 Tryz.prog k 25 cs) : ∃ l:List Prt,cs=[.tsl 11 (l.map q0p)]:=by
  cases k with
  | zero=>exact h.elim
  | succ k=>
    simp only[q11,Tryz.underlying25,q6P] at h
    obtain ⟨a,b,rfl,h1,rfl⟩:=h
    obtain ⟨x,rfl⟩:=qre h1
    exact ⟨x,rfl⟩
theorem qws : ∀ (k:Nat),(∀ cs,q11 Tryz.prog k 28 cs→∃ p:Pat,cs=(q04 p).cells)∧(∀ cs,q11 Tryz.prog k 26 cs→∃ l:List Pat,cs=[.tsl 6 (l.map q04)]):=by
  intro k
  induction k with
  | zero=>exact ⟨fun cs h=>h.elim,fun cs h=>h.elim⟩
  | succ k ih=>
    obtain ⟨ih1,ih2⟩:=ih
    refine ⟨fun cs h=>?_,fun cs h=>?_⟩
    · simp only[q11,Tryz.underlying28,q6P] at h
      obtain ⟨a1,b1,rfl,h1,a2,b2,rfl,h2,a3,b3,rfl,h3,a4,b4,rfl,h4,a5,b5,rfl,h5,a6,b6,rfl,h6,rfl⟩:=h
      obtain ⟨x1,rfl⟩:=q6p h1
      obtain ⟨x2,rfl⟩:=q6p h2
      obtain ⟨x3,rfl⟩:=q6p h3
      obtain ⟨x4,rfl⟩:=q6p h4
      obtain ⟨x5,rfl⟩:=q6p h5
      obtain ⟨x6,rfl⟩:=ih2 _ h6
      refine ⟨.mk ⟨x1,x2,x3,x4,x5⟩ x6,?_⟩
      rw[q0e]
      rfl
    · simp only[q11,Tryz.underlying26,qwu,qvJ] at h
      obtain ⟨l,rfl,hl⟩:=h
      obtain ⟨ys,rfl⟩:=q7h (g:=q04) (l:=l) fun x hx=>by
        obtain ⟨h1,h2⟩:=hl x hx
        obtain ⟨v,hv⟩:=ih1 _ h2
        rw[hv] at h1
        refine ⟨v,?_⟩
        rw[q0e] at h1 ⊢
        exact (K7 h1).symm
      exact ⟨ys,rfl⟩
theorem quq : ∀ (k:Nat),(∀ cs,q11 Tryz.prog k 33 cs→∃ x:Sch,cs=(q06 x).cells)∧(∀ cs,q11 Tryz.prog k 71 cs→∃ x:PK × Sch,cs=(q1k x).cells)∧(∀ cs,q11 Tryz.prog k 31 cs→∃ l:List Sch,cs=[.tsl 15 (l.map q06)])∧(∀ cs,q11 Tryz.prog k 30 cs→∃ l:List (PK × Sch),cs=[.tsl 17 (l.map q1k)]):=by
  intro k
  induction k with
  | zero=>exact ⟨fun cs h=>h.elim,fun cs h=>h.elim,fun cs h=>h.elim,fun cs h=>h.elim⟩
  | succ k ih=>
    obtain ⟨ih1,ih2,ih3,ih4⟩:=ih
    refine ⟨fun cs h=>?_,fun cs h=>?_,fun cs h=>?_,fun cs h=>?_⟩
    · simp only[q11,Tryz.underlying33,q6P] at h
      obtain ⟨a1,b1,rfl,h1,a2,b2,rfl,h2,a3,b3,rfl,h3,a4,b4,rfl,h4,a5,b5,rfl,h5,a6,b6,rfl,h6,a7,b7,rfl,h7,a8,b8,rfl,h8,a9,b9,rfl,h9,a10,b10,rfl,h10,rfl⟩:=h
      obtain ⟨x1,rfl⟩:=q6p h1
      obtain ⟨x2,rfl⟩:=q6p h2
      obtain ⟨x3,rfl⟩:=q6p h3
      obtain ⟨x4,rfl⟩:=q6p h4
      obtain ⟨x5,rfl⟩:=q60 h5
      obtain ⟨x6,rfl⟩:=qxb h6
      obtain ⟨x7,rfl⟩:=(qws k).1 _ h7
      obtain ⟨x8,rfl⟩:=(tyV k).2.2.1 _ h8
      obtain ⟨x9,rfl⟩:=ih4 _ h9
      obtain ⟨x10,rfl⟩:=ih3 _ h10
      refine ⟨.mk ⟨x1,x2,x3,x4,x5,x6,x7,x8⟩ x9 x10,?_⟩
      rw[q02,q0e]
      rfl
    · simp only[q11,Tryz.underlying71,q6P] at h
      obtain ⟨a1,b1,rfl,h1,a2,b2,rfl,h2,a3,b3,rfl,h3,rfl⟩:=h
      obtain ⟨x1,rfl⟩:=q60 h1
      obtain ⟨x2,rfl⟩:=qdh h2
      obtain ⟨x3,rfl⟩:=ih1 _ h3
      refine ⟨(⟨x1,x2⟩,x3),?_⟩
      simp [q1k,AV.cells]
    · simp only[q11,Tryz.underlying31,qvC,qvT] at h
      obtain ⟨l,rfl,hl⟩:=h
      obtain ⟨ys,rfl⟩:=q7h (g:=q06) (l:=l) fun x hx=>by
        obtain ⟨h1,h2⟩:=hl x hx
        obtain ⟨v,hv⟩:=ih1 _ h2
        rw[hv] at h1
        refine ⟨v,?_⟩
        rw[q02] at h1 ⊢
        exact (K7 h1).symm
      exact ⟨ys,rfl⟩
    · simp only[q11,Tryz.underlying30,qsO,qse] at h
      obtain ⟨l,rfl,hl⟩:=h
      obtain ⟨ys,rfl⟩:=q7h (g:=q1k) (l:=l) fun x hx=>by
        obtain ⟨h1,h2⟩:=hl x hx
        obtain ⟨v,hv⟩:=ih2 _ h2
        rw[hv] at h1
        refine ⟨v,?_⟩
        rw[q2g] at h1 ⊢
        exact (K7 h1).symm
      exact ⟨ys,rfl⟩
theorem qwi:q0n Tryz.prog 55=16:=by kernel_rfl
theorem qvO:q0v Tryz.prog 55=true:=by kernel_rfl
theorem qwF:q0v Tryz.prog 35=true:=by kernel_rfl
theorem qwD {k:Nat} {cs:List AV} (h:q11 Tryz.prog k 55 cs) : ∃ d:List UInt8 × Sch,cs=(q0H d).cells:=by
  cases k with
  | zero=>exact h.elim
  | succ k=>
    simp only[q11,Tryz.underlying55,q6P] at h
    obtain ⟨a1,b1,rfl,h1,a2,b2,rfl,h2,rfl⟩:=h
    obtain ⟨x1,rfl⟩:=q60 h1
    obtain ⟨x2,rfl⟩:=(quq k).1 _ h2
    refine ⟨(x1,x2),?_⟩
    simp [q0H,AV.cells]
theorem qug {k:Nat} {cs:List AV} (h:q11 Tryz.prog k 22 cs) : ∃ l:List (List UInt8 × Sch),cs=[.tsl 16 (l.map q0H)]:=by
  cases k with
  | zero=>exact h.elim
  | succ k=>
    simp only[q11,Tryz.underlying22,qwi,qvO] at h
    obtain ⟨l,rfl,hl⟩:=h
    obtain ⟨ys,rfl⟩:=q7h (g:=q0H) (l:=l) fun x hx=>by
      obtain ⟨h1,h2⟩:=hl x hx
      obtain ⟨v,hv⟩:=qwD h2
      rw[hv] at h1
      refine ⟨v,?_⟩
      rw[q0K] at h1 ⊢
      exact (K7 h1).symm
    exact ⟨ys,rfl⟩
theorem qpo {x:AV} (h:qqT Tryz.prog 35 x) : ∃ v:Schs,x=q0y v:=by
  obtain ⟨k,h1,h2⟩:=h
  cases k with
  | zero=>exact h2.elim
  | succ k=>
    simp only[q11,Tryz.underlying35,q6P] at h2
    obtain ⟨a1,b1,e,k1,a2,b2,rfl,k2,rfl⟩:=h2
    obtain ⟨x1,rfl⟩:=qug k1
    obtain ⟨x2,rfl⟩:=(quq k).1 _ k2
    rw[e,qwF] at h1
    refine ⟨⟨x1,x2⟩,?_⟩
    rw[q0h]
    rw[q02] at h1
    exact (K7 h1).symm
theorem qsH (H:Type):BulkFn (H:=H) Rows.uptoBulk Rows.uptoBulkAll where
  one d:=by
    cases d with
    | lit l=>cases l<;>simp [Rows.uptoBulk]
    | _=>simp [Rows.uptoBulk]
  str b:=by simp [Rows.uptoBulk]
  slice e s:=by simp [Rows.uptoBulk]
  agg p:=by simp [Rows.uptoBulk]
  nil:=by simp [Rows.uptoBulkAll]
  cons d l:=by simp [Rows.uptoBulkAll]

end Go.Proofs.YtahoajoopdphhaaGreatDoor
