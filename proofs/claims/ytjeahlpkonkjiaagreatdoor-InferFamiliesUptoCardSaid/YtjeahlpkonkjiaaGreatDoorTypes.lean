/- The types of the program: values and schemas as trees. -/
import Derived.Test.YtjeahlpkonkjiaaGreatDoorRows
import Derived.Test.YtjeahlpkonkjiaaGreatDoorMachD
import Derived.Test.YtjeahlpkonkjiaaGreatDoorRunA
import Derived.JoinedCond
set_option linter.unusedSimpArgs false
set_option linter.unusedVariables false
set_option maxRecDepth 100000
namespace Go.Proofs.YtjeahlpkonkjiaaGreatDoor
open Ago Go.ChangeShapes Go.WideShapes Go.ChangeAt Go.RowKit

theorem own:ownKnob Tryz.prog.godebug=none:=by kernel_rfl
theorem laid:laidOutB Tryz.prog=true:=by kernel_rfl
def tys:List Nat:=[3,4,5,9,22,24,25,27,28,29,30,32,46,48,49,50,52,62,66,68,70,76,78,95,251]
theorem qw3:qlH Tryz.prog tys=true:=by kernel_rfl
theorem qyQ:Tryz.prog.underlying 3=some (.int .i64):=by kernel_rfl
theorem qre:Tryz.prog.underlying 4=some .bool:=by kernel_rfl
theorem qxT:Tryz.prog.underlying 5=some (.int .u8):=by kernel_rfl
theorem qrL:Tryz.prog.underlying 9=some .string:=by kernel_rfl
theorem qvK:q0p Tryz.prog 5=1:=by kernel_rfl
theorem qs6:q0p Tryz.prog 52=13:=by kernel_rfl
theorem qrt:q0p Tryz.prog 62=14:=by kernel_rfl
theorem qun:q0z Tryz.prog 5=false:=by kernel_rfl
theorem qra:q0z Tryz.prog 52=true:=by kernel_rfl
theorem qrE:q0z Tryz.prog 62=true:=by kernel_rfl

theorem q8B {α β:Type} {g:α→β} : ∀ {l:List β},(∀ x,x∈l→∃ y,x=g y)→∃ ys:List α,l=ys.map g
  | [],_=>⟨[],rfl⟩
  | x::l,h=>by
    obtain ⟨y,rfl⟩:=h x (Kn ..)
    obtain ⟨ys,rfl⟩:=q8B fun z hz=>h z (Kp _ hz)
    exact ⟨y::ys,rfl⟩

theorem q6p {k:Nat} {cs:List AV} (h:q0U Tryz.prog k 3 cs) : ∃ n,cs=[.int .i64 n]:=by
  cases k with
  | zero=>exact h.elim
  | succ k=>simp only[q0U,qyQ] at h; obtain ⟨n,h,_⟩:=h; exact ⟨n,h⟩
theorem qeP {k:Nat} {cs:List AV} (h:q0U Tryz.prog k 4 cs) : ∃ b,cs=[.bool b]:=by
  cases k with
  | zero=>exact h.elim
  | succ k=>simp only[q0U,qre] at h; exact h
theorem q7D {k:Nat} {cs:List AV} (h:q0U Tryz.prog k 9 cs) : ∃ s,cs=[.str s]:=by
  cases k with
  | zero=>exact h.elim
  | succ k=>simp only[q0U,qrL] at h; exact h
theorem qsk {k:Nat} {cs:List AV} (h:q0U Tryz.prog k 49 cs) : ∃ b,cs=[.tsl 1 (q3f b)]:=by
  cases k with
  | zero=>exact h.elim
  | succ k=>
    simp only[q0U,Tryz.underlying49,qvK,qun] at h
    obtain ⟨l,rfl,hl⟩:=h
    obtain ⟨ys,rfl⟩:=q8B (g:=fun c:UInt8=>AV.int .u8 c.toNat) (l:=l) fun x hx=>by
      obtain ⟨h1,h2⟩:=hl x hx
      cases k with
      | zero=>exact h2.elim
      | succ k=>
        simp only[q0U,qxT] at h2
        obtain ⟨n,h3,h4⟩:=h2
        rw[h3] at h1
        cases h1
        have hn:0≤n∧n≤255:=by simpa [Lit.wf,IntKind.min,IntKind.max,IntKind.signed,IntKind.bits] using h4
        refine ⟨UInt8.ofNat n.toNat,?_⟩
        have:(UInt8.ofNat n.toNat).toNat=n.toNat:=UInt8.toNat_ofNat_of_lt' (by show n.toNat<256; omega)
        rw[this]
        congr 1
        omega
    exact ⟨ys,rfl⟩
theorem qtz {k:Nat} {cs:List AV} (h:q0U Tryz.prog k 46 cs) : ∃ d:Dec,cs=[.bool d.neg,.str d.digits,.int .i64 d.exp]:=by
  cases k with
  | zero=>exact h.elim
  | succ k=>
    simp only[q0U,Tryz.underlying46,q8u] at h
    obtain ⟨a,b,rfl,h1,c,d,rfl,h2,e,f,rfl,h3,rfl⟩:=h
    obtain ⟨x,rfl⟩:=qeP h1
    obtain ⟨y,rfl⟩:=q7D h2
    obtain ⟨z,rfl⟩:=q6p h3
    exact ⟨⟨x,y,z⟩,rfl⟩
theorem qw5 {k:Nat} {cs:List AV} (h:q0U Tryz.prog k 48 cs) : ∃ t:Tm,cs=[.int .i64 t.kind,.int .i64 t.day,.int .i64 t.nano,.int .i64 t.off]:=by
  cases k with
  | zero=>exact h.elim
  | succ k=>
    simp only[q0U,Tryz.underlying48,q8u] at h
    obtain ⟨a,b,rfl,h1,c,d,rfl,h2,e,f,rfl,h3,g,i,rfl,h4,rfl⟩:=h
    obtain ⟨x,rfl⟩:=q6p h1
    obtain ⟨y,rfl⟩:=q6p h2
    obtain ⟨z,rfl⟩:=q6p h3
    obtain ⟨w,rfl⟩:=q6p h4
    exact ⟨⟨x,y,z,w⟩,rfl⟩

theorem tyV : ∀ (k:Nat),(∀ cs,q0U Tryz.prog k 52 cs→∃ v:V,cs=(q0u v).cells)∧(∀ cs,q0U Tryz.prog k 62 cs→∃ x:List UInt8 × V,cs=(q0C x).cells)∧(∀ cs,q0U Tryz.prog k 28 cs→∃ l:List V,cs=[.tsl 13 (l.map q0u)])∧(∀ cs,q0U Tryz.prog k 50 cs→∃ l:List (List UInt8 × V),cs=[.tsl 14 (l.map q0C)]):=by
  intro k
  induction k with
  | zero=>exact ⟨fun cs h=>h.elim,fun cs h=>h.elim,fun cs h=>h.elim,fun cs h=>h.elim⟩
  | succ k ih=>
    obtain ⟨ih1,ih2,ih3,ih4⟩:=ih
    refine ⟨fun cs h=>?_,fun cs h=>?_,fun cs h=>?_,fun cs h=>?_⟩
    · simp only[q0U,Tryz.underlying52,q8u] at h
      obtain ⟨a1,b1,rfl,h1,a2,b2,rfl,h2,a3,b3,rfl,h3,a4,b4,rfl,h4,a5,b5,rfl,h5,a6,b6,rfl,h6,a7,b7,rfl,h7,a8,b8,rfl,h8,rfl⟩:=h
      obtain ⟨x1,rfl⟩:=q6p h1
      obtain ⟨x2,rfl⟩:=qeP h2
      obtain ⟨x3,rfl⟩:=qtz h3
      obtain ⟨x4,rfl⟩:=qw5 h4
      obtain ⟨x5,rfl⟩:=q7D h5
      obtain ⟨x6,rfl⟩:=qsk h6
      obtain ⟨x7,rfl⟩:=ih3 _ h7
      obtain ⟨x8,rfl⟩:=ih4 _ h8
      refine ⟨.mk ⟨x1,x2,x3,x4,x5,x6⟩ x7 x8,?_⟩
      rw[q0a]
      rfl
    · simp only[q0U,Tryz.underlying62,q8u] at h
      obtain ⟨a1,b1,rfl,h1,a2,b2,rfl,h2,rfl⟩:=h
      obtain ⟨x1,rfl⟩:=q7D h1
      obtain ⟨x2,rfl⟩:=ih1 _ h2
      refine ⟨(x1,x2),?_⟩
      simp [q0C,AV.cells]
    · simp only[q0U,Tryz.underlying28,qs6,qra] at h
      obtain ⟨l,rfl,hl⟩:=h
      obtain ⟨ys,rfl⟩:=q8B (g:=q0u) (l:=l) fun x hx=>by
        obtain ⟨h1,h2⟩:=hl x hx
        obtain ⟨v,hv⟩:=ih1 _ h2
        rw[hv] at h1
        refine ⟨v,?_⟩
        rw[q0a] at h1 ⊢
        exact (K6 h1).symm
      exact ⟨ys,rfl⟩
    · simp only[q0U,Tryz.underlying50,qrt,qrE] at h
      obtain ⟨l,rfl,hl⟩:=h
      obtain ⟨ys,rfl⟩:=q8B (g:=q0C) (l:=l) fun x hx=>by
        obtain ⟨h1,h2⟩:=hl x hx
        obtain ⟨v,hv⟩:=ih2 _ h2
        rw[hv] at h1
        refine ⟨v,?_⟩
        unfold q0C at h1 ⊢
        exact (K6 h1).symm
      exact ⟨ys,rfl⟩

theorem quA:q0p Tryz.prog 68=11:=by kernel_rfl
theorem qub:q0z Tryz.prog 68=true:=by kernel_rfl
theorem qy5:q0p Tryz.prog 27=6:=by kernel_rfl
theorem qxA:q0z Tryz.prog 27=true:=by kernel_rfl
theorem qyg:q0p Tryz.prog 32=15:=by kernel_rfl
theorem qv1:q0z Tryz.prog 32=true:=by kernel_rfl
theorem quy:q0p Tryz.prog 70=17:=by kernel_rfl
theorem quX:q0z Tryz.prog 70=true:=by kernel_rfl
theorem quW {k:Nat} {cs:List AV} (h:q0U Tryz.prog k 66 cs) : ∃ b:Bnd,cs=[.bool b.set,.bool b.num.neg,.str b.num.digits,.int .i64 b.num.exp,.bool b.opn]:=by
  cases k with
  | zero=>exact h.elim
  | succ k=>
    simp only[q0U,Tryz.underlying66,q8u] at h
    obtain ⟨a,b,rfl,h1,c,d,rfl,h2,e,f,rfl,h3,rfl⟩:=h
    obtain ⟨x,rfl⟩:=qeP h1
    obtain ⟨y,rfl⟩:=qtz h2
    obtain ⟨z,rfl⟩:=qeP h3
    exact ⟨⟨x,y,z⟩,rfl⟩
theorem qtA {k:Nat} {cs:List AV} (h:q0U Tryz.prog k 68 cs) : ∃ p:Prt,cs=(q0n p).cells:=by
  cases k with
  | zero=>exact h.elim
  | succ k=>
    simp only[q0U,Tryz.underlying68,q8u] at h
    obtain ⟨a,b,rfl,h1,c,d,rfl,h2,e,f,rfl,h3,rfl⟩:=h
    obtain ⟨x,rfl⟩:=quW h1
    obtain ⟨y,rfl⟩:=quW h2
    obtain ⟨z,rfl⟩:=q6p h3
    exact ⟨⟨x,y,z⟩,rfl⟩
theorem qsN {k:Nat} {cs:List AV} (h:q0U Tryz.prog k 22 cs) : ∃ l:List Prt,cs=[.tsl 11 (l.map q0n)]:=by
  cases k with
  | zero=>exact h.elim
  | succ k=>
    simp only[q0U,Tryz.underlying22,quA,qub] at h
    obtain ⟨l,rfl,hl⟩:=h
    obtain ⟨ys,rfl⟩:=q8B (g:=q0n) (l:=l) fun x hx=>by
      obtain ⟨h1,h2⟩:=hl x hx
      obtain ⟨v,hv⟩:=qtA h2
      rw[hv] at h1
      exact ⟨v,(K6 h1).symm⟩
    exact ⟨ys,rfl⟩
theorem qz9 {k:Nat} {cs:List AV} (h:q0U Tryz.prog k 24 cs) : ∃ l:List Prt,cs=[.tsl 11 (l.map q0n)]:=by
  cases k with
  | zero=>exact h.elim
  | succ k=>
    simp only[q0U,Tryz.underlying24,q8u] at h
    obtain ⟨a,b,rfl,h1,rfl⟩:=h
    obtain ⟨x,rfl⟩:=qsN h1
    exact ⟨x,rfl⟩
theorem qys : ∀ (k:Nat),(∀ cs,q0U Tryz.prog k 27 cs→∃ p:Pat,cs=(q0B p).cells)∧(∀ cs,q0U Tryz.prog k 25 cs→∃ l:List Pat,cs=[.tsl 6 (l.map q0B)]):=by
  intro k
  induction k with
  | zero=>exact ⟨fun cs h=>h.elim,fun cs h=>h.elim⟩
  | succ k ih=>
    obtain ⟨ih1,ih2⟩:=ih
    refine ⟨fun cs h=>?_,fun cs h=>?_⟩
    · simp only[q0U,Tryz.underlying27,q8u] at h
      obtain ⟨a1,b1,rfl,h1,a2,b2,rfl,h2,a3,b3,rfl,h3,a4,b4,rfl,h4,a5,b5,rfl,h5,a6,b6,rfl,h6,rfl⟩:=h
      obtain ⟨x1,rfl⟩:=q6p h1
      obtain ⟨x2,rfl⟩:=q6p h2
      obtain ⟨x3,rfl⟩:=q6p h3
      obtain ⟨x4,rfl⟩:=q6p h4
      obtain ⟨x5,rfl⟩:=q6p h5
      obtain ⟨x6,rfl⟩:=ih2 _ h6
      refine ⟨.mk ⟨x1,x2,x3,x4,x5⟩ x6,?_⟩
      rw[q0i]
      rfl
    · simp only[q0U,Tryz.underlying25,qy5,qxA] at h
      obtain ⟨l,rfl,hl⟩:=h
      obtain ⟨ys,rfl⟩:=q8B (g:=q0B) (l:=l) fun x hx=>by
        obtain ⟨h1,h2⟩:=hl x hx
        obtain ⟨v,hv⟩:=ih1 _ h2
        rw[hv] at h1
        refine ⟨v,?_⟩
        rw[q0i] at h1 ⊢
        exact (K6 h1).symm
      exact ⟨ys,rfl⟩
theorem qye : ∀ (k:Nat),(∀ cs,q0U Tryz.prog k 32 cs→∃ x:Sch,cs=(q03 x).cells)∧(∀ cs,q0U Tryz.prog k 70 cs→∃ x:PK × Sch,cs=(q0g x).cells)∧(∀ cs,q0U Tryz.prog k 30 cs→∃ l:List Sch,cs=[.tsl 15 (l.map q03)])∧(∀ cs,q0U Tryz.prog k 29 cs→∃ l:List (PK × Sch),cs=[.tsl 17 (l.map q0g)]):=by
  intro k
  induction k with
  | zero=>exact ⟨fun cs h=>h.elim,fun cs h=>h.elim,fun cs h=>h.elim,fun cs h=>h.elim⟩
  | succ k ih=>
    obtain ⟨ih1,ih2,ih3,ih4⟩:=ih
    refine ⟨fun cs h=>?_,fun cs h=>?_,fun cs h=>?_,fun cs h=>?_⟩
    · simp only[q0U,Tryz.underlying32,q8u] at h
      obtain ⟨a1,b1,rfl,h1,a2,b2,rfl,h2,a3,b3,rfl,h3,a4,b4,rfl,h4,a5,b5,rfl,h5,a6,b6,rfl,h6,a7,b7,rfl,h7,a8,b8,rfl,h8,a9,b9,rfl,h9,a10,b10,rfl,h10,rfl⟩:=h
      obtain ⟨x1,rfl⟩:=q6p h1
      obtain ⟨x2,rfl⟩:=q6p h2
      obtain ⟨x3,rfl⟩:=q6p h3
      obtain ⟨x4,rfl⟩:=q6p h4
      obtain ⟨x5,rfl⟩:=q7D h5
      obtain ⟨x6,rfl⟩:=qz9 h6
      obtain ⟨x7,rfl⟩:=(qys k).1 _ h7
      obtain ⟨x8,rfl⟩:=(tyV k).2.2.1 _ h8
      obtain ⟨x9,rfl⟩:=ih4 _ h9
      obtain ⟨x10,rfl⟩:=ih3 _ h10
      refine ⟨.mk ⟨x1,x2,x3,x4,x5,x6,x7,x8⟩ x9 x10,?_⟩
      rw[q01,q0i]
      rfl
    · simp only[q0U,Tryz.underlying70,q8u] at h
      obtain ⟨a1,b1,rfl,h1,a2,b2,rfl,h2,a3,b3,rfl,h3,rfl⟩:=h
      obtain ⟨x1,rfl⟩:=q7D h1
      obtain ⟨x2,rfl⟩:=qeP h2
      obtain ⟨x3,rfl⟩:=ih1 _ h3
      refine ⟨(⟨x1,x2⟩,x3),?_⟩
      simp [q0g,AV.cells]
    · simp only[q0U,Tryz.underlying30,qyg,qv1] at h
      obtain ⟨l,rfl,hl⟩:=h
      obtain ⟨ys,rfl⟩:=q8B (g:=q03) (l:=l) fun x hx=>by
        obtain ⟨h1,h2⟩:=hl x hx
        obtain ⟨v,hv⟩:=ih1 _ h2
        rw[hv] at h1
        refine ⟨v,?_⟩
        rw[q01] at h1 ⊢
        exact (K6 h1).symm
      exact ⟨ys,rfl⟩
    · simp only[q0U,Tryz.underlying29,quy,quX] at h
      obtain ⟨l,rfl,hl⟩:=h
      obtain ⟨ys,rfl⟩:=q8B (g:=q0g) (l:=l) fun x hx=>by
        obtain ⟨h1,h2⟩:=hl x hx
        obtain ⟨v,hv⟩:=ih2 _ h2
        rw[hv] at h1
        refine ⟨v,?_⟩
        rw[q0f] at h1 ⊢
        exact (K6 h1).symm
      exact ⟨ys,rfl⟩
theorem qi6 {x:AV} (h:qrB Tryz.prog 32 x) : ∃ v:Sch,x=q03 v:=by
  obtain ⟨k,h1,h2⟩:=h
  obtain ⟨v,hv⟩:=(qye k).1 _ h2
  rw[hv,qv1] at h1
  refine ⟨v,?_⟩
  rw[q01] at h1 ⊢
  exact (K6 h1).symm
theorem qqw (H:Type):BulkFn (H:=H) Rows.uptoBulk Rows.uptoBulkAll where
  one d:=by
    cases d with
    | lit l=>cases l<;>simp [Rows.uptoBulk]
    | _=>simp [Rows.uptoBulk]
  str b:=by simp [Rows.uptoBulk]
  slice e s:=by simp [Rows.uptoBulk]
  agg p:=by simp [Rows.uptoBulk]
  nil:=by simp [Rows.uptoBulkAll]
  cons d l:=by simp [Rows.uptoBulkAll]

end Go.Proofs.YtjeahlpkonkjiaaGreatDoor
