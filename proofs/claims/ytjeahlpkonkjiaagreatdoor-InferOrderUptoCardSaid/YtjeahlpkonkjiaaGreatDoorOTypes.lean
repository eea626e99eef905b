/- The types of the program: values and schemas as trees. -/
import Derived.Test.YtjeahlpkonkjiaaGreatDoorRows
import Derived.Test.YtjeahlpkonkjiaaGreatDoorOMachD
import Derived.Test.YtjeahlpkonkjiaaGreatDoorORunA
import Derived.JoinedCond
set_option linter.unusedSimpArgs false
set_option linter.unusedVariables false
set_option maxRecDepth 100000
namespace Go.Proofs.YtjeahlpkonkjiaaGreatDoor
open Ago Go.ChangeShapes Go.WideShapes Go.ChangeAt Go.RowKit

theorem own:ownKnob Tryz.prog.godebug=none:=by kernel_rfl
theorem laid:laidOutB Tryz.prog=true:=by kernel_rfl
def tys:List Nat:=[3,4,5,9,22,24,25,27,28,29,30,32,46,48,49,50,52,62,66,68,70,76,78,95,251]
theorem qwQ:qk4 Tryz.prog tys=true:=by kernel_rfl
theorem qy4:Tryz.prog.underlying 3=some (.int .i64):=by kernel_rfl
theorem qsM:Tryz.prog.underlying 4=some .bool:=by kernel_rfl
theorem qxm:Tryz.prog.underlying 5=some (.int .u8):=by kernel_rfl
theorem qpf:Tryz.prog.underlying 9=some .string:=by kernel_rfl
theorem qtJ:q0j Tryz.prog 5=1:=by kernel_rfl
theorem qpc:q0j Tryz.prog 52=13:=by kernel_rfl
theorem qqc:q0j Tryz.prog 62=14:=by kernel_rfl
theorem qrI:q0v Tryz.prog 5=false:=by kernel_rfl
theorem qjr:q0v Tryz.prog 52=true:=by kernel_rfl
theorem qq5:q0v Tryz.prog 62=true:=by kernel_rfl

theorem qfM {α β:Type} {g:α→β} : ∀ {l:List β},(∀ x,x∈l→∃ y,x=g y)→∃ ys:List α,l=ys.map g
  | [],_=>⟨[],rfl⟩
  | x::l,h=>by
    obtain ⟨y,rfl⟩:=h x (Kj ..)
    obtain ⟨ys,rfl⟩:=qfM fun z hz=>h z (Kl _ hz)
    exact ⟨y::ys,rfl⟩

theorem qgZ {k:Nat} {cs:List AV} (h:q1G Tryz.prog k 3 cs) : ∃ n,cs=[.int .i64 n]:=by
  cases k with
  | zero=>exact h.elim
  | succ k=>simp only[q1G,qy4] at h; obtain ⟨n,h,_⟩:=h; exact ⟨n,h⟩
theorem qp6 {k:Nat} {cs:List AV} (h:q1G Tryz.prog k 4 cs) : ∃ b,cs=[.bool b]:=by
  cases k with
  | zero=>exact h.elim
  | succ k=>simp only[q1G,qsM] at h; exact h
theorem qbE {k:Nat} {cs:List AV} (h:q1G Tryz.prog k 9 cs) : ∃ s,cs=[.str s]:=by
  cases k with
  | zero=>exact h.elim
  | succ k=>simp only[q1G,qpf] at h; exact h
theorem qpe {k:Nat} {cs:List AV} (h:q1G Tryz.prog k 49 cs) : ∃ b,cs=[.tsl 1 (q40 b)]:=by
  cases k with
  | zero=>exact h.elim
  | succ k=>
    simp only[q1G,Tryz.underlying49,qtJ,qrI] at h
    obtain ⟨l,rfl,hl⟩:=h
    obtain ⟨ys,rfl⟩:=qfM (g:=fun c:UInt8=>AV.int .u8 c.toNat) (l:=l) fun x hx=>by
      obtain ⟨h1,h2⟩:=hl x hx
      cases k with
      | zero=>exact h2.elim
      | succ k=>
        simp only[q1G,qxm] at h2
        obtain ⟨n,h3,h4⟩:=h2
        rw[h3] at h1
        cases h1
        have hn:0≤n∧n≤255:=by simpa [Lit.wf,IntKind.min,IntKind.max,IntKind.signed,IntKind.bits] using h4
        refine ⟨UInt8.ofNat n.toNat,?_⟩
        have:(UInt8.ofNat n.toNat).toNat=n.toNat:=UInt8.toNat_ofNat_of_lt' (by show n.toNat<256; omega)
        rw[this]
        congr 1
        omega
    exact ⟨ys,rfl⟩
theorem qwP {k:Nat} {cs:List AV} (h:q1G Tryz.prog k 46 cs) : ∃ d:Dec,cs=[.bool d.neg,.str d.digits,.int .i64 d.exp]:=by
  cases k with
  | zero=>exact h.elim
  | succ k=>
    simp only[q1G,Tryz.underlying46,qe4] at h
    obtain ⟨a,b,rfl,h1,c,d,rfl,h2,e,f,rfl,h3,rfl⟩:=h
    obtain ⟨x,rfl⟩:=qp6 h1
    obtain ⟨y,rfl⟩:=qbE h2
    obtain ⟨z,rfl⟩:=qgZ h3
    exact ⟨⟨x,y,z⟩,rfl⟩
theorem qv4 {k:Nat} {cs:List AV} (h:q1G Tryz.prog k 48 cs) : ∃ t:Tm,cs=[.int .i64 t.kind,.int .i64 t.day,.int .i64 t.nano,.int .i64 t.off]:=by
  cases k with
  | zero=>exact h.elim
  | succ k=>
    simp only[q1G,Tryz.underlying48,qe4] at h
    obtain ⟨a,b,rfl,h1,c,d,rfl,h2,e,f,rfl,h3,g,i,rfl,h4,rfl⟩:=h
    obtain ⟨x,rfl⟩:=qgZ h1
    obtain ⟨y,rfl⟩:=qgZ h2
    obtain ⟨z,rfl⟩:=qgZ h3
    obtain ⟨w,rfl⟩:=qgZ h4
    exact ⟨⟨x,y,z,w⟩,rfl⟩

theorem tyV : ∀ (k:Nat),(∀ cs,q1G Tryz.prog k 52 cs→∃ v:V,cs=(q0u v).cells)∧(∀ cs,q1G Tryz.prog k 62 cs→∃ x:List UInt8 × V,cs=(q10 x).cells)∧(∀ cs,q1G Tryz.prog k 28 cs→∃ l:List V,cs=[.tsl 13 (l.map q0u)])∧(∀ cs,q1G Tryz.prog k 50 cs→∃ l:List (List UInt8 × V),cs=[.tsl 14 (l.map q10)]):=by
  intro k
  induction k with
  | zero=>exact ⟨fun cs h=>h.elim,fun cs h=>h.elim,fun cs h=>h.elim,fun cs h=>h.elim⟩
  | succ k ih=>
    obtain ⟨ih1,ih2,ih3,ih4⟩:=ih
    refine ⟨fun cs h=>?_,fun cs h=>?_,fun cs h=>?_,fun cs h=>?_⟩
    · simp only[q1G,Tryz.underlying52,qe4] at h
      obtain ⟨a1,b1,rfl,h1,a2,b2,rfl,h2,a3,b3,rfl,h3,a4,b4,rfl,h4,a5,b5,rfl,h5,a6,b6,rfl,h6,a7,b7,rfl,h7,a8,b8,rfl,h8,rfl⟩:=h
      obtain ⟨x1,rfl⟩:=qgZ h1
      obtain ⟨x2,rfl⟩:=qp6 h2
      obtain ⟨x3,rfl⟩:=qwP h3
      obtain ⟨x4,rfl⟩:=qv4 h4
      obtain ⟨x5,rfl⟩:=qbE h5
      obtain ⟨x6,rfl⟩:=qpe h6
      obtain ⟨x7,rfl⟩:=ih3 _ h7
      obtain ⟨x8,rfl⟩:=ih4 _ h8
      refine ⟨.mk ⟨x1,x2,x3,x4,x5,x6⟩ x7 x8,?_⟩
      rw[q08]
      rfl
    · simp only[q1G,Tryz.underlying62,qe4] at h
      obtain ⟨a1,b1,rfl,h1,a2,b2,rfl,h2,rfl⟩:=h
      obtain ⟨x1,rfl⟩:=qbE h1
      obtain ⟨x2,rfl⟩:=ih1 _ h2
      refine ⟨(x1,x2),?_⟩
      simp [q10,AV.cells]
    · simp only[q1G,Tryz.underlying28,qpc,qjr] at h
      obtain ⟨l,rfl,hl⟩:=h
      obtain ⟨ys,rfl⟩:=qfM (g:=q0u) (l:=l) fun x hx=>by
        obtain ⟨h1,h2⟩:=hl x hx
        obtain ⟨v,hv⟩:=ih1 _ h2
        rw[hv] at h1
        refine ⟨v,?_⟩
        rw[q08] at h1 ⊢
        exact (K8 h1).symm
      exact ⟨ys,rfl⟩
    · simp only[q1G,Tryz.underlying50,qqc,qq5] at h
      obtain ⟨l,rfl,hl⟩:=h
      obtain ⟨ys,rfl⟩:=qfM (g:=q10) (l:=l) fun x hx=>by
        obtain ⟨h1,h2⟩:=hl x hx
        obtain ⟨v,hv⟩:=ih2 _ h2
        rw[hv] at h1
        refine ⟨v,?_⟩
        unfold q10 at h1 ⊢
        exact (K8 h1).symm
      exact ⟨ys,rfl⟩

theorem qye {x:AV} (h:qpr Tryz.prog 52 x) : ∃ v:V,x=q0u v:=by
  obtain ⟨k,h1,h2⟩:=h
  obtain ⟨v,hv⟩:=(tyV k).1 _ h2
  rw[hv,qjr] at h1
  refine ⟨v,?_⟩
  rw[q08] at h1 ⊢
  exact (K8 h1).symm

theorem qvd (H:Type):BulkFn (H:=H) Rows.uptoBulk Rows.uptoBulkAll where
  one d:=by
    cases d with
    | lit l=>cases l<;>simp [Rows.uptoBulk]
    | _=>simp [Rows.uptoBulk]
  str b:=by simp [Rows.uptoBulk]
  slice e s:=by simp [Rows.uptoBulk]
  agg p:=by simp [Rows.uptoBulk]
  nil:=by simp [Rows.uptoBulkAll]
  cons d l:=by simp [Rows.uptoBulkAll]

end Go.Proofs.YtjeahlpkonkjiaaGreatDoor
