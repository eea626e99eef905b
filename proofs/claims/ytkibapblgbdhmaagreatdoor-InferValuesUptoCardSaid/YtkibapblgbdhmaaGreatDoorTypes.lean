/- The types of the program: values and schemas as trees. -/
import Derived.Test.YtkibapblgbdhmaaGreatDoorRows
import Derived.Test.YtkibapblgbdhmaaGreatDoorMachD
import Derived.Test.YtkibapblgbdhmaaGreatDoorRunA
import Derived.JoinedCond
set_option linter.unusedSimpArgs false
set_option linter.unusedVariables false
set_option maxRecDepth 100000
namespace Go.Proofs.YtkibapblgbdhmaaGreatDoor
open Ago Go.ChangeShapes Go.WideShapes Go.ChangeAt Go.RowKit

theorem own:ownKnob Tryz.prog.godebug=none:=by kernel_rfl
theorem laid:laidOutB Tryz.prog=true:=by kernel_rfl
def tys:List Nat:=[3,4,5,9,22,25,27,28,30,31,32,34,43,45,46,47,49,63,66,68,70,82,84,111,258]
theorem qqO:qig Tryz.prog tys=true:=by kernel_rfl
theorem qrA:Tryz.prog.underlying 3=some (.int .i64):=by kernel_rfl
theorem qoA:Tryz.prog.underlying 4=some .bool:=by kernel_rfl
theorem qqQ:Tryz.prog.underlying 5=some (.int .u8):=by kernel_rfl
theorem qmH:Tryz.prog.underlying 9=some .string:=by kernel_rfl
theorem qp3:q0g Tryz.prog 5=1:=by kernel_rfl
theorem qmW:q0g Tryz.prog 49=13:=by kernel_rfl
theorem qn2:q0g Tryz.prog 63=14:=by kernel_rfl
theorem qnU:q0q Tryz.prog 5=false:=by kernel_rfl
theorem qlM:q0q Tryz.prog 49=true:=by kernel_rfl
theorem qms:q0q Tryz.prog 63=true:=by kernel_rfl

theorem qel {α β:Type} {g:α→β} : ∀ {l:List β},(∀ x,x∈l→∃ y,x=g y)→∃ ys:List α,l=ys.map g
  | [],_=>⟨[],rfl⟩
  | x::l,h=>by
    obtain ⟨y,rfl⟩:=h x (List.mem_cons_self ..)
    obtain ⟨ys,rfl⟩:=qel fun z hz=>h z (List.mem_cons_of_mem _ hz)
    exact ⟨y::ys,rfl⟩

theorem qfI {k:Nat} {cs:List AV} (h:q1B Tryz.prog k 3 cs) : ∃ n,cs=[.int .i64 n]:=by
  cases k with
  | zero=>exact h.elim
  | succ k=>simp only[q1B,qrA] at h; obtain ⟨n,h,_⟩:=h; exact ⟨n,h⟩
theorem qlA {k:Nat} {cs:List AV} (h:q1B Tryz.prog k 4 cs) : ∃ b,cs=[.bool b]:=by
  cases k with
  | zero=>exact h.elim
  | succ k=>simp only[q1B,qoA] at h; exact h
theorem qaq {k:Nat} {cs:List AV} (h:q1B Tryz.prog k 9 cs) : ∃ s,cs=[.str s]:=by
  cases k with
  | zero=>exact h.elim
  | succ k=>simp only[q1B,qmH] at h; exact h
theorem qmu {k:Nat} {cs:List AV} (h:q1B Tryz.prog k 46 cs) : ∃ b,cs=[.tsl 1 (q7D b)]:=by
  cases k with
  | zero=>exact h.elim
  | succ k=>
    simp only[q1B,Tryz.underlying46,qp3,qnU] at h
    obtain ⟨l,rfl,hl⟩:=h
    obtain ⟨ys,rfl⟩:=qel (g:=fun c:UInt8=>AV.int .u8 c.toNat) (l:=l) fun x hx=>by
      obtain ⟨h1,h2⟩:=hl x hx
      cases k with
      | zero=>exact h2.elim
      | succ k=>
        simp only[q1B,qqQ] at h2
        obtain ⟨n,h3,h4⟩:=h2
        rw[h3] at h1
        cases h1
        have hn:0≤n∧n≤255:=by simpa [Lit.wf,IntKind.min,IntKind.max,IntKind.signed,IntKind.bits] using h4
        refine ⟨UInt8.ofNat n.toNat,?_⟩
        have:(UInt8.ofNat n.toNat).toNat=n.toNat:=UInt8.toNat_ofNat_of_lt' (by show n.toNat<256; omega)
        rw[this]
        congr 1
        omega
    exact ⟨ys,rfl⟩
theorem qri {k:Nat} {cs:List AV} (h:q1B Tryz.prog k 43 cs) : ∃ d:Dec,cs=[.bool d.neg,.str d.digits,.int .i64 d.exp]:=by
  cases k with
  | zero=>exact h.elim
  | succ k=>
    simp only[q1B,Tryz.underlying43,qcG] at h
    obtain ⟨a,b,rfl,h1,c,d,rfl,h2,e,f,rfl,h3,rfl⟩:=h
    obtain ⟨x,rfl⟩:=qlA h1
    obtain ⟨y,rfl⟩:=qaq h2
    obtain ⟨z,rfl⟩:=qfI h3
    exact ⟨⟨x,y,z⟩,rfl⟩
theorem qoq {k:Nat} {cs:List AV} (h:q1B Tryz.prog k 45 cs) : ∃ t:Tm,cs=[.int .i64 t.kind,.int .i64 t.day,.int .i64 t.nano,.int .i64 t.off]:=by
  cases k with
  | zero=>exact h.elim
  | succ k=>
    simp only[q1B,Tryz.underlying45,qcG] at h
    obtain ⟨a,b,rfl,h1,c,d,rfl,h2,e,f,rfl,h3,g,i,rfl,h4,rfl⟩:=h
    obtain ⟨x,rfl⟩:=qfI h1
    obtain ⟨y,rfl⟩:=qfI h2
    obtain ⟨z,rfl⟩:=qfI h3
    obtain ⟨w,rfl⟩:=qfI h4
    exact ⟨⟨x,y,z,w⟩,rfl⟩

theorem tyV : ∀ (k:Nat),(∀ cs,q1B Tryz.prog k 49 cs→∃ v:V,cs=(q0j v).cells)∧(∀ cs,q1B Tryz.prog k 63 cs→∃ x:List UInt8 × V,cs=(q0r x).cells)∧(∀ cs,q1B Tryz.prog k 22 cs→∃ l:List V,cs=[.tsl 13 (l.map q0j)])∧(∀ cs,q1B Tryz.prog k 47 cs→∃ l:List (List UInt8 × V),cs=[.tsl 14 (l.map q0r)]):=by
  intro k
  induction k with
  | zero=>exact ⟨fun cs h=>h.elim,fun cs h=>h.elim,fun cs h=>h.elim,fun cs h=>h.elim⟩
  | succ k ih=>
    obtain ⟨ih1,ih2,ih3,ih4⟩:=ih
    refine ⟨fun cs h=>?_,fun cs h=>?_,fun cs h=>?_,fun cs h=>?_⟩
    · simp only[q1B,Tryz.underlying49,qcG] at h
      obtain ⟨a1,b1,rfl,h1,a2,b2,rfl,h2,a3,b3,rfl,h3,a4,b4,rfl,h4,a5,b5,rfl,h5,a6,b6,rfl,h6,a7,b7,rfl,h7,a8,b8,rfl,h8,rfl⟩:=h
      obtain ⟨x1,rfl⟩:=qfI h1
      obtain ⟨x2,rfl⟩:=qlA h2
      obtain ⟨x3,rfl⟩:=qri h3
      obtain ⟨x4,rfl⟩:=qoq h4
      obtain ⟨x5,rfl⟩:=qaq h5
      obtain ⟨x6,rfl⟩:=qmu h6
      obtain ⟨x7,rfl⟩:=ih3 _ h7
      obtain ⟨x8,rfl⟩:=ih4 _ h8
      refine ⟨.mk ⟨x1,x2,x3,x4,x5,x6⟩ x7 x8,?_⟩
      rw[q07]
      rfl
    · simp only[q1B,Tryz.underlying63,qcG] at h
      obtain ⟨a1,b1,rfl,h1,a2,b2,rfl,h2,rfl⟩:=h
      obtain ⟨x1,rfl⟩:=qaq h1
      obtain ⟨x2,rfl⟩:=ih1 _ h2
      refine ⟨(x1,x2),?_⟩
      simp [q0r,AV.cells]
    · simp only[q1B,Tryz.underlying22,qmW,qlM] at h
      obtain ⟨l,rfl,hl⟩:=h
      obtain ⟨ys,rfl⟩:=qel (g:=q0j) (l:=l) fun x hx=>by
        obtain ⟨h1,h2⟩:=hl x hx
        obtain ⟨v,hv⟩:=ih1 _ h2
        rw[hv] at h1
        refine ⟨v,?_⟩
        rw[q07] at h1 ⊢
        exact (Option.some.inj h1).symm
      exact ⟨ys,rfl⟩
    · simp only[q1B,Tryz.underlying47,qn2,qms] at h
      obtain ⟨l,rfl,hl⟩:=h
      obtain ⟨ys,rfl⟩:=qel (g:=q0r) (l:=l) fun x hx=>by
        obtain ⟨h1,h2⟩:=hl x hx
        obtain ⟨v,hv⟩:=ih2 _ h2
        rw[hv] at h1
        refine ⟨v,?_⟩
        unfold q0r at h1 ⊢
        exact (Option.some.inj h1).symm
      exact ⟨ys,rfl⟩

theorem qke:q0q Tryz.prog 22=false:=by kernel_rfl
theorem qrd {x:AV} (h:qmj Tryz.prog 22 x) : ∃ l:List V,x = .tsl 13 (l.map q0j):=by
  obtain ⟨k,h1,h2⟩:=h
  obtain ⟨l,hl⟩:=(tyV k).2.2.1 _ h2
  rw[hl,qke] at h1
  exact ⟨l,(Option.some.inj h1).symm⟩
theorem qoR (H:Type):BulkFn (H:=H) Rows.uptoBulk Rows.uptoBulkAll where
  one d:=by
    cases d with
    | lit l=>cases l<;>simp [Rows.uptoBulk]
    | _=>simp [Rows.uptoBulk]
  str b:=by simp [Rows.uptoBulk]
  slice e s:=by simp [Rows.uptoBulk]
  agg p:=by simp [Rows.uptoBulk]
  nil:=by simp [Rows.uptoBulkAll]
  cons d l:=by simp [Rows.uptoBulkAll]

end Go.Proofs.YtkibapblgbdhmaaGreatDoor
