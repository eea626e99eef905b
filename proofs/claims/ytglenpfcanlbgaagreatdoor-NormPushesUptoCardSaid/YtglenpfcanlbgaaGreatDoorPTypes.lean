/- The types of the program: values and schemas as trees. -/
import Derived.Test.YtglenpfcanlbgaaGreatDoorRows
import Derived.Test.YtglenpfcanlbgaaGreatDoorPMachD
import Derived.Test.YtglenpfcanlbgaaGreatDoorPRunA
import Derived.JoinedCond
set_option linter.unusedSimpArgs false
set_option linter.unusedVariables false
set_option maxRecDepth 100000
namespace Go.Proofs.YtglenpfcanlbgaaGreatDoor
open Ago Go.ChangeShapes Go.WideShapes Go.ChangeAt Go.RowKit

theorem own:ownKnob Tryz.prog.godebug=none:=by kernel_rfl
theorem laid:laidOutB Tryz.prog=true:=by kernel_rfl
def tys:List Nat:=[3,4,5,9,22,23,25,26,28,29,30,31,33,35,61,81,83,85,89,90,91,93,96,147]
theorem tysOk:okTys Tryz.prog tys=true:=by kernel_rfl
theorem uINT:Tryz.prog.underlying 3=some (.int .i64):=by kernel_rfl
theorem uBOOL:Tryz.prog.underlying 4=some .bool:=by kernel_rfl
theorem uBYTE:Tryz.prog.underlying 5=some (.int .u8):=by kernel_rfl
theorem uSTRING:Tryz.prog.underlying 9=some .string:=by kernel_rfl
theorem szBYTE:szOf Tryz.prog 5=1:=by kernel_rfl
theorem szVALUE:szOf Tryz.prog 93=13:=by kernel_rfl
theorem szFIELD:szOf Tryz.prog 147=14:=by kernel_rfl
theorem agBYTE:aggOf Tryz.prog 5=false:=by kernel_rfl
theorem agVALUE:aggOf Tryz.prog 93=true:=by kernel_rfl
theorem agFIELD:aggOf Tryz.prog 147=true:=by kernel_rfl

theorem all_of {α β:Type} {g:α→β} : ∀ {l:List β},(∀ x,x∈l→∃ y,x=g y)→∃ ys:List α,l=ys.map g
  | [],_=>⟨[],rfl⟩
  | x::l,h=>by
    obtain ⟨y,rfl⟩:=h x (List.mem_cons_self ..)
    obtain ⟨ys,rfl⟩:=all_of fun z hz=>h z (List.mem_cons_of_mem _ hz)
    exact ⟨y::ys,rfl⟩

theorem tyINT {k:Nat} {cs:List AV} (h:HasTy Tryz.prog k 3 cs) : ∃ n,cs=[.int .i64 n]:=by
  cases k with
  | zero=>exact h.elim
  | succ k=>simp only[HasTy,uINT] at h; obtain ⟨n,h,_⟩:=h; exact ⟨n,h⟩
theorem tyBOOL {k:Nat} {cs:List AV} (h:HasTy Tryz.prog k 4 cs) : ∃ b,cs=[.bool b]:=by
  cases k with
  | zero=>exact h.elim
  | succ k=>simp only[HasTy,uBOOL] at h; exact h
theorem tySTRING {k:Nat} {cs:List AV} (h:HasTy Tryz.prog k 9 cs) : ∃ s,cs=[.str s]:=by
  cases k with
  | zero=>exact h.elim
  | succ k=>simp only[HasTy,uSTRING] at h; exact h
theorem tyBYTES {k:Nat} {cs:List AV} (h:HasTy Tryz.prog k 90 cs) : ∃ b,cs=[.tsl 1 (encB b)]:=by
  cases k with
  | zero=>exact h.elim
  | succ k=>
    simp only[HasTy,Tryz.underlying90,szBYTE,agBYTE] at h
    obtain ⟨l,rfl,hl⟩:=h
    obtain ⟨ys,rfl⟩:=all_of (g:=fun c:UInt8=>AV.int .u8 c.toNat) (l:=l) fun x hx=>by
      obtain ⟨h1,h2⟩:=hl x hx
      cases k with
      | zero=>exact h2.elim
      | succ k=>
        simp only[HasTy,uBYTE] at h2
        obtain ⟨n,h3,h4⟩:=h2
        rw[h3] at h1
        cases h1
        have hn:0≤n∧n≤255:=by simpa [Lit.wf,IntKind.min,IntKind.max,IntKind.signed,IntKind.bits] using h4
        refine ⟨UInt8.ofNat n.toNat,?_⟩
        have:(UInt8.ofNat n.toNat).toNat=n.toNat:=UInt8.toNat_ofNat_of_lt' (by show n.toNat<256; omega)
        rw[this]
        congr 1
        omega
    exact ⟨ys,rfl⟩
theorem tyDEC {k:Nat} {cs:List AV} (h:HasTy Tryz.prog k 81 cs) : ∃ d:Dec,cs=[.bool d.neg,.str d.digits,.int .i64 d.exp]:=by
  cases k with
  | zero=>exact h.elim
  | succ k=>
    simp only[HasTy,Tryz.underlying81,HasFs] at h
    obtain ⟨a,b,rfl,h1,c,d,rfl,h2,e,f,rfl,h3,rfl⟩:=h
    obtain ⟨x,rfl⟩:=tyBOOL h1
    obtain ⟨y,rfl⟩:=tySTRING h2
    obtain ⟨z,rfl⟩:=tyINT h3
    exact ⟨⟨x,y,z⟩,rfl⟩
theorem tyTIME {k:Nat} {cs:List AV} (h:HasTy Tryz.prog k 89 cs) : ∃ t:Tm,cs=[.int .i64 t.kind,.int .i64 t.day,.int .i64 t.nano,.int .i64 t.off]:=by
  cases k with
  | zero=>exact h.elim
  | succ k=>
    simp only[HasTy,Tryz.underlying89,HasFs] at h
    obtain ⟨a,b,rfl,h1,c,d,rfl,h2,e,f,rfl,h3,g,i,rfl,h4,rfl⟩:=h
    obtain ⟨x,rfl⟩:=tyINT h1
    obtain ⟨y,rfl⟩:=tyINT h2
    obtain ⟨z,rfl⟩:=tyINT h3
    obtain ⟨w,rfl⟩:=tyINT h4
    exact ⟨⟨x,y,z,w⟩,rfl⟩

theorem tyV : ∀ (k:Nat),(∀ cs,HasTy Tryz.prog k 93 cs→∃ v:V,cs=(encV v).cells)∧(∀ cs,HasTy Tryz.prog k 147 cs→∃ x:List UInt8 × V,cs=(encFd x).cells)∧(∀ cs,HasTy Tryz.prog k 29 cs→∃ l:List V,cs=[.tsl 13 (l.map encV)])∧(∀ cs,HasTy Tryz.prog k 91 cs→∃ l:List (List UInt8 × V),cs=[.tsl 14 (l.map encFd)]):=by
  intro k
  induction k with
  | zero=>exact ⟨fun cs h=>h.elim,fun cs h=>h.elim,fun cs h=>h.elim,fun cs h=>h.elim⟩
  | succ k ih=>
    obtain ⟨ih1,ih2,ih3,ih4⟩:=ih
    refine ⟨fun cs h=>?_,fun cs h=>?_,fun cs h=>?_,fun cs h=>?_⟩
    · simp only[HasTy,Tryz.underlying93,HasFs] at h
      obtain ⟨a1,b1,rfl,h1,a2,b2,rfl,h2,a3,b3,rfl,h3,a4,b4,rfl,h4,a5,b5,rfl,h5,a6,b6,rfl,h6,a7,b7,rfl,h7,a8,b8,rfl,h8,rfl⟩:=h
      obtain ⟨x1,rfl⟩:=tyINT h1
      obtain ⟨x2,rfl⟩:=tyBOOL h2
      obtain ⟨x3,rfl⟩:=tyDEC h3
      obtain ⟨x4,rfl⟩:=tyTIME h4
      obtain ⟨x5,rfl⟩:=tySTRING h5
      obtain ⟨x6,rfl⟩:=tyBYTES h6
      obtain ⟨x7,rfl⟩:=ih3 _ h7
      obtain ⟨x8,rfl⟩:=ih4 _ h8
      refine ⟨.mk ⟨x1,x2,x3,x4,x5,x6⟩ x7 x8,?_⟩
      rw[encV_eq]
      rfl
    · simp only[HasTy,Tryz.underlying147,HasFs] at h
      obtain ⟨a1,b1,rfl,h1,a2,b2,rfl,h2,rfl⟩:=h
      obtain ⟨x1,rfl⟩:=tySTRING h1
      obtain ⟨x2,rfl⟩:=ih1 _ h2
      refine ⟨(x1,x2),?_⟩
      simp [encFd,AV.cells]
    · simp only[HasTy,Tryz.underlying29,szVALUE,agVALUE] at h
      obtain ⟨l,rfl,hl⟩:=h
      obtain ⟨ys,rfl⟩:=all_of (g:=encV) (l:=l) fun x hx=>by
        obtain ⟨h1,h2⟩:=hl x hx
        obtain ⟨v,hv⟩:=ih1 _ h2
        rw[hv] at h1
        refine ⟨v,?_⟩
        rw[encV_eq] at h1 ⊢
        exact (Option.some.inj h1).symm
      exact ⟨ys,rfl⟩
    · simp only[HasTy,Tryz.underlying91,szFIELD,agFIELD] at h
      obtain ⟨l,rfl,hl⟩:=h
      obtain ⟨ys,rfl⟩:=all_of (g:=encFd) (l:=l) fun x hx=>by
        obtain ⟨h1,h2⟩:=hl x hx
        obtain ⟨v,hv⟩:=ih2 _ h2
        rw[hv] at h1
        refine ⟨v,?_⟩
        unfold encFd at h1 ⊢
        exact (Option.some.inj h1).symm
      exact ⟨ys,rfl⟩

theorem szPART:szOf Tryz.prog 85=11:=by kernel_rfl
theorem agPART:aggOf Tryz.prog 85=true:=by kernel_rfl
theorem szPAT:szOf Tryz.prog 28=6:=by kernel_rfl
theorem agPAT:aggOf Tryz.prog 28=true:=by kernel_rfl
theorem szSCH:szOf Tryz.prog 33=15:=by kernel_rfl
theorem agSCH:aggOf Tryz.prog 33=true:=by kernel_rfl
theorem szPROP:szOf Tryz.prog 96=17:=by kernel_rfl
theorem agPROP:aggOf Tryz.prog 96=true:=by kernel_rfl
theorem tyBND {k:Nat} {cs:List AV} (h:HasTy Tryz.prog k 83 cs) : ∃ b:Bnd,cs=[.bool b.set,.bool b.num.neg,.str b.num.digits,.int .i64 b.num.exp,.bool b.opn]:=by
  cases k with
  | zero=>exact h.elim
  | succ k=>
    simp only[HasTy,Tryz.underlying83,HasFs] at h
    obtain ⟨a,b,rfl,h1,c,d,rfl,h2,e,f,rfl,h3,rfl⟩:=h
    obtain ⟨x,rfl⟩:=tyBOOL h1
    obtain ⟨y,rfl⟩:=tyDEC h2
    obtain ⟨z,rfl⟩:=tyBOOL h3
    exact ⟨⟨x,y,z⟩,rfl⟩
theorem tyPART {k:Nat} {cs:List AV} (h:HasTy Tryz.prog k 85 cs) : ∃ p:Prt,cs=(encPrt p).cells:=by
  cases k with
  | zero=>exact h.elim
  | succ k=>
    simp only[HasTy,Tryz.underlying85,HasFs] at h
    obtain ⟨a,b,rfl,h1,c,d,rfl,h2,e,f,rfl,h3,rfl⟩:=h
    obtain ⟨x,rfl⟩:=tyBND h1
    obtain ⟨y,rfl⟩:=tyBND h2
    obtain ⟨z,rfl⟩:=tyINT h3
    exact ⟨⟨x,y,z⟩,rfl⟩
theorem tyPARTS {k:Nat} {cs:List AV} (h:HasTy Tryz.prog k 23 cs) : ∃ l:List Prt,cs=[.tsl 11 (l.map encPrt)]:=by
  cases k with
  | zero=>exact h.elim
  | succ k=>
    simp only[HasTy,Tryz.underlying23,szPART,agPART] at h
    obtain ⟨l,rfl,hl⟩:=h
    obtain ⟨ys,rfl⟩:=all_of (g:=encPrt) (l:=l) fun x hx=>by
      obtain ⟨h1,h2⟩:=hl x hx
      obtain ⟨v,hv⟩:=tyPART h2
      rw[hv] at h1
      exact ⟨v,(Option.some.inj h1).symm⟩
    exact ⟨ys,rfl⟩
theorem tyNS {k:Nat} {cs:List AV} (h:HasTy Tryz.prog k 25 cs) : ∃ l:List Prt,cs=[.tsl 11 (l.map encPrt)]:=by
  cases k with
  | zero=>exact h.elim
  | succ k=>
    simp only[HasTy,Tryz.underlying25,HasFs] at h
    obtain ⟨a,b,rfl,h1,rfl⟩:=h
    obtain ⟨x,rfl⟩:=tyPARTS h1
    exact ⟨x,rfl⟩
theorem tyPAT : ∀ (k:Nat),(∀ cs,HasTy Tryz.prog k 28 cs→∃ p:Pat,cs=(encPat p).cells)∧(∀ cs,HasTy Tryz.prog k 26 cs→∃ l:List Pat,cs=[.tsl 6 (l.map encPat)]):=by
  intro k
  induction k with
  | zero=>exact ⟨fun cs h=>h.elim,fun cs h=>h.elim⟩
  | succ k ih=>
    obtain ⟨ih1,ih2⟩:=ih
    refine ⟨fun cs h=>?_,fun cs h=>?_⟩
    · simp only[HasTy,Tryz.underlying28,HasFs] at h
      obtain ⟨a1,b1,rfl,h1,a2,b2,rfl,h2,a3,b3,rfl,h3,a4,b4,rfl,h4,a5,b5,rfl,h5,a6,b6,rfl,h6,rfl⟩:=h
      obtain ⟨x1,rfl⟩:=tyINT h1
      obtain ⟨x2,rfl⟩:=tyINT h2
      obtain ⟨x3,rfl⟩:=tyINT h3
      obtain ⟨x4,rfl⟩:=tyINT h4
      obtain ⟨x5,rfl⟩:=tyINT h5
      obtain ⟨x6,rfl⟩:=ih2 _ h6
      refine ⟨.mk ⟨x1,x2,x3,x4,x5⟩ x6,?_⟩
      rw[encPat_eq]
      rfl
    · simp only[HasTy,Tryz.underlying26,szPAT,agPAT] at h
      obtain ⟨l,rfl,hl⟩:=h
      obtain ⟨ys,rfl⟩:=all_of (g:=encPat) (l:=l) fun x hx=>by
        obtain ⟨h1,h2⟩:=hl x hx
        obtain ⟨v,hv⟩:=ih1 _ h2
        rw[hv] at h1
        refine ⟨v,?_⟩
        rw[encPat_eq] at h1 ⊢
        exact (Option.some.inj h1).symm
      exact ⟨ys,rfl⟩
theorem tySCH : ∀ (k:Nat),(∀ cs,HasTy Tryz.prog k 33 cs→∃ x:Sch,cs=(encSch x).cells)∧(∀ cs,HasTy Tryz.prog k 96 cs→∃ x:PK × Sch,cs=(encPr x).cells)∧(∀ cs,HasTy Tryz.prog k 31 cs→∃ l:List Sch,cs=[.tsl 15 (l.map encSch)])∧(∀ cs,HasTy Tryz.prog k 30 cs→∃ l:List (PK × Sch),cs=[.tsl 17 (l.map encPr)]):=by
  intro k
  induction k with
  | zero=>exact ⟨fun cs h=>h.elim,fun cs h=>h.elim,fun cs h=>h.elim,fun cs h=>h.elim⟩
  | succ k ih=>
    obtain ⟨ih1,ih2,ih3,ih4⟩:=ih
    refine ⟨fun cs h=>?_,fun cs h=>?_,fun cs h=>?_,fun cs h=>?_⟩
    · simp only[HasTy,Tryz.underlying33,HasFs] at h
      obtain ⟨a1,b1,rfl,h1,a2,b2,rfl,h2,a3,b3,rfl,h3,a4,b4,rfl,h4,a5,b5,rfl,h5,a6,b6,rfl,h6,a7,b7,rfl,h7,a8,b8,rfl,h8,a9,b9,rfl,h9,a10,b10,rfl,h10,rfl⟩:=h
      obtain ⟨x1,rfl⟩:=tyINT h1
      obtain ⟨x2,rfl⟩:=tyINT h2
      obtain ⟨x3,rfl⟩:=tyINT h3
      obtain ⟨x4,rfl⟩:=tyINT h4
      obtain ⟨x5,rfl⟩:=tySTRING h5
      obtain ⟨x6,rfl⟩:=tyNS h6
      obtain ⟨x7,rfl⟩:=(tyPAT k).1 _ h7
      obtain ⟨x8,rfl⟩:=(tyV k).2.2.1 _ h8
      obtain ⟨x9,rfl⟩:=ih4 _ h9
      obtain ⟨x10,rfl⟩:=ih3 _ h10
      refine ⟨.mk ⟨x1,x2,x3,x4,x5,x6,x7,x8⟩ x9 x10,?_⟩
      rw[encSch_eq,encPat_eq]
      rfl
    · simp only[HasTy,Tryz.underlying96,HasFs] at h
      obtain ⟨a1,b1,rfl,h1,a2,b2,rfl,h2,a3,b3,rfl,h3,rfl⟩:=h
      obtain ⟨x1,rfl⟩:=tySTRING h1
      obtain ⟨x2,rfl⟩:=tyBOOL h2
      obtain ⟨x3,rfl⟩:=ih1 _ h3
      refine ⟨(⟨x1,x2⟩,x3),?_⟩
      simp [encPr,AV.cells]
    · simp only[HasTy,Tryz.underlying31,szSCH,agSCH] at h
      obtain ⟨l,rfl,hl⟩:=h
      obtain ⟨ys,rfl⟩:=all_of (g:=encSch) (l:=l) fun x hx=>by
        obtain ⟨h1,h2⟩:=hl x hx
        obtain ⟨v,hv⟩:=ih1 _ h2
        rw[hv] at h1
        refine ⟨v,?_⟩
        rw[encSch_eq] at h1 ⊢
        exact (Option.some.inj h1).symm
      exact ⟨ys,rfl⟩
    · simp only[HasTy,Tryz.underlying30,szPROP,agPROP] at h
      obtain ⟨l,rfl,hl⟩:=h
      obtain ⟨ys,rfl⟩:=all_of (g:=encPr) (l:=l) fun x hx=>by
        obtain ⟨h1,h2⟩:=hl x hx
        obtain ⟨v,hv⟩:=ih2 _ h2
        rw[hv] at h1
        refine ⟨v,?_⟩
        rw[encPr_eq] at h1 ⊢
        exact (Option.some.inj h1).symm
      exact ⟨ys,rfl⟩
theorem argSch {x:AV} (h:ArgTy Tryz.prog 33 x) : ∃ v:Sch,x=encSch v:=by
  obtain ⟨k,h1,h2⟩:=h
  obtain ⟨v,hv⟩:=(tySCH k).1 _ h2
  rw[hv,agSCH] at h1
  refine ⟨v,?_⟩
  rw[encSch_eq] at h1 ⊢
  exact (Option.some.inj h1).symm
theorem szDEF:szOf Tryz.prog 61=16:=by kernel_rfl
theorem agDEF:aggOf Tryz.prog 61=true:=by kernel_rfl
theorem agALL:aggOf Tryz.prog 35=true:=by kernel_rfl
theorem tyDEF {k:Nat} {cs:List AV} (h:HasTy Tryz.prog k 61 cs) : ∃ d:List UInt8 × Sch,cs=(encDef d).cells:=by
  cases k with
  | zero=>exact h.elim
  | succ k=>
    simp only[HasTy,Tryz.underlying61,HasFs] at h
    obtain ⟨a1,b1,rfl,h1,a2,b2,rfl,h2,rfl⟩:=h
    obtain ⟨x1,rfl⟩:=tySTRING h1
    obtain ⟨x2,rfl⟩:=(tySCH k).1 _ h2
    refine ⟨(x1,x2),?_⟩
    simp [encDef,AV.cells]
theorem tyDEFS {k:Nat} {cs:List AV} (h:HasTy Tryz.prog k 22 cs) : ∃ l:List (List UInt8 × Sch),cs=[.tsl 16 (l.map encDef)]:=by
  cases k with
  | zero=>exact h.elim
  | succ k=>
    simp only[HasTy,Tryz.underlying22,szDEF,agDEF] at h
    obtain ⟨l,rfl,hl⟩:=h
    obtain ⟨ys,rfl⟩:=all_of (g:=encDef) (l:=l) fun x hx=>by
      obtain ⟨h1,h2⟩:=hl x hx
      obtain ⟨v,hv⟩:=tyDEF h2
      rw[hv] at h1
      refine ⟨v,?_⟩
      rw[encDef_eq] at h1 ⊢
      exact (Option.some.inj h1).symm
    exact ⟨ys,rfl⟩
theorem argSchs {x:AV} (h:ArgTy Tryz.prog 35 x) : ∃ v:Schs,x=encSchs v:=by
  obtain ⟨k,h1,h2⟩:=h
  cases k with
  | zero=>exact h2.elim
  | succ k=>
    simp only[HasTy,Tryz.underlying35,HasFs] at h2
    obtain ⟨a1,b1,e,k1,a2,b2,rfl,k2,rfl⟩:=h2
    obtain ⟨x1,rfl⟩:=tyDEFS k1
    obtain ⟨x2,rfl⟩:=(tySCH k).1 _ k2
    rw[e,agALL] at h1
    refine ⟨⟨x1,x2⟩,?_⟩
    rw[encSchs_eq]
    rw[encSch_eq] at h1
    exact (Option.some.inj h1).symm
theorem bulkFn (H:Type):BulkFn (H:=H) Rows.uptoBulk Rows.uptoBulkAll where
  one d:=by
    cases d with
    | lit l=>cases l<;>simp [Rows.uptoBulk]
    | _=>simp [Rows.uptoBulk]
  str b:=by simp [Rows.uptoBulk]
  slice e s:=by simp [Rows.uptoBulk]
  agg p:=by simp [Rows.uptoBulk]
  nil:=by simp [Rows.uptoBulkAll]
  cons d l:=by simp [Rows.uptoBulkAll]

end Go.Proofs.YtglenpfcanlbgaaGreatDoor
