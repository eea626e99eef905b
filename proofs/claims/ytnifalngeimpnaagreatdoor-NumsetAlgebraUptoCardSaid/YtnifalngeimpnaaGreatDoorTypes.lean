/- The types of the program: decimals and sets of numbers as trees. -/
import Derived.Test.YtnifalngeimpnaaGreatDoorRows
import Derived.Test.YtnifalngeimpnaaGreatDoorMachD
import Derived.Test.YtnifalngeimpnaaGreatDoorRunA
import Derived.JoinedCond
set_option linter.unusedSimpArgs false
set_option linter.unusedVariables false
set_option maxRecDepth 100000
namespace Go.Proofs.YtnifalngeimpnaaGreatDoor
open Ago Go.ChangeShapes Go.WideShapes Go.ChangeAt Go.RowKit

theorem own:ownKnob Tryz.prog.godebug=none:=by kernel_rfl
theorem laid:laidOutB Tryz.prog=true:=by kernel_rfl
def tys:List Nat:=[3,4,5,9,22,24,26,41,46,54,82,101]
theorem tysOk:okTys Tryz.prog tys=true:=by kernel_rfl
theorem uINT:Tryz.prog.underlying 3=some (.int .i64):=by kernel_rfl
theorem uBOOL:Tryz.prog.underlying 4=some .bool:=by kernel_rfl
theorem uSTRING:Tryz.prog.underlying 9=some .string:=by kernel_rfl
theorem all_of {α β:Type} {g:α→β} : ∀ {l:List β},(∀ x,x∈l→∃ y,x=g y)→∃ ys:List α,l=ys.map g
  | [],_=>⟨[],rfl⟩
  | x::l,h=>by
    obtain ⟨y,rfl⟩:=h x (List.mem_cons_self ..)
    obtain ⟨ys,rfl⟩:=all_of fun z hz=>h z (List.mem_cons_of_mem _ hz)
    exact ⟨y::ys,rfl⟩
theorem tyINT {k:Nat} {cs:List AV} (h:HasTy Tryz.prog k 3 cs) : ∃ n,cs=[.int .i64 n]:=by
  cases k with
  | zero=>exact h.elim
  | succ k=>simp only[HasTy,uINT] at h; obtain ⟨n,h,_⟩:=h; exact ⟨n,h⟩
theorem tyBOOL {k:Nat} {cs:List AV} (h:HasTy Tryz.prog k 4 cs) : ∃ b,cs=[.bool b]:=by
  cases k with
  | zero=>exact h.elim
  | succ k=>simp only[HasTy,uBOOL] at h; exact h
theorem tySTRING {k:Nat} {cs:List AV} (h:HasTy Tryz.prog k 9 cs) : ∃ s,cs=[.str s]:=by
  cases k with
  | zero=>exact h.elim
  | succ k=>simp only[HasTy,uSTRING] at h; exact h
theorem tyDEC {k:Nat} {cs:List AV} (h:HasTy Tryz.prog k 26 cs) : ∃ d:Dec,cs=[.bool d.neg,.str d.digits,.int .i64 d.exp]:=by
  cases k with
  | zero=>exact h.elim
  | succ k=>
    simp only[HasTy,Tryz.underlying26,HasFs] at h
    obtain ⟨a,b,rfl,h1,c,d,rfl,h2,e,f,rfl,h3,rfl⟩:=h
    obtain ⟨x,rfl⟩:=tyBOOL h1
    obtain ⟨y,rfl⟩:=tySTRING h2
    obtain ⟨z,rfl⟩:=tyINT h3
    exact ⟨⟨x,y,z⟩,rfl⟩
theorem szPART:szOf Tryz.prog 54=11:=by kernel_rfl
theorem agPART:aggOf Tryz.prog 54=true:=by kernel_rfl
theorem tyBND {k:Nat} {cs:List AV} (h:HasTy Tryz.prog k 46 cs) : ∃ b:Bnd,cs=[.bool b.set,.bool b.num.neg,.str b.num.digits,.int .i64 b.num.exp,.bool b.opn]:=by
  cases k with
  | zero=>exact h.elim
  | succ k=>
    simp only[HasTy,Tryz.underlying46,HasFs] at h
    obtain ⟨a,b,rfl,h1,c,d,rfl,h2,e,f,rfl,h3,rfl⟩:=h
    obtain ⟨x,rfl⟩:=tyBOOL h1
    obtain ⟨y,rfl⟩:=tyDEC h2
    obtain ⟨z,rfl⟩:=tyBOOL h3
    exact ⟨⟨x,y,z⟩,rfl⟩
theorem tyPART {k:Nat} {cs:List AV} (h:HasTy Tryz.prog k 54 cs) : ∃ p:Prt,cs=(encPrt p).cells:=by
  cases k with
  | zero=>exact h.elim
  | succ k=>
    simp only[HasTy,Tryz.underlying54,HasFs] at h
    obtain ⟨a,b,rfl,h1,c,d,rfl,h2,e,f,rfl,h3,rfl⟩:=h
    obtain ⟨x,rfl⟩:=tyBND h1
    obtain ⟨y,rfl⟩:=tyBND h2
    obtain ⟨z,rfl⟩:=tyINT h3
    exact ⟨⟨x,y,z⟩,rfl⟩
theorem tyPARTS {k:Nat} {cs:List AV} (h:HasTy Tryz.prog k 22 cs) : ∃ l:List Prt,cs=[.tsl 11 (l.map encPrt)]:=by
  cases k with
  | zero=>exact h.elim
  | succ k=>
    simp only[HasTy,Tryz.underlying22,szPART,agPART] at h
    obtain ⟨l,rfl,hl⟩:=h
    obtain ⟨ys,rfl⟩:=all_of (g:=encPrt) (l:=l) fun x hx=>by
      obtain ⟨h1,h2⟩:=hl x hx
      obtain ⟨v,hv⟩:=tyPART h2
      rw[hv] at h1
      exact ⟨v,(Option.some.inj h1).symm⟩
    exact ⟨ys,rfl⟩
theorem tyNS {k:Nat} {cs:List AV} (h:HasTy Tryz.prog k 24 cs) : ∃ l:List Prt,cs=[.tsl 11 (l.map encPrt)]:=by
  cases k with
  | zero=>exact h.elim
  | succ k=>
    simp only[HasTy,Tryz.underlying24,HasFs] at h
    obtain ⟨a,b,rfl,h1,rfl⟩:=h
    obtain ⟨x,rfl⟩:=tyPARTS h1
    exact ⟨x,rfl⟩
theorem agDEC:aggOf Tryz.prog 26=true:=by kernel_rfl
theorem argDec {x:AV} (h:ArgTy Tryz.prog 26 x) : ∃ d:Dec,x=encDec d:=by
  obtain ⟨k,h1,h2⟩:=h
  obtain ⟨d,hd⟩:=tyDEC h2
  rw[hd,agDEC] at h1
  exact ⟨d,(Option.some.inj h1).symm⟩
theorem uARR:Tryz.prog.underlying 41=some (.array 3 24):=by kernel_rfl
theorem agARR:aggOf Tryz.prog 41=true:=by kernel_rfl
theorem tyARR {k:Nat} {cs:List AV} (h:HasTy Tryz.prog k 41 cs) : ∃ a b c:List Prt,cs=[.tsl 11 (a.map encPrt),.tsl 11 (b.map encPrt),.tsl 11 (c.map encPrt)]:=by
  cases k with
  | zero=>exact h.elim
  | succ k=>
    simp only[HasTy,uARR,HasArr] at h
    obtain ⟨a,b,rfl,h1,c,d,rfl,h2,e,f,rfl,h3,rfl⟩:=h
    obtain ⟨x,rfl⟩:=tyNS h1
    obtain ⟨y,rfl⟩:=tyNS h2
    obtain ⟨z,rfl⟩:=tyNS h3
    exact ⟨x,y,z,rfl⟩
theorem argA3 {x:AV} (h:ArgTy Tryz.prog 41 x) : ∃ a b c:List Prt,x = .agg [.tsl 11 (a.map encPrt),.tsl 11 (b.map encPrt),.tsl 11 (c.map encPrt)]:=by
  obtain ⟨k,h1,h2⟩:=h
  obtain ⟨a,b,c,hl⟩:=tyARR h2
  rw[hl,agARR] at h1
  exact ⟨a,b,c,(Option.some.inj h1).symm⟩
theorem encDec_bulk (d:Dec):(encDec d).bulk=d.digits.length+4:=by
  simp [encDec,AV.bulk,AV.bulks]
  omega
theorem bulkFn (H:Type):BulkFn (H:=H) Rows.uptoBulk Rows.uptoBulkAll where
  one d:=by
    cases d with
    | lit l=>cases l<;>simp [Rows.uptoBulk]
    | _=>simp [Rows.uptoBulk]
  str b:=by simp [Rows.uptoBulk]
  slice e s:=by simp [Rows.uptoBulk]
  agg p:=by simp [Rows.uptoBulk]
  nil:=by simp [Rows.uptoBulkAll]
  cons d l:=by simp [Rows.uptoBulkAll]

end Go.Proofs.YtnifalngeimpnaaGreatDoor
