/- The types of the program: automata as trees. -/
import Derived.Test.YtgfkbpjgfdgfbaaGreatDoorRows
import Derived.Test.YtgfkbpjgfdgfbaaGreatDoorMachD
import Derived.Test.YtgfkbpjgfdgfbaaGreatDoorRunA
import Derived.JoinedCond
set_option linter.unusedSimpArgs false
set_option linter.unusedVariables false
set_option maxRecDepth 100000
namespace Go.Proofs.YtgfkbpjgfdgfbaaGreatDoor
open Ago Go.ChangeShapes Go.WideShapes Go.ChangeAt Go.RowKit

theorem own:ownKnob Tryz.prog.godebug=none:=by kernel_rfl
theorem laid:laidOutB Tryz.prog=true:=by kernel_rfl
def tys:List Nat:=[3, 4, 9, 22, 24, 33, 35, 42]
theorem tysOk:okTys Tryz.prog tys=true:=by kernel_rfl
theorem uINT:Tryz.prog.underlying 3=some (.int .i64):=by kernel_rfl
theorem uBOOL:Tryz.prog.underlying 4=some .bool:=by kernel_rfl
theorem szSTATE:szOf Tryz.prog 35=2:=by kernel_rfl
theorem szARC:szOf Tryz.prog 42=3:=by kernel_rfl
theorem agSTATE:aggOf Tryz.prog 35=true:=by kernel_rfl
theorem agARC:aggOf Tryz.prog 42=true:=by kernel_rfl
theorem agMACHINE:aggOf Tryz.prog 24=true:=by kernel_rfl

theorem all_of {α β:Type} {g:α→β} : ∀ {l:List β}, (∀ x, x∈l→∃ y, x=g y)→∃ ys:List α, l=ys.map g
  | [], _=>⟨[], rfl⟩
  | x::l, h=>by
    obtain ⟨y, rfl⟩:=h x (List.mem_cons_self ..)
    obtain ⟨ys, rfl⟩:=all_of fun z hz=>h z (List.mem_cons_of_mem _ hz)
    exact ⟨y::ys, rfl⟩

theorem tyINT {k:Nat} {cs:List AV} (h:HasTy Tryz.prog k 3 cs) : ∃ n, cs=[.int .i64 n]:=by
  cases k with
  | zero=>exact h.elim
  | succ k=>simp only[HasTy, uINT] at h; obtain ⟨n, h, _⟩:=h; exact ⟨n, h⟩
theorem tyBOOL {k:Nat} {cs:List AV} (h:HasTy Tryz.prog k 4 cs) : ∃ b, cs=[.bool b]:=by
  cases k with
  | zero=>exact h.elim
  | succ k=>simp only[HasTy, uBOOL] at h; exact h
theorem tyARC {k:Nat} {cs:List AV} (h:HasTy Tryz.prog k 42 cs) : ∃ a:Arc, cs=[.int .i64 a.lo, .int .i64 a.hi, .int .i64 a.next]:=by
  cases k with
  | zero=>exact h.elim
  | succ k=>
    simp only[HasTy, Tryz.underlying42, HasFs] at h
    obtain ⟨a1, b1, rfl, h1, a2, b2, rfl, h2, a3, b3, rfl, h3, rfl⟩:=h
    obtain ⟨x1, rfl⟩:=tyINT h1
    obtain ⟨x2, rfl⟩:=tyINT h2
    obtain ⟨x3, rfl⟩:=tyINT h3
    exact ⟨⟨x1, x2, x3⟩, rfl⟩
theorem tyARCS {k:Nat} {cs:List AV} (h:HasTy Tryz.prog k 33 cs) : ∃ l:List Arc, cs=[.tsl 3 (l.map encArc)]:=by
  cases k with
  | zero=>exact h.elim
  | succ k=>
    simp only[HasTy, Tryz.underlying33, szARC, agARC] at h
    obtain ⟨l, rfl, hl⟩:=h
    obtain ⟨ys, rfl⟩:=all_of (g:=encArc) (l:=l) fun x hx=>by
      obtain ⟨h1, h2⟩:=hl x hx
      obtain ⟨a, ha⟩:=tyARC h2
      rw[ha] at h1
      exact ⟨a, (Option.some.inj h1).symm⟩
    exact ⟨ys, rfl⟩
theorem tySTATE {k:Nat} {cs:List AV} (h:HasTy Tryz.prog k 35 cs) : ∃ a:Sta, cs=[.bool a.acc, .tsl 3 (a.arcs.map encArc)]:=by
  cases k with
  | zero=>exact h.elim
  | succ k=>
    simp only[HasTy, Tryz.underlying35, HasFs] at h
    obtain ⟨a1, b1, rfl, h1, a2, b2, rfl, h2, rfl⟩:=h
    obtain ⟨x1, rfl⟩:=tyBOOL h1
    obtain ⟨x2, rfl⟩:=tyARCS h2
    exact ⟨⟨x1, x2⟩, rfl⟩
theorem tySTATES {k:Nat} {cs:List AV} (h:HasTy Tryz.prog k 22 cs) : ∃ l:List Sta, cs=[.tsl 2 (l.map encSta)]:=by
  cases k with
  | zero=>exact h.elim
  | succ k=>
    simp only[HasTy, Tryz.underlying22, szSTATE, agSTATE] at h
    obtain ⟨l, rfl, hl⟩:=h
    obtain ⟨ys, rfl⟩:=all_of (g:=encSta) (l:=l) fun x hx=>by
      obtain ⟨h1, h2⟩:=hl x hx
      obtain ⟨a, ha⟩:=tySTATE h2
      rw[ha] at h1
      exact ⟨a, (Option.some.inj h1).symm⟩
    exact ⟨ys, rfl⟩
theorem argM {x:AV} (h:ArgTy Tryz.prog 24 x) : ∃ m:List Sta, x=encMa m:=by
  obtain ⟨k, h1, h2⟩:=h
  cases k with
  | zero=>exact h2.elim
  | succ k=>
    simp only[HasTy, Tryz.underlying24, HasFs] at h2
    obtain ⟨a1, b1, e, k1, rfl⟩:=h2
    obtain ⟨m, rfl⟩:=tySTATES k1
    rw[e, agMACHINE] at h1
    exact ⟨m, (Option.some.inj h1).symm⟩
theorem bulks_memA : ∀ {l:List AV} {x:AV}, x∈l→x.bulk≤AV.bulks l
  | y::l, x, h=>by
    rcases List.mem_cons.1 h with rfl | h
    · simp [AV.bulks]
    · have:=bulks_memA h; simp [AV.bulks]; omega
theorem bulks_lenA : ∀ (l:List AV), l.length≤AV.bulks l
  | []=>Nat.le_refl _
  | x::l=>by
    have:=bulks_lenA l
    have:=bulk_one x
    simp [AV.bulks]
    omega
theorem smallM_of {m:List Sta} (h:(encMa m).bulk≤1048576):SmallM m:=by
  unfold encMa at h
  simp only[AV.bulk, AV.bulks] at h
  have h1:=bulks_lenA (m.map encSta)
  rw[List.length_map] at h1
  refine ⟨by omega, fun s hs=>?_⟩
  have h2:(AV.agg [.bool s.acc, .tsl 3 (s.arcs.map encArc)]).bulk≤AV.bulks (m.map encSta):=bulks_memA (List.mem_map_of_mem (f:=encSta) hs)
  simp only[AV.bulk, AV.bulks] at h2
  have h3:=bulks_lenA (s.arcs.map encArc)
  rw[List.length_map] at h3
  omega

theorem bulkFn (H:Type):BulkFn (H:=H) Rows.uptoBulk Rows.uptoBulkAll where
  one d:=by
    cases d with
    | lit l=>cases l<;>simp [Rows.uptoBulk]
    | _=>simp [Rows.uptoBulk]
  str b:=by simp [Rows.uptoBulk]
  slice e s:=by simp [Rows.uptoBulk]
  agg p:=by simp [Rows.uptoBulk]
  nil:=by simp [Rows.uptoBulkAll]
  cons d l:=by simp [Rows.uptoBulkAll]

end Go.Proofs.YtgfkbpjgfdgfbaaGreatDoor
