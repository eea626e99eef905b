/- Copies of patterns and schemas; Lookup. -/
import Derived.Test.YtglenpfcanlbgaaGreatDoorPRunF
import Derived.Test.YtglenpfcanlbgaaGreatDoorPRunG
set_option linter.unusedSimpArgs false
set_option linter.unusedVariables false
set_option maxRecDepth 100000
set_option maxHeartbeats 8000000
namespace Ago
open Go (IntKind)
section
variable {α:Type} {f g:α→AV} {l:List α}
end
theorem pat_bulk_pos (p:Pat):1≤p.bulk:=by
 have:=p.bulk_eq
 omega
def zeroP:AV:=.agg [.int .i64 0,.int .i64 0,.int .i64 0,.int .i64 0,.int .i64 0,.snil 6]
def layR:Nat→List (Nat × Bool × List AV)→List AV × Heap
 | _,[]=>([],[])
 | b,(n,true,_)::l=>(.snil n::(layR b l).1,(layR b l).2)
 | b,(n,false,els)::l=>(.sref n b 0 els.length::(layR (b+1) l).1,.row n els false true b::(layR (b+1) l).2)
theorem layR_nil (b:Nat):layR b []=([],[]):=(rfl)
theorem layR_t (b n:Nat) (e:List AV) (l:List (Nat × Bool × List AV)):layR b ((n,true,e)::l)=(.snil n::(layR b l).1,(layR b l).2):=(rfl)
theorem layR_f (b n:Nat) (e:List AV) (l:List (Nat × Bool × List AV)):layR b ((n,false,e)::l)=(.sref n b 0 e.length::(layR (b+1) l).1,.row n e false true b::(layR (b+1) l).2):=(rfl)
def zeroQ:AV:=.agg [.int .i64 0,.int .i64 0,.int .i64 0,.int .i64 0,.str [],.snil 11,.int .i64 0,.int .i64 0,.int .i64 0,.int .i64 0,.int .i64 0,.snil 6,.snil 13,.snil 17,.snil 15]
def clCells (x:Sch) (p v q a:AV):List AV:=[.int .i64 x.s.op,.int .i64 x.s.mask,.int .i64 x.s.min,.int .i64 x.s.max,.str x.s.name,p,.int .i64 x.s.pat.s.op,.int .i64 x.s.pat.s.lo,.int .i64 x.s.pat.s.hi,.int .i64 x.s.pat.s.min,.int .i64 x.s.pat.s.max,.tsl 6 (x.s.pat.a.map encPat),v,q,a]
end Ago
set_option maxRecDepth 100000
set_option maxHeartbeats 32000000
namespace Ago
open Go (IntKind)
theorem emp_cases {α:Type} (f:α→AV) (l:List α):(l.map f=[]∧(l.map f).isEmpty=true∧l.length=0)∨∃ z zs,l.map f=z::zs∧(l.map f).isEmpty=false∧l.length=zs.length+1:=by
 cases l with
 | nil=>exact .inl ⟨rfl,rfl,rfl⟩
 | cons z zs=>exact .inr ⟨f z,zs.map f,rfl,rfl,by simp⟩
def zeroX:Sch:=.mk ⟨0,0,0,0,[],[],.mk ⟨0,0,0,0,0⟩ [],[]⟩ [] []
theorem zeroX_eq:encSch zeroX = .agg [.int .i64 0,.int .i64 0,.int .i64 0,.int .i64 0,.str [],.tsl 11 [],.int .i64 0,.int .i64 0,.int .i64 0,.int .i64 0,.int .i64 0,.tsl 6 [],.tsl 13 [],.tsl 17 [],.tsl 15 []]:=by
 rw[encSch_eq]
 rfl
end Ago
