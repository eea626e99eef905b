/- The functions of the program, compiled, are the table's. -/
import Derived.Test.YtajfhbpnjcdpeaaDoorRows
import Derived.Test.YtajfhbpnjcdpeaaDoorMachD
import Derived.Test.YtajfhbpnjcdpeaaDoorCode
set_option linter.unusedSimpArgs false
set_option linter.unusedVariables false
set_option linter.unusedSimpArgs false
set_option linter.unusedVariables false
set_option maxRecDepth 100000
namespace Go.Proofs.YtajfhbpnjcdpeaaDoor
open Ago
def fids : List (Nat × Nat) := [(19, 7), (8, 9), (10, 11), (7, 12), (30, 20), (31, 21), (32, 22), (18, 24), (29, 42), (48, 60), (61, 83), (76, 93), (3, 115), (9, 119), (20, 123), (21, 124), (33, 128), (34, 129), (49, 136), (51, 138), (62, 143), (67, 148), (80, 155)]
def pf (f : Nat) : Bool := !([143] : List Nat).contains f
theorem coded7 : CodedAt Tryd.prog (fidOf fids) pf code (19, 7) := codedAt_of (a := ac7) rfl Tryd.func19 (by kernel_rfl) (by kernel_rfl)
theorem coded9 : CodedAt Tryd.prog (fidOf fids) pf code (8, 9) := codedAt_of (a := ac9) rfl Tryd.func8 (by kernel_rfl) (by kernel_rfl)
theorem coded11 : CodedAt Tryd.prog (fidOf fids) pf code (10, 11) := codedAt_of (a := ac11) rfl Tryd.func10 (by kernel_rfl) (by kernel_rfl)
theorem coded12 : CodedAt Tryd.prog (fidOf fids) pf code (7, 12) := codedAt_of (a := ac12) rfl Tryd.func7 (by kernel_rfl) (by kernel_rfl)
theorem coded20 : CodedAt Tryd.prog (fidOf fids) pf code (30, 20) := codedAt_of (a := ac20) rfl Tryd.func30 (by kernel_rfl) (by kernel_rfl)
theorem coded21 : CodedAt Tryd.prog (fidOf fids) pf code (31, 21) := codedAt_of (a := ac21) rfl Tryd.func31 (by kernel_rfl) (by kernel_rfl)
theorem coded22 : CodedAt Tryd.prog (fidOf fids) pf code (32, 22) := codedAt_of (a := ac22) rfl Tryd.func32 (by kernel_rfl) (by kernel_rfl)
theorem coded24 : CodedAt Tryd.prog (fidOf fids) pf code (18, 24) := codedAt_of (a := ac24) rfl Tryd.func18 (by kernel_rfl) (by kernel_rfl)
theorem coded42 : CodedAt Tryd.prog (fidOf fids) pf code (29, 42) := codedAt_of (a := ac42) rfl Tryd.func29 (by kernel_rfl) (by kernel_rfl)
theorem coded60 : CodedAt Tryd.prog (fidOf fids) pf code (48, 60) := codedAt_of (a := ac60) rfl Tryd.func48 (by kernel_rfl) (by kernel_rfl)
theorem coded83 : CodedAt Tryd.prog (fidOf fids) pf code (61, 83) := codedAt_of (a := ac83) rfl Tryd.func61 (by kernel_rfl) (by kernel_rfl)
theorem coded93 : CodedAt Tryd.prog (fidOf fids) pf code (76, 93) := codedAt_of (a := ac93) rfl Tryd.func76 (by kernel_rfl) (by kernel_rfl)
theorem coded115 : CodedAt Tryd.prog (fidOf fids) pf code (3, 115) := codedAt_of (a := ac115) rfl Tryd.func3 (by kernel_rfl) (by kernel_rfl)
theorem coded119 : CodedAt Tryd.prog (fidOf fids) pf code (9, 119) := codedAt_of (a := ac119) rfl Tryd.func9 (by kernel_rfl) (by kernel_rfl)
theorem coded123 : CodedAt Tryd.prog (fidOf fids) pf code (20, 123) := codedAt_of (a := ac123) rfl Tryd.func20 (by kernel_rfl) (by kernel_rfl)
theorem coded124 : CodedAt Tryd.prog (fidOf fids) pf code (21, 124) := codedAt_of (a := ac124) rfl Tryd.func21 (by kernel_rfl) (by kernel_rfl)
theorem coded128 : CodedAt Tryd.prog (fidOf fids) pf code (33, 128) := codedAt_of (a := ac128) rfl Tryd.func33 (by kernel_rfl) (by kernel_rfl)
theorem coded129 : CodedAt Tryd.prog (fidOf fids) pf code (34, 129) := codedAt_of (a := ac129) rfl Tryd.func34 (by kernel_rfl) (by kernel_rfl)
theorem coded136 : CodedAt Tryd.prog (fidOf fids) pf code (49, 136) := codedAt_of (a := ac136) rfl Tryd.func49 (by kernel_rfl) (by kernel_rfl)
theorem coded138 : CodedAt Tryd.prog (fidOf fids) pf code (51, 138) := codedAt_of (a := ac138) rfl Tryd.func51 (by kernel_rfl) (by kernel_rfl)
theorem coded143 : CodedAt Tryd.prog (fidOf fids) pf code (62, 143) := codedAt_of (a := ac143) rfl Tryd.func62 (by kernel_rfl) (by kernel_rfl)
theorem coded148 : CodedAt Tryd.prog (fidOf fids) pf code (67, 148) := codedAt_of (a := ac148) rfl Tryd.func67 (by kernel_rfl) (by kernel_rfl)
theorem coded155 : CodedAt Tryd.prog (fidOf fids) pf code (80, 155) := codedAt_of (a := ac155) rfl Tryd.func80 (by kernel_rfl) (by kernel_rfl)
theorem ctxOk : CtxOk Tryd.prog (fidOf fids) pf C0 := ctxOk_of (by
  intro p hp
  simp only [fids, List.mem_cons, List.not_mem_nil, or_false] at hp
  rcases hp with rfl | rfl | rfl | rfl | rfl | rfl | rfl | rfl | rfl | rfl | rfl | rfl | rfl | rfl | rfl | rfl | rfl | rfl | rfl | rfl | rfl | rfl | rfl
  · exact coded7
  · exact coded9
  · exact coded11
  · exact coded12
  · exact coded20
  · exact coded21
  · exact coded22
  · exact coded24
  · exact coded42
  · exact coded60
  · exact coded83
  · exact coded93
  · exact coded115
  · exact coded119
  · exact coded123
  · exact coded124
  · exact coded128
  · exact coded129
  · exact coded136
  · exact coded138
  · exact coded143
  · exact coded148
  · exact coded155) (fun f p h => by simp [clR] at h) (fun f p h => by simp [clP] at h)
end Go.Proofs.YtajfhbpnjcdpeaaDoor
