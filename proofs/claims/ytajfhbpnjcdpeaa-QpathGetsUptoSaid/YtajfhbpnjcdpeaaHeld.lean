/- The functions of the program, compiled, are the table's. -/
import Derived.Test.YtajfhbpnjcdpeaaRows
import Derived.Test.YtajfhbpnjcdpeaaMachD
import Derived.Test.YtajfhbpnjcdpeaaCode
set_option linter.unusedSimpArgs false
set_option linter.unusedVariables false
set_option linter.unusedSimpArgs false
set_option linter.unusedVariables false
set_option maxRecDepth 100000
namespace Go.Proofs.Ytajfhbpnjcdpeaa
open Ago
def fids : List (Nat × Nat) := [(62, 62), (3, 3), (4, 4), (6, 6), (7, 7), (8, 8), (9, 9), (10, 10), (11, 11), (12, 12), (13, 13), (14, 14), (15, 15), (18, 18), (19, 19), (20, 20), (21, 21), (22, 22), (23, 23), (24, 24), (25, 25), (26, 26), (27, 27), (28, 28), (29, 29), (38, 38), (39, 39), (40, 40), (41, 41), (42, 42), (43, 43), (44, 44), (45, 45), (57, 57), (58, 58), (59, 59), (60, 60), (61, 61), (78, 78), (79, 79), (80, 80), (81, 81), (82, 82), (83, 83), (90, 90), (91, 91), (92, 92), (93, 93)]
def pf (f : Nat) : Bool := !([] : List Nat).contains f
theorem coded3 : CodedAt Try.prog (fidOf fids) pf code (3, 3) := codedAt_of (a := ac3) rfl Try.func3 (by kernel_rfl) (by kernel_rfl)
theorem coded4 : CodedAt Try.prog (fidOf fids) pf code (4, 4) := codedAt_of (a := ac4) rfl Try.func4 (by kernel_rfl) (by kernel_rfl)
theorem coded6 : CodedAt Try.prog (fidOf fids) pf code (6, 6) := codedAt_of (a := ac6) rfl Try.func6 (by kernel_rfl) (by kernel_rfl)
theorem coded7 : CodedAt Try.prog (fidOf fids) pf code (7, 7) := codedAt_of (a := ac7) rfl Try.func7 (by kernel_rfl) (by kernel_rfl)
theorem coded8 : CodedAt Try.prog (fidOf fids) pf code (8, 8) := codedAt_of (a := ac8) rfl Try.func8 (by kernel_rfl) (by kernel_rfl)
theorem coded9 : CodedAt Try.prog (fidOf fids) pf code (9, 9) := codedAt_of (a := ac9) rfl Try.func9 (by kernel_rfl) (by kernel_rfl)
theorem coded10 : CodedAt Try.prog (fidOf fids) pf code (10, 10) := codedAt_of (a := ac10) rfl Try.func10 (by kernel_rfl) (by kernel_rfl)
theorem coded11 : CodedAt Try.prog (fidOf fids) pf code (11, 11) := codedAt_of (a := ac11) rfl Try.func11 (by kernel_rfl) (by kernel_rfl)
theorem coded12 : CodedAt Try.prog (fidOf fids) pf code (12, 12) := codedAt_of (a := ac12) rfl Try.func12 (by kernel_rfl) (by kernel_rfl)
theorem coded13 : CodedAt Try.prog (fidOf fids) pf code (13, 13) := codedAt_of (a := ac13) rfl Try.func13 (by kernel_rfl) (by kernel_rfl)
theorem coded14 : CodedAt Try.prog (fidOf fids) pf code (14, 14) := codedAt_of (a := ac14) rfl Try.func14 (by kernel_rfl) (by kernel_rfl)
theorem coded15 : CodedAt Try.prog (fidOf fids) pf code (15, 15) := codedAt_of (a := ac15) rfl Try.func15 (by kernel_rfl) (by kernel_rfl)
theorem coded18 : CodedAt Try.prog (fidOf fids) pf code (18, 18) := codedAt_of (a := ac18) rfl Try.func18 (by kernel_rfl) (by kernel_rfl)
theorem coded19 : CodedAt Try.prog (fidOf fids) pf code (19, 19) := codedAt_of (a := ac19) rfl Try.func19 (by kernel_rfl) (by kernel_rfl)
theorem coded20 : CodedAt Try.prog (fidOf fids) pf code (20, 20) := codedAt_of (a := ac20) rfl Try.func20 (by kernel_rfl) (by kernel_rfl)
theorem coded21 : CodedAt Try.prog (fidOf fids) pf code (21, 21) := codedAt_of (a := ac21) rfl Try.func21 (by kernel_rfl) (by kernel_rfl)
theorem coded22 : CodedAt Try.prog (fidOf fids) pf code (22, 22) := codedAt_of (a := ac22) rfl Try.func22 (by kernel_rfl) (by kernel_rfl)
theorem coded23 : CodedAt Try.prog (fidOf fids) pf code (23, 23) := codedAt_of (a := ac23) rfl Try.func23 (by kernel_rfl) (by kernel_rfl)
theorem coded24 : CodedAt Try.prog (fidOf fids) pf code (24, 24) := codedAt_of (a := ac24) rfl Try.func24 (by kernel_rfl) (by kernel_rfl)
theorem coded25 : CodedAt Try.prog (fidOf fids) pf code (25, 25) := codedAt_of (a := ac25) rfl Try.func25 (by kernel_rfl) (by kernel_rfl)
theorem coded26 : CodedAt Try.prog (fidOf fids) pf code (26, 26) := codedAt_of (a := ac26) rfl Try.func26 (by kernel_rfl) (by kernel_rfl)
theorem coded27 : CodedAt Try.prog (fidOf fids) pf code (27, 27) := codedAt_of (a := ac27) rfl Try.func27 (by kernel_rfl) (by kernel_rfl)
theorem coded28 : CodedAt Try.prog (fidOf fids) pf code (28, 28) := codedAt_of (a := ac28) rfl Try.func28 (by kernel_rfl) (by kernel_rfl)
theorem coded29 : CodedAt Try.prog (fidOf fids) pf code (29, 29) := codedAt_of (a := ac29) rfl Try.func29 (by kernel_rfl) (by kernel_rfl)
theorem coded38 : CodedAt Try.prog (fidOf fids) pf code (38, 38) := codedAt_of (a := ac38) rfl Try.func38 (by kernel_rfl) (by kernel_rfl)
theorem coded39 : CodedAt Try.prog (fidOf fids) pf code (39, 39) := codedAt_of (a := ac39) rfl Try.func39 (by kernel_rfl) (by kernel_rfl)
theorem coded40 : CodedAt Try.prog (fidOf fids) pf code (40, 40) := codedAt_of (a := ac40) rfl Try.func40 (by kernel_rfl) (by kernel_rfl)
theorem coded41 : CodedAt Try.prog (fidOf fids) pf code (41, 41) := codedAt_of (a := ac41) rfl Try.func41 (by kernel_rfl) (by kernel_rfl)
theorem coded42 : CodedAt Try.prog (fidOf fids) pf code (42, 42) := codedAt_of (a := ac42) rfl Try.func42 (by kernel_rfl) (by kernel_rfl)
theorem coded43 : CodedAt Try.prog (fidOf fids) pf code (43, 43) := codedAt_of (a := ac43) rfl Try.func43 (by kernel_rfl) (by kernel_rfl)
theorem coded44 : CodedAt Try.prog (fidOf fids) pf code (44, 44) := codedAt_of (a := ac44) rfl Try.func44 (by kernel_rfl) (by kernel_rfl)
theorem coded45 : CodedAt Try.prog (fidOf fids) pf code (45, 45) := codedAt_of (a := ac45) rfl Try.func45 (by kernel_rfl) (by kernel_rfl)
theorem coded57 : CodedAt Try.prog (fidOf fids) pf code (57, 57) := codedAt_of (a := ac57) rfl Try.func57 (by kernel_rfl) (by kernel_rfl)
theorem coded58 : CodedAt Try.prog (fidOf fids) pf code (58, 58) := codedAt_of (a := ac58) rfl Try.func58 (by kernel_rfl) (by kernel_rfl)
theorem coded59 : CodedAt Try.prog (fidOf fids) pf code (59, 59) := codedAt_of (a := ac59) rfl Try.func59 (by kernel_rfl) (by kernel_rfl)
theorem coded60 : CodedAt Try.prog (fidOf fids) pf code (60, 60) := codedAt_of (a := ac60) rfl Try.func60 (by kernel_rfl) (by kernel_rfl)
theorem coded61 : CodedAt Try.prog (fidOf fids) pf code (61, 61) := codedAt_of (a := ac61) rfl Try.func61 (by kernel_rfl) (by kernel_rfl)
theorem coded78 : CodedAt Try.prog (fidOf fids) pf code (78, 78) := codedAt_of (a := ac78) rfl Try.func78 (by kernel_rfl) (by kernel_rfl)
theorem coded79 : CodedAt Try.prog (fidOf fids) pf code (79, 79) := codedAt_of (a := ac79) rfl Try.func79 (by kernel_rfl) (by kernel_rfl)
theorem coded80 : CodedAt Try.prog (fidOf fids) pf code (80, 80) := codedAt_of (a := ac80) rfl Try.func80 (by kernel_rfl) (by kernel_rfl)
theorem coded81 : CodedAt Try.prog (fidOf fids) pf code (81, 81) := codedAt_of (a := ac81) rfl Try.func81 (by kernel_rfl) (by kernel_rfl)
theorem coded82 : CodedAt Try.prog (fidOf fids) pf code (82, 82) := codedAt_of (a := ac82) rfl Try.func82 (by kernel_rfl) (by kernel_rfl)
theorem coded83 : CodedAt Try.prog (fidOf fids) pf code (83, 83) := codedAt_of (a := ac83) rfl Try.func83 (by kernel_rfl) (by kernel_rfl)
theorem coded90 : CodedAt Try.prog (fidOf fids) pf code (90, 90) := codedAt_of (a := ac90) rfl Try.func90 (by kernel_rfl) (by kernel_rfl)
theorem coded91 : CodedAt Try.prog (fidOf fids) pf code (91, 91) := codedAt_of (a := ac91) rfl Try.func91 (by kernel_rfl) (by kernel_rfl)
theorem coded92 : CodedAt Try.prog (fidOf fids) pf code (92, 92) := codedAt_of (a := ac92) rfl Try.func92 (by kernel_rfl) (by kernel_rfl)
theorem coded93 : CodedAt Try.prog (fidOf fids) pf code (93, 93) := codedAt_of (a := ac93) rfl Try.func93 (by kernel_rfl) (by kernel_rfl)
theorem coded62 : CodedAt Try.prog (fidOf fids) pf code (62, 62) := bodied_of rfl Try.func62 rfl (by kernel_rfl)
theorem clone62 : CloneAt Try.prog (fidOf fids) pf 62 (1, 1) := fun g hg => by
  have h := fidOf_mem hg
  have e : g = 62 := by simpa [fids] using h
  subst e
  exact ⟨Try.f62, 26, 5, _, _, _, _, _, _, _, _, _, _, _, Try.func62, by kernel_rfl, rfl, rfl, rfl, by kernel_rfl, rfl, by kernel_rfl, rfl, rfl, rfl, by kernel_rfl, by kernel_rfl⟩
theorem ctxOk : CtxOk Try.prog (fidOf fids) pf C0 := ctxOk_of (by
  intro p hp
  simp only [fids, List.mem_cons, List.not_mem_nil, or_false] at hp
  rcases hp with rfl | rfl | rfl | rfl | rfl | rfl | rfl | rfl | rfl | rfl | rfl | rfl | rfl | rfl | rfl | rfl | rfl | rfl | rfl | rfl | rfl | rfl | rfl | rfl | rfl | rfl | rfl | rfl | rfl | rfl | rfl | rfl | rfl | rfl | rfl | rfl | rfl | rfl | rfl | rfl | rfl | rfl | rfl | rfl | rfl | rfl | rfl | rfl
  · exact coded62
  · exact coded3
  · exact coded4
  · exact coded6
  · exact coded7
  · exact coded8
  · exact coded9
  · exact coded10
  · exact coded11
  · exact coded12
  · exact coded13
  · exact coded14
  · exact coded15
  · exact coded18
  · exact coded19
  · exact coded20
  · exact coded21
  · exact coded22
  · exact coded23
  · exact coded24
  · exact coded25
  · exact coded26
  · exact coded27
  · exact coded28
  · exact coded29
  · exact coded38
  · exact coded39
  · exact coded40
  · exact coded41
  · exact coded42
  · exact coded43
  · exact coded44
  · exact coded45
  · exact coded57
  · exact coded58
  · exact coded59
  · exact coded60
  · exact coded61
  · exact coded78
  · exact coded79
  · exact coded80
  · exact coded81
  · exact coded82
  · exact coded83
  · exact coded90
  · exact coded91
  · exact coded92
  · exact coded93) (fun f p h => by simp [clR] at h) (fun f p h => by
  unfold clP at h
  split at h
  · cases h
    exact ⟨rfl, clone62⟩
  · cases h)
end Go.Proofs.Ytajfhbpnjcdpeaa
