/- The functions of the program, compiled, are the table's. -/
import Derived.Test.YtglnglflcoeinaaRows
import Derived.Test.YtglnglflcoeinaaMachD
import Derived.Test.YtglnglflcoeinaaCode
import Derived.Test.YtglnglflcoeinaaMachF
import Derived.Test.YtglnglflcoeinaaRunL
import Derived.Test.YtglnglflcoeinaaSort
set_option linter.unusedSimpArgs false
set_option linter.unusedVariables false
set_option maxRecDepth 100000
namespace Go.Proofs.Ytglnglflcoeinaa
open Ago
def fids : List (Nat × Nat) := [(13, 32), (58, 62), (3, 5), (4, 6), (62, 11), (19, 12), (20, 14), (7, 15), (5, 16), (6, 17), (8, 18), (9, 19), (37, 24), (11, 25), (16, 26), (38, 27), (39, 28), (22, 29), (10, 30), (12, 31), (14, 33), (15, 34), (17, 35), (18, 36), (21, 37), (23, 38), (24, 39), (61, 42), (26, 43), (27, 44), (33, 45), (25, 46), (28, 47), (31, 50), (32, 51), (34, 52), (35, 53), (36, 54), (40, 55), (41, 56), (42, 57), (43, 58), (74, 59), (73, 60), (45, 61), (44, 63), (56, 74), (57, 75), (59, 76), (60, 77), (63, 78), (64, 79), (65, 80), (66, 81), (83, 82), (82, 83), (67, 84), (75, 90), (76, 91), (77, 92), (84, 93), (78, 94), (79, 95), (80, 96)]
def pf (f : Nat) : Bool := !([32, 33, 53] : List Nat).contains f
theorem coded5 : CodedAt Try.prog (fidOf fids) pf code (3, 5) := codedAt_of (a := ac5) rfl Try.func3 (by kernel_rfl) (by kernel_rfl)
theorem coded6 : CodedAt Try.prog (fidOf fids) pf code (4, 6) := codedAt_of (a := ac6) rfl Try.func4 (by kernel_rfl) (by kernel_rfl)
theorem coded11 : CodedAt Try.prog (fidOf fids) pf code (62, 11) := codedAt_of (a := ac11) rfl Try.func62 (by kernel_rfl) (by kernel_rfl)
theorem coded12 : CodedAt Try.prog (fidOf fids) pf code (19, 12) := codedAt_of (a := ac12) rfl Try.func19 (by kernel_rfl) (by kernel_rfl)
theorem coded14 : CodedAt Try.prog (fidOf fids) pf code (20, 14) := codedAt_of (a := ac14) rfl Try.func20 (by kernel_rfl) (by kernel_rfl)
theorem coded15 : CodedAt Try.prog (fidOf fids) pf code (7, 15) := codedAt_of (a := ac15) rfl Try.func7 (by kernel_rfl) (by kernel_rfl)
theorem coded16 : CodedAt Try.prog (fidOf fids) pf code (5, 16) := codedAt_of (a := ac16) rfl Try.func5 (by kernel_rfl) (by kernel_rfl)
theorem coded17 : CodedAt Try.prog (fidOf fids) pf code (6, 17) := codedAt_of (a := ac17) rfl Try.func6 (by kernel_rfl) (by kernel_rfl)
theorem coded18 : CodedAt Try.prog (fidOf fids) pf code (8, 18) := codedAt_of (a := ac18) rfl Try.func8 (by kernel_rfl) (by kernel_rfl)
theorem coded19 : CodedAt Try.prog (fidOf fids) pf code (9, 19) := codedAt_of (a := ac19) rfl Try.func9 (by kernel_rfl) (by kernel_rfl)
theorem coded24 : CodedAt Try.prog (fidOf fids) pf code (37, 24) := codedAt_of (a := ac24) rfl Try.func37 (by kernel_rfl) (by kernel_rfl)
theorem coded25 : CodedAt Try.prog (fidOf fids) pf code (11, 25) := codedAt_of (a := ac25) rfl Try.func11 (by kernel_rfl) (by kernel_rfl)
theorem coded26 : CodedAt Try.prog (fidOf fids) pf code (16, 26) := codedAt_of (a := ac26) rfl Try.func16 (by kernel_rfl) (by kernel_rfl)
theorem coded27 : CodedAt Try.prog (fidOf fids) pf code (38, 27) := codedAt_of (a := ac27) rfl Try.func38 (by kernel_rfl) (by kernel_rfl)
theorem coded28 : CodedAt Try.prog (fidOf fids) pf code (39, 28) := codedAt_of (a := ac28) rfl Try.func39 (by kernel_rfl) (by kernel_rfl)
theorem coded29 : CodedAt Try.prog (fidOf fids) pf code (22, 29) := codedAt_of (a := ac29) rfl Try.func22 (by kernel_rfl) (by kernel_rfl)
theorem coded30 : CodedAt Try.prog (fidOf fids) pf code (10, 30) := codedAt_of (a := ac30) rfl Try.func10 (by kernel_rfl) (by kernel_rfl)
theorem coded31 : CodedAt Try.prog (fidOf fids) pf code (12, 31) := codedAt_of (a := ac31) rfl Try.func12 (by kernel_rfl) (by kernel_rfl)
theorem coded33 : CodedAt Try.prog (fidOf fids) pf code (14, 33) := codedAt_of (a := ac33) rfl Try.func14 (by kernel_rfl) (by kernel_rfl)
theorem coded34 : CodedAt Try.prog (fidOf fids) pf code (15, 34) := codedAt_of (a := ac34) rfl Try.func15 (by kernel_rfl) (by kernel_rfl)
theorem coded35 : CodedAt Try.prog (fidOf fids) pf code (17, 35) := codedAt_of (a := ac35) rfl Try.func17 (by kernel_rfl) (by kernel_rfl)
theorem coded36 : CodedAt Try.prog (fidOf fids) pf code (18, 36) := codedAt_of (a := ac36) rfl Try.func18 (by kernel_rfl) (by kernel_rfl)
theorem coded37 : CodedAt Try.prog (fidOf fids) pf code (21, 37) := codedAt_of (a := ac37) rfl Try.func21 (by kernel_rfl) (by kernel_rfl)
theorem coded38 : CodedAt Try.prog (fidOf fids) pf code (23, 38) := codedAt_of (a := ac38) rfl Try.func23 (by kernel_rfl) (by kernel_rfl)
theorem coded39 : CodedAt Try.prog (fidOf fids) pf code (24, 39) := codedAt_of (a := ac39) rfl Try.func24 (by kernel_rfl) (by kernel_rfl)
theorem coded42 : CodedAt Try.prog (fidOf fids) pf code (61, 42) := codedAt_of (a := ac42) rfl Try.func61 (by kernel_rfl) (by kernel_rfl)
theorem coded43 : CodedAt Try.prog (fidOf fids) pf code (26, 43) := codedAt_of (a := ac43) rfl Try.func26 (by kernel_rfl) (by kernel_rfl)
theorem coded44 : CodedAt Try.prog (fidOf fids) pf code (27, 44) := codedAt_of (a := ac44) rfl Try.func27 (by kernel_rfl) (by kernel_rfl)
theorem coded45 : CodedAt Try.prog (fidOf fids) pf code (33, 45) := codedAt_of (a := ac45) rfl Try.func33 (by kernel_rfl) (by kernel_rfl)
theorem coded46 : CodedAt Try.prog (fidOf fids) pf code (25, 46) := codedAt_of (a := ac46) rfl Try.func25 (by kernel_rfl) (by kernel_rfl)
theorem coded47 : CodedAt Try.prog (fidOf fids) pf code (28, 47) := codedAt_of (a := ac47) rfl Try.func28 (by kernel_rfl) (by kernel_rfl)
theorem coded50 : CodedAt Try.prog (fidOf fids) pf code (31, 50) := codedAt_of (a := ac50) rfl Try.func31 (by kernel_rfl) (by kernel_rfl)
theorem coded51 : CodedAt Try.prog (fidOf fids) pf code (32, 51) := codedAt_of (a := ac51) rfl Try.func32 (by kernel_rfl) (by kernel_rfl)
theorem coded52 : CodedAt Try.prog (fidOf fids) pf code (34, 52) := codedAt_of (a := ac52) rfl Try.func34 (by kernel_rfl) (by kernel_rfl)
theorem coded53 : CodedAt Try.prog (fidOf fids) pf code (35, 53) := codedAt_of (a := ac53) rfl Try.func35 (by kernel_rfl) (by kernel_rfl)
theorem coded54 : CodedAt Try.prog (fidOf fids) pf code (36, 54) := codedAt_of (a := ac54) rfl Try.func36 (by kernel_rfl) (by kernel_rfl)
theorem coded55 : CodedAt Try.prog (fidOf fids) pf code (40, 55) := codedAt_of (a := ac55) rfl Try.func40 (by kernel_rfl) (by kernel_rfl)
theorem coded56 : CodedAt Try.prog (fidOf fids) pf code (41, 56) := codedAt_of (a := ac56) rfl Try.func41 (by kernel_rfl) (by kernel_rfl)
theorem coded57 : CodedAt Try.prog (fidOf fids) pf code (42, 57) := codedAt_of (a := ac57) rfl Try.func42 (by kernel_rfl) (by kernel_rfl)
theorem coded58 : CodedAt Try.prog (fidOf fids) pf code (43, 58) := codedAt_of (a := ac58) rfl Try.func43 (by kernel_rfl) (by kernel_rfl)
theorem coded59 : CodedAt Try.prog (fidOf fids) pf code (74, 59) := codedAt_of (a := ac59) rfl Try.func74 (by kernel_rfl) (by kernel_rfl)
theorem coded60 : CodedAt Try.prog (fidOf fids) pf code (73, 60) := codedAt_of (a := ac60) rfl Try.func73 (by kernel_rfl) (by kernel_rfl)
theorem coded61 : CodedAt Try.prog (fidOf fids) pf code (45, 61) := codedAt_of (a := ac61) rfl Try.func45 (by kernel_rfl) (by kernel_rfl)
theorem coded63 : CodedAt Try.prog (fidOf fids) pf code (44, 63) := codedAt_of (a := ac63) rfl Try.func44 (by kernel_rfl) (by kernel_rfl)
theorem coded74 : CodedAt Try.prog (fidOf fids) pf code (56, 74) := codedAt_of (a := ac74) rfl Try.func56 (by kernel_rfl) (by kernel_rfl)
theorem coded75 : CodedAt Try.prog (fidOf fids) pf code (57, 75) := codedAt_of (a := ac75) rfl Try.func57 (by kernel_rfl) (by kernel_rfl)
theorem coded76 : CodedAt Try.prog (fidOf fids) pf code (59, 76) := codedAt_of (a := ac76) rfl Try.func59 (by kernel_rfl) (by kernel_rfl)
theorem coded77 : CodedAt Try.prog (fidOf fids) pf code (60, 77) := codedAt_of (a := ac77) rfl Try.func60 (by kernel_rfl) (by kernel_rfl)
theorem coded78 : CodedAt Try.prog (fidOf fids) pf code (63, 78) := codedAt_of (a := ac78) rfl Try.func63 (by kernel_rfl) (by kernel_rfl)
theorem coded79 : CodedAt Try.prog (fidOf fids) pf code (64, 79) := codedAt_of (a := ac79) rfl Try.func64 (by kernel_rfl) (by kernel_rfl)
theorem coded80 : CodedAt Try.prog (fidOf fids) pf code (65, 80) := codedAt_of (a := ac80) rfl Try.func65 (by kernel_rfl) (by kernel_rfl)
theorem coded81 : CodedAt Try.prog (fidOf fids) pf code (66, 81) := codedAt_of (a := ac81) rfl Try.func66 (by kernel_rfl) (by kernel_rfl)
theorem coded82 : CodedAt Try.prog (fidOf fids) pf code (83, 82) := codedAt_of (a := ac82) rfl Try.func83 (by kernel_rfl) (by kernel_rfl)
theorem coded83 : CodedAt Try.prog (fidOf fids) pf code (82, 83) := codedAt_of (a := ac83) rfl Try.func82 (by kernel_rfl) (by kernel_rfl)
theorem coded84 : CodedAt Try.prog (fidOf fids) pf code (67, 84) := codedAt_of (a := ac84) rfl Try.func67 (by kernel_rfl) (by kernel_rfl)
theorem coded90 : CodedAt Try.prog (fidOf fids) pf code (75, 90) := codedAt_of (a := ac90) rfl Try.func75 (by kernel_rfl) (by kernel_rfl)
theorem coded91 : CodedAt Try.prog (fidOf fids) pf code (76, 91) := codedAt_of (a := ac91) rfl Try.func76 (by kernel_rfl) (by kernel_rfl)
theorem coded92 : CodedAt Try.prog (fidOf fids) pf code (77, 92) := codedAt_of (a := ac92) rfl Try.func77 (by kernel_rfl) (by kernel_rfl)
theorem coded93 : CodedAt Try.prog (fidOf fids) pf code (84, 93) := codedAt_of (a := ac93) rfl Try.func84 (by kernel_rfl) (by kernel_rfl)
theorem coded94 : CodedAt Try.prog (fidOf fids) pf code (78, 94) := codedAt_of (a := ac94) rfl Try.func78 (by kernel_rfl) (by kernel_rfl)
theorem coded95 : CodedAt Try.prog (fidOf fids) pf code (79, 95) := codedAt_of (a := ac95) rfl Try.func79 (by kernel_rfl) (by kernel_rfl)
theorem coded96 : CodedAt Try.prog (fidOf fids) pf code (80, 96) := codedAt_of (a := ac96) rfl Try.func80 (by kernel_rfl) (by kernel_rfl)
theorem coded62 : CodedAt Try.prog (fidOf fids) pf code (58, 62) := bodied_of rfl Try.func58 rfl (by kernel_rfl)
theorem clone62 : CloneAt Try.prog (fidOf fids) pf 62 (1, 1) := fun g hg => by
  have h := fidOf_mem hg
  have e : g = 58 := by simpa [fids] using h
  subst e
  exact ⟨Try.f58, 26, 5, _, _, _, _, _, _, _, _, _, _, _, Try.func58, by kernel_rfl, rfl, rfl, rfl, by kernel_rfl, rfl, by kernel_rfl, rfl, rfl, rfl, by kernel_rfl, by kernel_rfl⟩
theorem coded32 : CodedAt Try.prog (fidOf fids) pf code (13, 32) := bodied_of rfl Try.func13 rfl (by kernel_rfl)
theorem ctxOk : CtxOk Try.prog (fidOf fids) pf C0 := ctxOk_of (by
  intro p hp
  simp only [fids, List.mem_cons, List.not_mem_nil, or_false] at hp
  rcases hp with rfl | rfl | rfl | rfl | rfl | rfl | rfl | rfl | rfl | rfl | rfl | rfl | rfl | rfl | rfl | rfl | rfl | rfl | rfl | rfl | rfl | rfl | rfl | rfl | rfl | rfl | rfl | rfl | rfl | rfl | rfl | rfl | rfl | rfl | rfl | rfl | rfl | rfl | rfl | rfl | rfl | rfl | rfl | rfl | rfl | rfl | rfl | rfl | rfl | rfl | rfl | rfl | rfl | rfl | rfl | rfl | rfl | rfl | rfl | rfl | rfl | rfl | rfl | rfl
  · exact coded32
  · exact coded62
  · exact coded5
  · exact coded6
  · exact coded11
  · exact coded12
  · exact coded14
  · exact coded15
  · exact coded16
  · exact coded17
  · exact coded18
  · exact coded19
  · exact coded24
  · exact coded25
  · exact coded26
  · exact coded27
  · exact coded28
  · exact coded29
  · exact coded30
  · exact coded31
  · exact coded33
  · exact coded34
  · exact coded35
  · exact coded36
  · exact coded37
  · exact coded38
  · exact coded39
  · exact coded42
  · exact coded43
  · exact coded44
  · exact coded45
  · exact coded46
  · exact coded47
  · exact coded50
  · exact coded51
  · exact coded52
  · exact coded53
  · exact coded54
  · exact coded55
  · exact coded56
  · exact coded57
  · exact coded58
  · exact coded59
  · exact coded60
  · exact coded61
  · exact coded63
  · exact coded74
  · exact coded75
  · exact coded76
  · exact coded77
  · exact coded78
  · exact coded79
  · exact coded80
  · exact coded81
  · exact coded82
  · exact coded83
  · exact coded84
  · exact coded90
  · exact coded91
  · exact coded92
  · exact coded93
  · exact coded94
  · exact coded95
  · exact coded96) (fun f p h => by simp [clR] at h) (fun f p h => by
  unfold clP at h
  split at h
  · cases h
    exact ⟨rfl, clone62⟩
  · cases h)
theorem sortAt32 : SortAt Try.prog (fidOf fids) 32 := fun g hg => by
  have h := fidOf_mem hg
  have e : g = 13 := by simpa [fids] using h
  subst e
  exact ⟨Go.Proofs.Try.sortP_ren, Go.Proofs.Try.sortP, rfl⟩
theorem ctxOk1 : CtxOk Try.prog (fidOf fids) pf C1 := sortCtx_ok ctxOk fun f hf => by
  have e : f = 32 := by simpa [soQ] using hf
  subst e
  refine ⟨rfl, sortAt32, ?_⟩
  rintro a H v H' ⟨p, x, h, _⟩
  have h0 : clR 32 = none := rfl
  rw [h0] at h
  cases h
end Go.Proofs.Ytglnglflcoeinaa
