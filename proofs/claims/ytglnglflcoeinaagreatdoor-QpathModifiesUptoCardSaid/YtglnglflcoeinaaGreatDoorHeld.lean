/- The functions of the program, compiled, are the table's. -/
import Derived.Test.YtglnglflcoeinaaGreatDoorRows
import Derived.Test.YtglnglflcoeinaaGreatDoorMachD
import Derived.Test.YtglnglflcoeinaaGreatDoorCode
import Derived.Test.YtglnglflcoeinaaGreatDoorMachF
import Derived.Test.YtglnglflcoeinaaGreatDoorRunL
import Derived.Test.YtglnglflcoeinaaGreatDoorSort
set_option linter.unusedSimpArgs false
set_option linter.unusedVariables false
set_option maxRecDepth 100000
namespace Go.Proofs.YtglnglflcoeinaaGreatDoor
open Ago
def fids : List (Nat × Nat) := [(30, 32), (68, 62), (45, 130), (4, 6), (88, 11), (12, 12), (13, 13), (17, 14), (9, 15), (15, 16), (19, 17), (10, 18), (11, 19), (23, 24), (24, 25), (25, 26), (35, 27), (36, 28), (20, 29), (28, 30), (29, 31), (31, 33), (32, 34), (33, 35), (34, 36), (38, 37), (21, 38), (22, 39), (41, 42), (42, 43), (43, 44), (44, 45), (49, 46), (50, 47), (53, 50), (54, 51), (55, 52), (56, 53), (57, 54), (60, 55), (61, 56), (39, 57), (40, 58), (89, 59), (66, 60), (67, 61), (73, 63), (84, 74), (85, 75), (86, 76), (87, 77), (62, 78), (63, 79), (64, 80), (65, 81), (103, 82), (93, 83), (97, 84), (90, 90), (91, 91), (92, 92), (104, 93), (107, 94), (108, 95), (109, 96), (5, 120), (14, 121), (18, 122), (26, 125), (27, 126), (37, 127), (46, 131), (47, 132), (48, 133), (58, 134), (59, 135), (69, 139), (70, 140), (71, 141), (72, 142), (106, 148), (94, 149), (95, 150), (96, 151), (111, 155), (105, 158), (3, 174), (6, 175), (7, 176), (8, 177), (16, 178)]
def pf (f : Nat) : Bool := !([32, 33, 53, 130, 131, 132, 133, 143] : List Nat).contains f
theorem coded6 : CodedAt Tryz.prog (fidOf fids) pf code (4, 6) := codedAt_of (a := ac6) rfl Tryz.func4 (by kernel_rfl) (by kernel_rfl)
theorem coded11 : CodedAt Tryz.prog (fidOf fids) pf code (88, 11) := codedAt_of (a := ac11) rfl Tryz.func88 (by kernel_rfl) (by kernel_rfl)
theorem coded12 : CodedAt Tryz.prog (fidOf fids) pf code (12, 12) := codedAt_of (a := ac12) rfl Tryz.func12 (by kernel_rfl) (by kernel_rfl)
theorem coded13 : CodedAt Tryz.prog (fidOf fids) pf code (13, 13) := codedAt_of (a := ac13) rfl Tryz.func13 (by kernel_rfl) (by kernel_rfl)
theorem coded14 : CodedAt Tryz.prog (fidOf fids) pf code (17, 14) := codedAt_of (a := ac14) rfl Tryz.func17 (by kernel_rfl) (by kernel_rfl)
theorem coded15 : CodedAt Tryz.prog (fidOf fids) pf code (9, 15) := codedAt_of (a := ac15) rfl Tryz.func9 (by kernel_rfl) (by kernel_rfl)
theorem coded16 : CodedAt Tryz.prog (fidOf fids) pf code (15, 16) := codedAt_of (a := ac16) rfl Tryz.func15 (by kernel_rfl) (by kernel_rfl)
theorem coded17 : CodedAt Tryz.prog (fidOf fids) pf code (19, 17) := codedAt_of (a := ac17) rfl Tryz.func19 (by kernel_rfl) (by kernel_rfl)
theorem coded18 : CodedAt Tryz.prog (fidOf fids) pf code (10, 18) := codedAt_of (a := ac18) rfl Tryz.func10 (by kernel_rfl) (by kernel_rfl)
theorem coded19 : CodedAt Tryz.prog (fidOf fids) pf code (11, 19) := codedAt_of (a := ac19) rfl Tryz.func11 (by kernel_rfl) (by kernel_rfl)
theorem coded24 : CodedAt Tryz.prog (fidOf fids) pf code (23, 24) := codedAt_of (a := ac24) rfl Tryz.func23 (by kernel_rfl) (by kernel_rfl)
theorem coded25 : CodedAt Tryz.prog (fidOf fids) pf code (24, 25) := codedAt_of (a := ac25) rfl Tryz.func24 (by kernel_rfl) (by kernel_rfl)
theorem coded26 : CodedAt Tryz.prog (fidOf fids) pf code (25, 26) := codedAt_of (a := ac26) rfl Tryz.func25 (by kernel_rfl) (by kernel_rfl)
theorem coded27 : CodedAt Tryz.prog (fidOf fids) pf code (35, 27) := codedAt_of (a := ac27) rfl Tryz.func35 (by kernel_rfl) (by kernel_rfl)
theorem coded28 : CodedAt Tryz.prog (fidOf fids) pf code (36, 28) := codedAt_of (a := ac28) rfl Tryz.func36 (by kernel_rfl) (by kernel_rfl)
theorem coded29 : CodedAt Tryz.prog (fidOf fids) pf code (20, 29) := codedAt_of (a := ac29) rfl Tryz.func20 (by kernel_rfl) (by kernel_rfl)
theorem coded30 : CodedAt Tryz.prog (fidOf fids) pf code (28, 30) := codedAt_of (a := ac30) rfl Tryz.func28 (by kernel_rfl) (by kernel_rfl)
theorem coded31 : CodedAt Tryz.prog (fidOf fids) pf code (29, 31) := codedAt_of (a := ac31) rfl Tryz.func29 (by kernel_rfl) (by kernel_rfl)
theorem coded33 : CodedAt Tryz.prog (fidOf fids) pf code (31, 33) := codedAt_of (a := ac33) rfl Tryz.func31 (by kernel_rfl) (by kernel_rfl)
theorem coded34 : CodedAt Tryz.prog (fidOf fids) pf code (32, 34) := codedAt_of (a := ac34) rfl Tryz.func32 (by kernel_rfl) (by kernel_rfl)
theorem coded35 : CodedAt Tryz.prog (fidOf fids) pf code (33, 35) := codedAt_of (a := ac35) rfl Tryz.func33 (by kernel_rfl) (by kernel_rfl)
theorem coded36 : CodedAt Tryz.prog (fidOf fids) pf code (34, 36) := codedAt_of (a := ac36) rfl Tryz.func34 (by kernel_rfl) (by kernel_rfl)
theorem coded37 : CodedAt Tryz.prog (fidOf fids) pf code (38, 37) := codedAt_of (a := ac37) rfl Tryz.func38 (by kernel_rfl) (by kernel_rfl)
theorem coded38 : CodedAt Tryz.prog (fidOf fids) pf code (21, 38) := codedAt_of (a := ac38) rfl Tryz.func21 (by kernel_rfl) (by kernel_rfl)
theorem coded39 : CodedAt Tryz.prog (fidOf fids) pf code (22, 39) := codedAt_of (a := ac39) rfl Tryz.func22 (by kernel_rfl) (by kernel_rfl)
theorem coded42 : CodedAt Tryz.prog (fidOf fids) pf code (41, 42) := codedAt_of (a := ac42) rfl Tryz.func41 (by kernel_rfl) (by kernel_rfl)
theorem coded43 : CodedAt Tryz.prog (fidOf fids) pf code (42, 43) := codedAt_of (a := ac43) rfl Tryz.func42 (by kernel_rfl) (by kernel_rfl)
theorem coded44 : CodedAt Tryz.prog (fidOf fids) pf code (43, 44) := codedAt_of (a := ac44) rfl Tryz.func43 (by kernel_rfl) (by kernel_rfl)
theorem coded45 : CodedAt Tryz.prog (fidOf fids) pf code (44, 45) := codedAt_of (a := ac45) rfl Tryz.func44 (by kernel_rfl) (by kernel_rfl)
theorem coded46 : CodedAt Tryz.prog (fidOf fids) pf code (49, 46) := codedAt_of (a := ac46) rfl Tryz.func49 (by kernel_rfl) (by kernel_rfl)
theorem coded47 : CodedAt Tryz.prog (fidOf fids) pf code (50, 47) := codedAt_of (a := ac47) rfl Tryz.func50 (by kernel_rfl) (by kernel_rfl)
theorem coded50 : CodedAt Tryz.prog (fidOf fids) pf code (53, 50) := codedAt_of (a := ac50) rfl Tryz.func53 (by kernel_rfl) (by kernel_rfl)
theorem coded51 : CodedAt Tryz.prog (fidOf fids) pf code (54, 51) := codedAt_of (a := ac51) rfl Tryz.func54 (by kernel_rfl) (by kernel_rfl)
theorem coded52 : CodedAt Tryz.prog (fidOf fids) pf code (55, 52) := codedAt_of (a := ac52) rfl Tryz.func55 (by kernel_rfl) (by kernel_rfl)
theorem coded53 : CodedAt Tryz.prog (fidOf fids) pf code (56, 53) := codedAt_of (a := ac53) rfl Tryz.func56 (by kernel_rfl) (by kernel_rfl)
theorem coded54 : CodedAt Tryz.prog (fidOf fids) pf code (57, 54) := codedAt_of (a := ac54) rfl Tryz.func57 (by kernel_rfl) (by kernel_rfl)
theorem coded55 : CodedAt Tryz.prog (fidOf fids) pf code (60, 55) := codedAt_of (a := ac55) rfl Tryz.func60 (by kernel_rfl) (by kernel_rfl)
theorem coded56 : CodedAt Tryz.prog (fidOf fids) pf code (61, 56) := codedAt_of (a := ac56) rfl Tryz.func61 (by kernel_rfl) (by kernel_rfl)
theorem coded57 : CodedAt Tryz.prog (fidOf fids) pf code (39, 57) := codedAt_of (a := ac57) rfl Tryz.func39 (by kernel_rfl) (by kernel_rfl)
theorem coded58 : CodedAt Tryz.prog (fidOf fids) pf code (40, 58) := codedAt_of (a := ac58) rfl Tryz.func40 (by kernel_rfl) (by kernel_rfl)
theorem coded59 : CodedAt Tryz.prog (fidOf fids) pf code (89, 59) := codedAt_of (a := ac59) rfl Tryz.func89 (by kernel_rfl) (by kernel_rfl)
theorem coded60 : CodedAt Tryz.prog (fidOf fids) pf code (66, 60) := codedAt_of (a := ac60) rfl Tryz.func66 (by kernel_rfl) (by kernel_rfl)
theorem coded61 : CodedAt Tryz.prog (fidOf fids) pf code (67, 61) := codedAt_of (a := ac61) rfl Tryz.func67 (by kernel_rfl) (by kernel_rfl)
theorem coded63 : CodedAt Tryz.prog (fidOf fids) pf code (73, 63) := codedAt_of (a := ac63) rfl Tryz.func73 (by kernel_rfl) (by kernel_rfl)
theorem coded74 : CodedAt Tryz.prog (fidOf fids) pf code (84, 74) := codedAt_of (a := ac74) rfl Tryz.func84 (by kernel_rfl) (by kernel_rfl)
theorem coded75 : CodedAt Tryz.prog (fidOf fids) pf code (85, 75) := codedAt_of (a := ac75) rfl Tryz.func85 (by kernel_rfl) (by kernel_rfl)
theorem coded76 : CodedAt Tryz.prog (fidOf fids) pf code (86, 76) := codedAt_of (a := ac76) rfl Tryz.func86 (by kernel_rfl) (by kernel_rfl)
theorem coded77 : CodedAt Tryz.prog (fidOf fids) pf code (87, 77) := codedAt_of (a := ac77) rfl Tryz.func87 (by kernel_rfl) (by kernel_rfl)
theorem coded78 : CodedAt Tryz.prog (fidOf fids) pf code (62, 78) := codedAt_of (a := ac78) rfl Tryz.func62 (by kernel_rfl) (by kernel_rfl)
theorem coded79 : CodedAt Tryz.prog (fidOf fids) pf code (63, 79) := codedAt_of (a := ac79) rfl Tryz.func63 (by kernel_rfl) (by kernel_rfl)
theorem coded80 : CodedAt Tryz.prog (fidOf fids) pf code (64, 80) := codedAt_of (a := ac80) rfl Tryz.func64 (by kernel_rfl) (by kernel_rfl)
theorem coded81 : CodedAt Tryz.prog (fidOf fids) pf code (65, 81) := codedAt_of (a := ac81) rfl Tryz.func65 (by kernel_rfl) (by kernel_rfl)
theorem coded82 : CodedAt Tryz.prog (fidOf fids) pf code (103, 82) := codedAt_of (a := ac82) rfl Tryz.func103 (by kernel_rfl) (by kernel_rfl)
theorem coded83 : CodedAt Tryz.prog (fidOf fids) pf code (93, 83) := codedAt_of (a := ac83) rfl Tryz.func93 (by kernel_rfl) (by kernel_rfl)
theorem coded84 : CodedAt Tryz.prog (fidOf fids) pf code (97, 84) := codedAt_of (a := ac84) rfl Tryz.func97 (by kernel_rfl) (by kernel_rfl)
theorem coded90 : CodedAt Tryz.prog (fidOf fids) pf code (90, 90) := codedAt_of (a := ac90) rfl Tryz.func90 (by kernel_rfl) (by kernel_rfl)
theorem coded91 : CodedAt Tryz.prog (fidOf fids) pf code (91, 91) := codedAt_of (a := ac91) rfl Tryz.func91 (by kernel_rfl) (by kernel_rfl)
theorem coded92 : CodedAt Tryz.prog (fidOf fids) pf code (92, 92) := codedAt_of (a := ac92) rfl Tryz.func92 (by kernel_rfl) (by kernel_rfl)
theorem coded93 : CodedAt Tryz.prog (fidOf fids) pf code (104, 93) := codedAt_of (a := ac93) rfl Tryz.func104 (by kernel_rfl) (by kernel_rfl)
theorem coded94 : CodedAt Tryz.prog (fidOf fids) pf code (107, 94) := codedAt_of (a := ac94) rfl Tryz.func107 (by kernel_rfl) (by kernel_rfl)
theorem coded95 : CodedAt Tryz.prog (fidOf fids) pf code (108, 95) := codedAt_of (a := ac95) rfl Tryz.func108 (by kernel_rfl) (by kernel_rfl)
theorem coded96 : CodedAt Tryz.prog (fidOf fids) pf code (109, 96) := codedAt_of (a := ac96) rfl Tryz.func109 (by kernel_rfl) (by kernel_rfl)
theorem coded120 : CodedAt Tryz.prog (fidOf fids) pf code (5, 120) := codedAt_of (a := ac120) rfl Tryz.func5 (by kernel_rfl) (by kernel_rfl)
theorem coded121 : CodedAt Tryz.prog (fidOf fids) pf code (14, 121) := codedAt_of (a := ac121) rfl Tryz.func14 (by kernel_rfl) (by kernel_rfl)
theorem coded122 : CodedAt Tryz.prog (fidOf fids) pf code (18, 122) := codedAt_of (a := ac122) rfl Tryz.func18 (by kernel_rfl) (by kernel_rfl)
theorem coded125 : CodedAt Tryz.prog (fidOf fids) pf code (26, 125) := codedAt_of (a := ac125) rfl Tryz.func26 (by kernel_rfl) (by kernel_rfl)
theorem coded126 : CodedAt Tryz.prog (fidOf fids) pf code (27, 126) := codedAt_of (a := ac126) rfl Tryz.func27 (by kernel_rfl) (by kernel_rfl)
theorem coded127 : CodedAt Tryz.prog (fidOf fids) pf code (37, 127) := codedAt_of (a := ac127) rfl Tryz.func37 (by kernel_rfl) (by kernel_rfl)
theorem coded131 : CodedAt Tryz.prog (fidOf fids) pf code (46, 131) := codedAt_of (a := ac131) rfl Tryz.func46 (by kernel_rfl) (by kernel_rfl)
theorem coded132 : CodedAt Tryz.prog (fidOf fids) pf code (47, 132) := codedAt_of (a := ac132) rfl Tryz.func47 (by kernel_rfl) (by kernel_rfl)
theorem coded133 : CodedAt Tryz.prog (fidOf fids) pf code (48, 133) := codedAt_of (a := ac133) rfl Tryz.func48 (by kernel_rfl) (by kernel_rfl)
theorem coded134 : CodedAt Tryz.prog (fidOf fids) pf code (58, 134) := codedAt_of (a := ac134) rfl Tryz.func58 (by kernel_rfl) (by kernel_rfl)
theorem coded135 : CodedAt Tryz.prog (fidOf fids) pf code (59, 135) := codedAt_of (a := ac135) rfl Tryz.func59 (by kernel_rfl) (by kernel_rfl)
theorem coded139 : CodedAt Tryz.prog (fidOf fids) pf code (69, 139) := codedAt_of (a := ac139) rfl Tryz.func69 (by kernel_rfl) (by kernel_rfl)
theorem coded140 : CodedAt Tryz.prog (fidOf fids) pf code (70, 140) := codedAt_of (a := ac140) rfl Tryz.func70 (by kernel_rfl) (by kernel_rfl)
theorem coded141 : CodedAt Tryz.prog (fidOf fids) pf code (71, 141) := codedAt_of (a := ac141) rfl Tryz.func71 (by kernel_rfl) (by kernel_rfl)
theorem coded142 : CodedAt Tryz.prog (fidOf fids) pf code (72, 142) := codedAt_of (a := ac142) rfl Tryz.func72 (by kernel_rfl) (by kernel_rfl)
theorem coded148 : CodedAt Tryz.prog (fidOf fids) pf code (106, 148) := codedAt_of (a := ac148) rfl Tryz.func106 (by kernel_rfl) (by kernel_rfl)
theorem coded149 : CodedAt Tryz.prog (fidOf fids) pf code (94, 149) := codedAt_of (a := ac149) rfl Tryz.func94 (by kernel_rfl) (by kernel_rfl)
theorem coded150 : CodedAt Tryz.prog (fidOf fids) pf code (95, 150) := codedAt_of (a := ac150) rfl Tryz.func95 (by kernel_rfl) (by kernel_rfl)
theorem coded151 : CodedAt Tryz.prog (fidOf fids) pf code (96, 151) := codedAt_of (a := ac151) rfl Tryz.func96 (by kernel_rfl) (by kernel_rfl)
theorem coded155 : CodedAt Tryz.prog (fidOf fids) pf code (111, 155) := codedAt_of (a := ac155) rfl Tryz.func111 (by kernel_rfl) (by kernel_rfl)
theorem coded158 : CodedAt Tryz.prog (fidOf fids) pf code (105, 158) := codedAt_of (a := ac158) rfl Tryz.func105 (by kernel_rfl) (by kernel_rfl)
theorem coded174 : CodedAt Tryz.prog (fidOf fids) pf code (3, 174) := codedAt_of (a := ac174) rfl Tryz.func3 (by kernel_rfl) (by kernel_rfl)
theorem coded175 : CodedAt Tryz.prog (fidOf fids) pf code (6, 175) := codedAt_of (a := ac175) rfl Tryz.func6 (by kernel_rfl) (by kernel_rfl)
theorem coded176 : CodedAt Tryz.prog (fidOf fids) pf code (7, 176) := codedAt_of (a := ac176) rfl Tryz.func7 (by kernel_rfl) (by kernel_rfl)
theorem coded177 : CodedAt Tryz.prog (fidOf fids) pf code (8, 177) := codedAt_of (a := ac177) rfl Tryz.func8 (by kernel_rfl) (by kernel_rfl)
theorem coded178 : CodedAt Tryz.prog (fidOf fids) pf code (16, 178) := codedAt_of (a := ac178) rfl Tryz.func16 (by kernel_rfl) (by kernel_rfl)
theorem coded130 : CodedAt Tryz.prog (fidOf fids) pf code (45, 130) := bodied_of rfl Tryz.func45 rfl (by kernel_rfl)
theorem clone130 : CloneAt Tryz.prog (fidOf fids) pf 130 (14, 184) := fun g hg => by
  have h := fidOf_mem hg
  have e : g = 45 := by simpa [fids] using h
  subst e
  exact ⟨Tryz.f45, 28, 70, _, _, _, _, _, _, _, _, _, _, _, Tryz.func45, by kernel_rfl, rfl, rfl, rfl, by kernel_rfl, rfl, by kernel_rfl, rfl, rfl, rfl, by kernel_rfl, by kernel_rfl⟩
theorem coded62 : CodedAt Tryz.prog (fidOf fids) pf code (68, 62) := bodied_of rfl Tryz.func68 rfl (by kernel_rfl)
theorem clone62 : CloneAt Tryz.prog (fidOf fids) pf 62 (1, 1) := fun g hg => by
  have h := fidOf_mem hg
  have e : g = 68 := by simpa [fids] using h
  subst e
  exact ⟨Tryz.f68, 26, 5, _, _, _, _, _, _, _, _, _, _, _, Tryz.func68, by kernel_rfl, rfl, rfl, rfl, by kernel_rfl, rfl, by kernel_rfl, rfl, rfl, rfl, by kernel_rfl, by kernel_rfl⟩
theorem coded32 : CodedAt Tryz.prog (fidOf fids) pf code (30, 32) := bodied_of rfl Tryz.func30 rfl (by kernel_rfl)
theorem ctxOk : CtxOk Tryz.prog (fidOf fids) pf C0 := ctxOk_of (by
  intro p hp
  simp only [fids, List.mem_cons, List.not_mem_nil, or_false] at hp
  rcases hp with rfl | rfl | rfl | rfl | rfl | rfl | rfl | rfl | rfl | rfl | rfl | rfl | rfl | rfl | rfl | rfl | rfl | rfl | rfl | rfl | rfl | rfl | rfl | rfl | rfl | rfl | rfl | rfl | rfl | rfl | rfl | rfl | rfl | rfl | rfl | rfl | rfl | rfl | rfl | rfl | rfl | rfl | rfl | rfl | rfl | rfl | rfl | rfl | rfl | rfl | rfl | rfl | rfl | rfl | rfl | rfl | rfl | rfl | rfl | rfl | rfl | rfl | rfl | rfl | rfl | rfl | rfl | rfl | rfl | rfl | rfl | rfl | rfl | rfl | rfl | rfl | rfl | rfl | rfl | rfl | rfl | rfl | rfl | rfl | rfl | rfl | rfl | rfl | rfl | rfl | rfl
  · exact coded32
  · exact coded62
  · exact coded130
  · exact coded6
  · exact coded11
  · exact coded12
  · exact coded13
  · exact coded14
  · exact coded15
  · exact coded16
  · exact coded17
  · exact coded18
  · exact coded19
  · exact coded24
  · exact coded25
  · exact coded26
  · exact coded27
  · exact coded28
  · exact coded29
  · exact coded30
  · exact coded31
  · exact coded33
  · exact coded34
  · exact coded35
  · exact coded36
  · exact coded37
  · exact coded38
  · exact coded39
  · exact coded42
  · exact coded43
  · exact coded44
  · exact coded45
  · exact coded46
  · exact coded47
  · exact coded50
  · exact coded51
  · exact coded52
  · exact coded53
  · exact coded54
  · exact coded55
  · exact coded56
  · exact coded57
  · exact coded58
  · exact coded59
  · exact coded60
  · exact coded61
  · exact coded63
  · exact coded74
  · exact coded75
  · exact coded76
  · exact coded77
  · exact coded78
  · exact coded79
  · exact coded80
  · exact coded81
  · exact coded82
  · exact coded83
  · exact coded84
  · exact coded90
  · exact coded91
  · exact coded92
  · exact coded93
  · exact coded94
  · exact coded95
  · exact coded96
  · exact coded120
  · exact coded121
  · exact coded122
  · exact coded125
  · exact coded126
  · exact coded127
  · exact coded131
  · exact coded132
  · exact coded133
  · exact coded134
  · exact coded135
  · exact coded139
  · exact coded140
  · exact coded141
  · exact coded142
  · exact coded148
  · exact coded149
  · exact coded150
  · exact coded151
  · exact coded155
  · exact coded158
  · exact coded174
  · exact coded175
  · exact coded176
  · exact coded177
  · exact coded178) (fun f p h => by
  unfold clR at h
  split at h
  · cases h
    exact ⟨rfl, clone130⟩
  · cases h) (fun f p h => by
  unfold clP at h
  split at h
  · cases h
    exact ⟨rfl, clone62⟩
  · cases h)
theorem sortAt32 : SortAt Tryz.prog (fidOf fids) 32 := fun g hg => by
  have h := fidOf_mem hg
  have e : g = 30 := by simpa [fids] using h
  subst e
  exact ⟨Go.Proofs.Tryz.sortP_ren, Go.Proofs.Tryz.sortP, rfl⟩
theorem ctxOk1 : CtxOk Tryz.prog (fidOf fids) pf C1 := sortCtx_ok ctxOk fun f hf => by
  have e : f = 32 := by simpa [soQ] using hf
  subst e
  refine ⟨rfl, sortAt32, ?_⟩
  rintro a H v H' ⟨p, x, h, _⟩
  have h0 : clR 32 = none := rfl
  rw [h0] at h
  cases h
end Go.Proofs.YtglnglflcoeinaaGreatDoor
