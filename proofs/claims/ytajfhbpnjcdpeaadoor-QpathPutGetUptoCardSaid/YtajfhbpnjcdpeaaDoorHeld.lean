/- The functions of the program, compiled, are the table's. -/
import Derived.Test.YtajfhbpnjcdpeaaDoorRows
import Derived.Test.YtajfhbpnjcdpeaaDoorMachD
import Derived.Test.YtajfhbpnjcdpeaaDoorCode
set_option linter.unusedSimpArgs false
set_option linter.unusedVariables false
set_option maxRecDepth 100000
namespace Go.Proofs.YtajfhbpnjcdpeaaDoor
open Ago
def fids : List (Nat × Nat) := [(54, 62), (40, 130), (11, 6), (7, 12), (16, 13), (15, 15), (22, 18), (23, 19), (18, 24), (28, 25), (24, 26), (44, 27), (45, 28), (17, 29), (35, 38), (36, 39), (29, 42), (38, 43), (39, 44), (37, 45), (59, 46), (52, 57), (53, 58), (83, 59), (48, 60), (55, 61), (74, 63), (68, 78), (69, 79), (70, 80), (71, 81), (92, 82), (61, 83), (88, 84), (84, 90), (85, 91), (86, 92), (76, 93), (93, 94), (94, 95), (95, 96), (4, 116), (5, 117), (6, 118), (12, 120), (13, 121), (14, 122), (25, 125), (26, 126), (27, 127), (41, 131), (42, 132), (43, 133), (46, 134), (47, 135), (56, 139), (57, 140), (58, 141), (60, 142), (67, 148), (72, 149), (73, 150), (75, 151), (80, 155), (87, 158)]
def pf (f : Nat) : Bool := !([130, 131, 132, 133] : List Nat).contains f
theorem coded6 : CodedAt Tryd.prog (fidOf fids) pf code (11, 6) := codedAt_of (a := ac6) rfl Tryd.func11 (by kernel_rfl) (by kernel_rfl)
theorem coded12 : CodedAt Tryd.prog (fidOf fids) pf code (7, 12) := codedAt_of (a := ac12) rfl Tryd.func7 (by kernel_rfl) (by kernel_rfl)
theorem coded13 : CodedAt Tryd.prog (fidOf fids) pf code (16, 13) := codedAt_of (a := ac13) rfl Tryd.func16 (by kernel_rfl) (by kernel_rfl)
theorem coded15 : CodedAt Tryd.prog (fidOf fids) pf code (15, 15) := codedAt_of (a := ac15) rfl Tryd.func15 (by kernel_rfl) (by kernel_rfl)
theorem coded18 : CodedAt Tryd.prog (fidOf fids) pf code (22, 18) := codedAt_of (a := ac18) rfl Tryd.func22 (by kernel_rfl) (by kernel_rfl)
theorem coded19 : CodedAt Tryd.prog (fidOf fids) pf code (23, 19) := codedAt_of (a := ac19) rfl Tryd.func23 (by kernel_rfl) (by kernel_rfl)
theorem coded24 : CodedAt Tryd.prog (fidOf fids) pf code (18, 24) := codedAt_of (a := ac24) rfl Tryd.func18 (by kernel_rfl) (by kernel_rfl)
theorem coded25 : CodedAt Tryd.prog (fidOf fids) pf code (28, 25) := codedAt_of (a := ac25) rfl Tryd.func28 (by kernel_rfl) (by kernel_rfl)
theorem coded26 : CodedAt Tryd.prog (fidOf fids) pf code (24, 26) := codedAt_of (a := ac26) rfl Tryd.func24 (by kernel_rfl) (by kernel_rfl)
theorem coded27 : CodedAt Tryd.prog (fidOf fids) pf code (44, 27) := codedAt_of (a := ac27) rfl Tryd.func44 (by kernel_rfl) (by kernel_rfl)
theorem coded28 : CodedAt Tryd.prog (fidOf fids) pf code (45, 28) := codedAt_of (a := ac28) rfl Tryd.func45 (by kernel_rfl) (by kernel_rfl)
theorem coded29 : CodedAt Tryd.prog (fidOf fids) pf code (17, 29) := codedAt_of (a := ac29) rfl Tryd.func17 (by kernel_rfl) (by kernel_rfl)
theorem coded38 : CodedAt Tryd.prog (fidOf fids) pf code (35, 38) := codedAt_of (a := ac38) rfl Tryd.func35 (by kernel_rfl) (by kernel_rfl)
theorem coded39 : CodedAt Tryd.prog (fidOf fids) pf code (36, 39) := codedAt_of (a := ac39) rfl Tryd.func36 (by kernel_rfl) (by kernel_rfl)
theorem coded42 : CodedAt Tryd.prog (fidOf fids) pf code (29, 42) := codedAt_of (a := ac42) rfl Tryd.func29 (by kernel_rfl) (by kernel_rfl)
theorem coded43 : CodedAt Tryd.prog (fidOf fids) pf code (38, 43) := codedAt_of (a := ac43) rfl Tryd.func38 (by kernel_rfl) (by kernel_rfl)
theorem coded44 : CodedAt Tryd.prog (fidOf fids) pf code (39, 44) := codedAt_of (a := ac44) rfl Tryd.func39 (by kernel_rfl) (by kernel_rfl)
theorem coded45 : CodedAt Tryd.prog (fidOf fids) pf code (37, 45) := codedAt_of (a := ac45) rfl Tryd.func37 (by kernel_rfl) (by kernel_rfl)
theorem coded46 : CodedAt Tryd.prog (fidOf fids) pf code (59, 46) := codedAt_of (a := ac46) rfl Tryd.func59 (by kernel_rfl) (by kernel_rfl)
theorem coded57 : CodedAt Tryd.prog (fidOf fids) pf code (52, 57) := codedAt_of (a := ac57) rfl Tryd.func52 (by kernel_rfl) (by kernel_rfl)
theorem coded58 : CodedAt Tryd.prog (fidOf fids) pf code (53, 58) := codedAt_of (a := ac58) rfl Tryd.func53 (by kernel_rfl) (by kernel_rfl)
theorem coded59 : CodedAt Tryd.prog (fidOf fids) pf code (83, 59) := codedAt_of (a := ac59) rfl Tryd.func83 (by kernel_rfl) (by kernel_rfl)
theorem coded60 : CodedAt Tryd.prog (fidOf fids) pf code (48, 60) := codedAt_of (a := ac60) rfl Tryd.func48 (by kernel_rfl) (by kernel_rfl)
theorem coded61 : CodedAt Tryd.prog (fidOf fids) pf code (55, 61) := codedAt_of (a := ac61) rfl Tryd.func55 (by kernel_rfl) (by kernel_rfl)
theorem coded63 : CodedAt Tryd.prog (fidOf fids) pf code (74, 63) := codedAt_of (a := ac63) rfl Tryd.func74 (by kernel_rfl) (by kernel_rfl)
theorem coded78 : CodedAt Tryd.prog (fidOf fids) pf code (68, 78) := codedAt_of (a := ac78) rfl Tryd.func68 (by kernel_rfl) (by kernel_rfl)
theorem coded79 : CodedAt Tryd.prog (fidOf fids) pf code (69, 79) := codedAt_of (a := ac79) rfl Tryd.func69 (by kernel_rfl) (by kernel_rfl)
theorem coded80 : CodedAt Tryd.prog (fidOf fids) pf code (70, 80) := codedAt_of (a := ac80) rfl Tryd.func70 (by kernel_rfl) (by kernel_rfl)
theorem coded81 : CodedAt Tryd.prog (fidOf fids) pf code (71, 81) := codedAt_of (a := ac81) rfl Tryd.func71 (by kernel_rfl) (by kernel_rfl)
theorem coded82 : CodedAt Tryd.prog (fidOf fids) pf code (92, 82) := codedAt_of (a := ac82) rfl Tryd.func92 (by kernel_rfl) (by kernel_rfl)
theorem coded83 : CodedAt Tryd.prog (fidOf fids) pf code (61, 83) := codedAt_of (a := ac83) rfl Tryd.func61 (by kernel_rfl) (by kernel_rfl)
theorem coded84 : CodedAt Tryd.prog (fidOf fids) pf code (88, 84) := codedAt_of (a := ac84) rfl Tryd.func88 (by kernel_rfl) (by kernel_rfl)
theorem coded90 : CodedAt Tryd.prog (fidOf fids) pf code (84, 90) := codedAt_of (a := ac90) rfl Tryd.func84 (by kernel_rfl) (by kernel_rfl)
theorem coded91 : CodedAt Tryd.prog (fidOf fids) pf code (85, 91) := codedAt_of (a := ac91) rfl Tryd.func85 (by kernel_rfl) (by kernel_rfl)
theorem coded92 : CodedAt Tryd.prog (fidOf fids) pf code (86, 92) := codedAt_of (a := ac92) rfl Tryd.func86 (by kernel_rfl) (by kernel_rfl)
theorem coded93 : CodedAt Tryd.prog (fidOf fids) pf code (76, 93) := codedAt_of (a := ac93) rfl Tryd.func76 (by kernel_rfl) (by kernel_rfl)
theorem coded94 : CodedAt Tryd.prog (fidOf fids) pf code (93, 94) := codedAt_of (a := ac94) rfl Tryd.func93 (by kernel_rfl) (by kernel_rfl)
theorem coded95 : CodedAt Tryd.prog (fidOf fids) pf code (94, 95) := codedAt_of (a := ac95) rfl Tryd.func94 (by kernel_rfl) (by kernel_rfl)
theorem coded96 : CodedAt Tryd.prog (fidOf fids) pf code (95, 96) := codedAt_of (a := ac96) rfl Tryd.func95 (by kernel_rfl) (by kernel_rfl)
theorem coded116 : CodedAt Tryd.prog (fidOf fids) pf code (4, 116) := codedAt_of (a := ac116) rfl Tryd.func4 (by kernel_rfl) (by kernel_rfl)
theorem coded117 : CodedAt Tryd.prog (fidOf fids) pf code (5, 117) := codedAt_of (a := ac117) rfl Tryd.func5 (by kernel_rfl) (by kernel_rfl)
theorem coded118 : CodedAt Tryd.prog (fidOf fids) pf code (6, 118) := codedAt_of (a := ac118) rfl Tryd.func6 (by kernel_rfl) (by kernel_rfl)
theorem coded120 : CodedAt Tryd.prog (fidOf fids) pf code (12, 120) := codedAt_of (a := ac120) rfl Tryd.func12 (by kernel_rfl) (by kernel_rfl)
theorem coded121 : CodedAt Tryd.prog (fidOf fids) pf code (13, 121) := codedAt_of (a := ac121) rfl Tryd.func13 (by kernel_rfl) (by kernel_rfl)
theorem coded122 : CodedAt Tryd.prog (fidOf fids) pf code (14, 122) := codedAt_of (a := ac122) rfl Tryd.func14 (by kernel_rfl) (by kernel_rfl)
theorem coded125 : CodedAt Tryd.prog (fidOf fids) pf code (25, 125) := codedAt_of (a := ac125) rfl Tryd.func25 (by kernel_rfl) (by kernel_rfl)
theorem coded126 : CodedAt Tryd.prog (fidOf fids) pf code (26, 126) := codedAt_of (a := ac126) rfl Tryd.func26 (by kernel_rfl) (by kernel_rfl)
theorem coded127 : CodedAt Tryd.prog (fidOf fids) pf code (27, 127) := codedAt_of (a := ac127) rfl Tryd.func27 (by kernel_rfl) (by kernel_rfl)
theorem coded131 : CodedAt Tryd.prog (fidOf fids) pf code (41, 131) := codedAt_of (a := ac131) rfl Tryd.func41 (by kernel_rfl) (by kernel_rfl)
theorem coded132 : CodedAt Tryd.prog (fidOf fids) pf code (42, 132) := codedAt_of (a := ac132) rfl Tryd.func42 (by kernel_rfl) (by kernel_rfl)
theorem coded133 : CodedAt Tryd.prog (fidOf fids) pf code (43, 133) := codedAt_of (a := ac133) rfl Tryd.func43 (by kernel_rfl) (by kernel_rfl)
theorem coded134 : CodedAt Tryd.prog (fidOf fids) pf code (46, 134) := codedAt_of (a := ac134) rfl Tryd.func46 (by kernel_rfl) (by kernel_rfl)
theorem coded135 : CodedAt Tryd.prog (fidOf fids) pf code (47, 135) := codedAt_of (a := ac135) rfl Tryd.func47 (by kernel_rfl) (by kernel_rfl)
theorem coded139 : CodedAt Tryd.prog (fidOf fids) pf code (56, 139) := codedAt_of (a := ac139) rfl Tryd.func56 (by kernel_rfl) (by kernel_rfl)
theorem coded140 : CodedAt Tryd.prog (fidOf fids) pf code (57, 140) := codedAt_of (a := ac140) rfl Tryd.func57 (by kernel_rfl) (by kernel_rfl)
theorem coded141 : CodedAt Tryd.prog (fidOf fids) pf code (58, 141) := codedAt_of (a := ac141) rfl Tryd.func58 (by kernel_rfl) (by kernel_rfl)
theorem coded142 : CodedAt Tryd.prog (fidOf fids) pf code (60, 142) := codedAt_of (a := ac142) rfl Tryd.func60 (by kernel_rfl) (by kernel_rfl)
theorem coded148 : CodedAt Tryd.prog (fidOf fids) pf code (67, 148) := codedAt_of (a := ac148) rfl Tryd.func67 (by kernel_rfl) (by kernel_rfl)
theorem coded149 : CodedAt Tryd.prog (fidOf fids) pf code (72, 149) := codedAt_of (a := ac149) rfl Tryd.func72 (by kernel_rfl) (by kernel_rfl)
theorem coded150 : CodedAt Tryd.prog (fidOf fids) pf code (73, 150) := codedAt_of (a := ac150) rfl Tryd.func73 (by kernel_rfl) (by kernel_rfl)
theorem coded151 : CodedAt Tryd.prog (fidOf fids) pf code (75, 151) := codedAt_of (a := ac151) rfl Tryd.func75 (by kernel_rfl) (by kernel_rfl)
theorem coded155 : CodedAt Tryd.prog (fidOf fids) pf code (80, 155) := codedAt_of (a := ac155) rfl Tryd.func80 (by kernel_rfl) (by kernel_rfl)
theorem coded158 : CodedAt Tryd.prog (fidOf fids) pf code (87, 158) := codedAt_of (a := ac158) rfl Tryd.func87 (by kernel_rfl) (by kernel_rfl)
theorem coded130 : CodedAt Tryd.prog (fidOf fids) pf code (40, 130) := bodied_of rfl Tryd.func40 rfl (by kernel_rfl)
theorem clone130 : CloneAt Tryd.prog (fidOf fids) pf 130 (14, 184) := fun g hg => by
  have h := fidOf_mem hg
  have e : g = 40 := by simpa [fids] using h
  subst e
  exact ⟨Tryd.f40, 33, 60, _, _, _, _, _, _, _, _, _, _, _, Tryd.func40, by kernel_rfl, rfl, rfl, rfl, by kernel_rfl, rfl, by kernel_rfl, rfl, rfl, rfl, by kernel_rfl, by kernel_rfl⟩
theorem coded62 : CodedAt Tryd.prog (fidOf fids) pf code (54, 62) := bodied_of rfl Tryd.func54 rfl (by kernel_rfl)
theorem clone62 : CloneAt Tryd.prog (fidOf fids) pf 62 (1, 1) := fun g hg => by
  have h := fidOf_mem hg
  have e : g = 54 := by simpa [fids] using h
  subst e
  exact ⟨Tryd.f54, 31, 5, _, _, _, _, _, _, _, _, _, _, _, Tryd.func54, by kernel_rfl, rfl, rfl, rfl, by kernel_rfl, rfl, by kernel_rfl, rfl, rfl, rfl, by kernel_rfl, by kernel_rfl⟩
theorem ctxOk : CtxOk Tryd.prog (fidOf fids) pf C0 := ctxOk_of (by
  intro p hp
  simp only [fids, List.mem_cons, List.not_mem_nil, or_false] at hp
  rcases hp with rfl | rfl | rfl | rfl | rfl | rfl | rfl | rfl | rfl | rfl | rfl | rfl | rfl | rfl | rfl | rfl | rfl | rfl | rfl | rfl | rfl | rfl | rfl | rfl | rfl | rfl | rfl | rfl | rfl | rfl | rfl | rfl | rfl | rfl | rfl | rfl | rfl | rfl | rfl | rfl | rfl | rfl | rfl | rfl | rfl | rfl | rfl | rfl | rfl | rfl | rfl | rfl | rfl | rfl | rfl | rfl | rfl | rfl | rfl | rfl | rfl | rfl | rfl | rfl | rfl
  · exact coded62
  · exact coded130
  · exact coded6
  · exact coded12
  · exact coded13
  · exact coded15
  · exact coded18
  · exact coded19
  · exact coded24
  · exact coded25
  · exact coded26
  · exact coded27
  · exact coded28
  · exact coded29
  · exact coded38
  · exact coded39
  · exact coded42
  · exact coded43
  · exact coded44
  · exact coded45
  · exact coded46
  · exact coded57
  · exact coded58
  · exact coded59
  · exact coded60
  · exact coded61
  · exact coded63
  · exact coded78
  · exact coded79
  · exact coded80
  · exact coded81
  · exact coded82
  · exact coded83
  · exact coded84
  · exact coded90
  · exact coded91
  · exact coded92
  · exact coded93
  · exact coded94
  · exact coded95
  · exact coded96
  · exact coded116
  · exact coded117
  · exact coded118
  · exact coded120
  · exact coded121
  · exact coded122
  · exact coded125
  · exact coded126
  · exact coded127
  · exact coded131
  · exact coded132
  · exact coded133
  · exact coded134
  · exact coded135
  · exact coded139
  · exact coded140
  · exact coded141
  · exact coded142
  · exact coded148
  · exact coded149
  · exact coded150
  · exact coded151
  · exact coded155
  · exact coded158) (fun f p h => by
  unfold clR at h
  split at h
  · cases h
    exact ⟨rfl, clone130⟩
  · cases h) (fun f p h => by
  unfold clP at h
  split at h
  · cases h
    exact ⟨rfl, clone62⟩
  · cases h)
end Go.Proofs.YtajfhbpnjcdpeaaDoor
