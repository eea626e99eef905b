/- The functions of the program, compiled, are the table's. -/
import Derived.Test.YtfnplmbkabdgoaaGreatDoorRows
import Derived.Test.YtfnplmbkabdgoaaGreatDoorMachD
import Derived.Test.YtfnplmbkabdgoaaGreatDoorMachH
import Derived.Test.YtfnplmbkabdgoaaGreatDoorCode
import Derived.Test.YtfnplmbkabdgoaaGreatDoorShelf
set_option linter.unusedSimpArgs false
set_option linter.unusedVariables false
set_option maxRecDepth 100000
namespace Go.Proofs.YtfnplmbkabdgoaaGreatDoor
open Ago
def fids : List (Nat × Nat) := [(77, 40), (100, 49), (36, 59), (126, 72), (127, 73), (13, 79), (53, 82), (144, 86), (145, 87), (37, 90), (98, 129), (117, 136), (94, 137), (93, 138), (27, 140), (142, 143), (111, 144), (71, 145), (112, 146), (113, 147), (55, 148), (42, 149), (43, 150), (88, 152), (102, 153), (90, 154), (70, 155), (54, 158), (128, 159), (7, 229), (9, 235), (25, 250), (28, 251), (92, 257), (40, 262), (44, 263), (45, 264), (56, 273), (74, 285), (75, 286), (20, 522), (32, 549), (49, 579), (50, 580), (51, 581), (10, 585), (8, 600), (62, 610), (63, 611), (64, 612), (29, 618), (26, 625), (46, 634), (47, 635), (41, 638), (57, 643), (76, 647), (3, 664), (6, 669), (11, 671), (12, 672), (31, 673), (33, 674), (16, 679), (17, 680), (18, 681), (19, 682), (21, 683), (22, 684), (23, 685), (24, 686), (30, 689), (34, 690), (35, 691), (48, 692), (52, 695), (58, 697), (59, 698), (60, 699), (61, 700), (65, 701), (66, 702), (67, 703), (68, 704), (69, 705), (78, 706), (79, 707), (80, 708), (81, 709), (82, 710), (83, 711), (84, 712), (85, 713), (86, 714), (87, 715), (95, 716), (96, 717), (97, 718), (99, 719), (114, 720), (115, 721), (116, 722), (118, 723), (119, 724), (120, 725), (121, 726), (122, 727), (123, 728), (124, 729), (125, 730), (139, 731), (140, 732), (141, 733), (143, 734), (146, 735), (147, 736), (151, 737), (91, 291), (110, 272)]
def pf (f : Nat) : Bool := !([86, 87, 143, 152, 691, 701, 703, 713, 714, 715, 719, 723, 724, 725, 726, 727, 728, 729, 730, 734, 735, 736, 737] : List Nat).contains f
theorem coded40 : CodedAt Tryz.prog (fidOf fids) pf codeN (77, 40) := codedAt_of (a := ac40) rfl Tryz.func77 (by kernel_rfl) (by kernel_rfl)
theorem coded49 : CodedAt Tryz.prog (fidOf fids) pf codeN (100, 49) := codedAt_of (a := ac49) rfl Tryz.func100 (by kernel_rfl) (by kernel_rfl)
theorem coded59 : CodedAt Tryz.prog (fidOf fids) pf codeN (36, 59) := codedAt_of (a := ac59) rfl Tryz.func36 (by kernel_rfl) (by kernel_rfl)
theorem coded72 : CodedAt Tryz.prog (fidOf fids) pf codeN (126, 72) := codedAt_of (a := ac72) rfl Tryz.func126 (by kernel_rfl) (by kernel_rfl)
theorem coded73 : CodedAt Tryz.prog (fidOf fids) pf codeN (127, 73) := codedAt_of (a := ac73) rfl Tryz.func127 (by kernel_rfl) (by kernel_rfl)
theorem coded79 : CodedAt Tryz.prog (fidOf fids) pf codeN (13, 79) := codedAt_of (a := ac79) rfl Tryz.func13 (by kernel_rfl) (by kernel_rfl)
theorem coded82 : CodedAt Tryz.prog (fidOf fids) pf codeN (53, 82) := codedAt_of (a := ac82) rfl Tryz.func53 (by kernel_rfl) (by kernel_rfl)
theorem coded86 : CodedAt Tryz.prog (fidOf fids) pf codeN (144, 86) := codedAt_of (a := ac86) rfl Tryz.func144 (by kernel_rfl) (by kernel_rfl)
theorem coded87 : CodedAt Tryz.prog (fidOf fids) pf codeN (145, 87) := codedAt_of (a := ac87) rfl Tryz.func145 (by kernel_rfl) (by kernel_rfl)
theorem coded90 : CodedAt Tryz.prog (fidOf fids) pf codeN (37, 90) := codedAt_of (a := ac90) rfl Tryz.func37 (by kernel_rfl) (by kernel_rfl)
theorem coded129 : CodedAt Tryz.prog (fidOf fids) pf codeN (98, 129) := codedAt_of (a := ac129) rfl Tryz.func98 (by kernel_rfl) (by kernel_rfl)
theorem coded136 : CodedAt Tryz.prog (fidOf fids) pf codeN (117, 136) := codedAt_of (a := ac136) rfl Tryz.func117 (by kernel_rfl) (by kernel_rfl)
theorem coded137 : CodedAt Tryz.prog (fidOf fids) pf codeN (94, 137) := codedAt_of (a := ac137) rfl Tryz.func94 (by kernel_rfl) (by kernel_rfl)
theorem coded138 : CodedAt Tryz.prog (fidOf fids) pf codeN (93, 138) := codedAt_of (a := ac138) rfl Tryz.func93 (by kernel_rfl) (by kernel_rfl)
theorem coded140 : CodedAt Tryz.prog (fidOf fids) pf codeN (27, 140) := codedAt_of (a := ac140) rfl Tryz.func27 (by kernel_rfl) (by kernel_rfl)
theorem coded143 : CodedAt Tryz.prog (fidOf fids) pf codeN (142, 143) := codedAt_of (a := ac143) rfl Tryz.func142 (by kernel_rfl) (by kernel_rfl)
theorem coded144 : CodedAt Tryz.prog (fidOf fids) pf codeN (111, 144) := codedAt_of (a := ac144) rfl Tryz.func111 (by kernel_rfl) (by kernel_rfl)
theorem coded145 : CodedAt Tryz.prog (fidOf fids) pf codeN (71, 145) := codedAt_of (a := ac145) rfl Tryz.func71 (by kernel_rfl) (by kernel_rfl)
theorem coded146 : CodedAt Tryz.prog (fidOf fids) pf codeN (112, 146) := codedAt_of (a := ac146) rfl Tryz.func112 (by kernel_rfl) (by kernel_rfl)
theorem coded147 : CodedAt Tryz.prog (fidOf fids) pf codeN (113, 147) := codedAt_of (a := ac147) rfl Tryz.func113 (by kernel_rfl) (by kernel_rfl)
theorem coded148 : CodedAt Tryz.prog (fidOf fids) pf codeN (55, 148) := codedAt_of (a := ac148) rfl Tryz.func55 (by kernel_rfl) (by kernel_rfl)
theorem coded149 : CodedAt Tryz.prog (fidOf fids) pf codeN (42, 149) := codedAt_of (a := ac149) rfl Tryz.func42 (by kernel_rfl) (by kernel_rfl)
theorem coded150 : CodedAt Tryz.prog (fidOf fids) pf codeN (43, 150) := codedAt_of (a := ac150) rfl Tryz.func43 (by kernel_rfl) (by kernel_rfl)
theorem coded152 : CodedAt Tryz.prog (fidOf fids) pf codeN (88, 152) := codedAt_of (a := ac152) rfl Tryz.func88 (by kernel_rfl) (by kernel_rfl)
theorem coded153 : CodedAt Tryz.prog (fidOf fids) pf codeN (102, 153) := codedAt_of (a := ac153) rfl Tryz.func102 (by kernel_rfl) (by kernel_rfl)
theorem coded154 : CodedAt Tryz.prog (fidOf fids) pf codeN (90, 154) := codedAt_of (a := ac154) rfl Tryz.func90 (by kernel_rfl) (by kernel_rfl)
theorem coded155 : CodedAt Tryz.prog (fidOf fids) pf codeN (70, 155) := codedAt_of (a := ac155) rfl Tryz.func70 (by kernel_rfl) (by kernel_rfl)
theorem coded158 : CodedAt Tryz.prog (fidOf fids) pf codeN (54, 158) := codedAt_of (a := ac158) rfl Tryz.func54 (by kernel_rfl) (by kernel_rfl)
theorem coded159 : CodedAt Tryz.prog (fidOf fids) pf codeN (128, 159) := codedAt_of (a := ac159) rfl Tryz.func128 (by kernel_rfl) (by kernel_rfl)
theorem coded229 : CodedAt Tryz.prog (fidOf fids) pf codeN (7, 229) := codedAt_of (a := ac229) rfl Tryz.func7 (by kernel_rfl) (by kernel_rfl)
theorem coded235 : CodedAt Tryz.prog (fidOf fids) pf codeN (9, 235) := codedAt_of (a := ac235) rfl Tryz.func9 (by kernel_rfl) (by kernel_rfl)
theorem coded250 : CodedAt Tryz.prog (fidOf fids) pf codeN (25, 250) := codedAt_of (a := ac250) rfl Tryz.func25 (by kernel_rfl) (by kernel_rfl)
theorem coded251 : CodedAt Tryz.prog (fidOf fids) pf codeN (28, 251) := codedAt_of (a := ac251) rfl Tryz.func28 (by kernel_rfl) (by kernel_rfl)
theorem coded257 : CodedAt Tryz.prog (fidOf fids) pf codeN (92, 257) := codedAt_of (a := ac257) rfl Tryz.func92 (by kernel_rfl) (by kernel_rfl)
theorem coded262 : CodedAt Tryz.prog (fidOf fids) pf codeN (40, 262) := codedAt_of (a := ac262) rfl Tryz.func40 (by kernel_rfl) (by kernel_rfl)
theorem coded263 : CodedAt Tryz.prog (fidOf fids) pf codeN (44, 263) := codedAt_of (a := ac263) rfl Tryz.func44 (by kernel_rfl) (by kernel_rfl)
theorem coded264 : CodedAt Tryz.prog (fidOf fids) pf codeN (45, 264) := codedAt_of (a := ac264) rfl Tryz.func45 (by kernel_rfl) (by kernel_rfl)
theorem coded273 : CodedAt Tryz.prog (fidOf fids) pf codeN (56, 273) := codedAt_of (a := ac273) rfl Tryz.func56 (by kernel_rfl) (by kernel_rfl)
theorem coded285 : CodedAt Tryz.prog (fidOf fids) pf codeN (74, 285) := codedAt_of (a := ac285) rfl Tryz.func74 (by kernel_rfl) (by kernel_rfl)
theorem coded286 : CodedAt Tryz.prog (fidOf fids) pf codeN (75, 286) := codedAt_of (a := ac286) rfl Tryz.func75 (by kernel_rfl) (by kernel_rfl)
theorem coded522 : CodedAt Tryz.prog (fidOf fids) pf codeN (20, 522) := codedAt_of (a := ac522) rfl Tryz.func20 (by kernel_rfl) (by kernel_rfl)
theorem coded549 : CodedAt Tryz.prog (fidOf fids) pf codeN (32, 549) := codedAt_of (a := ac549) rfl Tryz.func32 (by kernel_rfl) (by kernel_rfl)
theorem coded579 : CodedAt Tryz.prog (fidOf fids) pf codeN (49, 579) := codedAt_of (a := ac579) rfl Tryz.func49 (by kernel_rfl) (by kernel_rfl)
theorem coded580 : CodedAt Tryz.prog (fidOf fids) pf codeN (50, 580) := codedAt_of (a := ac580) rfl Tryz.func50 (by kernel_rfl) (by kernel_rfl)
theorem coded581 : CodedAt Tryz.prog (fidOf fids) pf codeN (51, 581) := codedAt_of (a := ac581) rfl Tryz.func51 (by kernel_rfl) (by kernel_rfl)
theorem coded585 : CodedAt Tryz.prog (fidOf fids) pf codeN (10, 585) := codedAt_of (a := ac585) rfl Tryz.func10 (by kernel_rfl) (by kernel_rfl)
theorem coded600 : CodedAt Tryz.prog (fidOf fids) pf codeN (8, 600) := codedAt_of (a := ac600) rfl Tryz.func8 (by kernel_rfl) (by kernel_rfl)
theorem coded610 : CodedAt Tryz.prog (fidOf fids) pf codeN (62, 610) := codedAt_of (a := ac610) rfl Tryz.func62 (by kernel_rfl) (by kernel_rfl)
theorem coded611 : CodedAt Tryz.prog (fidOf fids) pf codeN (63, 611) := codedAt_of (a := ac611) rfl Tryz.func63 (by kernel_rfl) (by kernel_rfl)
theorem coded612 : CodedAt Tryz.prog (fidOf fids) pf codeN (64, 612) := codedAt_of (a := ac612) rfl Tryz.func64 (by kernel_rfl) (by kernel_rfl)
theorem coded618 : CodedAt Tryz.prog (fidOf fids) pf codeN (29, 618) := codedAt_of (a := ac618) rfl Tryz.func29 (by kernel_rfl) (by kernel_rfl)
theorem coded625 : CodedAt Tryz.prog (fidOf fids) pf codeN (26, 625) := codedAt_of (a := ac625) rfl Tryz.func26 (by kernel_rfl) (by kernel_rfl)
theorem coded634 : CodedAt Tryz.prog (fidOf fids) pf codeN (46, 634) := codedAt_of (a := ac634) rfl Tryz.func46 (by kernel_rfl) (by kernel_rfl)
theorem coded635 : CodedAt Tryz.prog (fidOf fids) pf codeN (47, 635) := codedAt_of (a := ac635) rfl Tryz.func47 (by kernel_rfl) (by kernel_rfl)
theorem coded638 : CodedAt Tryz.prog (fidOf fids) pf codeN (41, 638) := codedAt_of (a := ac638) rfl Tryz.func41 (by kernel_rfl) (by kernel_rfl)
theorem coded643 : CodedAt Tryz.prog (fidOf fids) pf codeN (57, 643) := codedAt_of (a := ac643) rfl Tryz.func57 (by kernel_rfl) (by kernel_rfl)
theorem coded647 : CodedAt Tryz.prog (fidOf fids) pf codeN (76, 647) := codedAt_of (a := ac647) rfl Tryz.func76 (by kernel_rfl) (by kernel_rfl)
theorem coded664 : CodedAt Tryz.prog (fidOf fids) pf codeN (3, 664) := codedAt_of (a := ac664) rfl Tryz.func3 (by kernel_rfl) (by kernel_rfl)
theorem coded669 : CodedAt Tryz.prog (fidOf fids) pf codeN (6, 669) := codedAt_of (a := ac669) rfl Tryz.func6 (by kernel_rfl) (by kernel_rfl)
theorem coded671 : CodedAt Tryz.prog (fidOf fids) pf codeN (11, 671) := codedAt_of (a := ac671) rfl Tryz.func11 (by kernel_rfl) (by kernel_rfl)
theorem coded672 : CodedAt Tryz.prog (fidOf fids) pf codeN (12, 672) := codedAt_of (a := ac672) rfl Tryz.func12 (by kernel_rfl) (by kernel_rfl)
theorem coded673 : CodedAt Tryz.prog (fidOf fids) pf codeN (31, 673) := codedAt_of (a := ac673) rfl Tryz.func31 (by kernel_rfl) (by kernel_rfl)
theorem coded674 : CodedAt Tryz.prog (fidOf fids) pf codeN (33, 674) := codedAt_of (a := ac674) rfl Tryz.func33 (by kernel_rfl) (by kernel_rfl)
theorem coded679 : CodedAt Tryz.prog (fidOf fids) pf codeN (16, 679) := codedAt_of (a := ac679) rfl Tryz.func16 (by kernel_rfl) (by kernel_rfl)
theorem coded680 : CodedAt Tryz.prog (fidOf fids) pf codeN (17, 680) := codedAt_of (a := ac680) rfl Tryz.func17 (by kernel_rfl) (by kernel_rfl)
theorem coded681 : CodedAt Tryz.prog (fidOf fids) pf codeN (18, 681) := codedAt_of (a := ac681) rfl Tryz.func18 (by kernel_rfl) (by kernel_rfl)
theorem coded682 : CodedAt Tryz.prog (fidOf fids) pf codeN (19, 682) := codedAt_of (a := ac682) rfl Tryz.func19 (by kernel_rfl) (by kernel_rfl)
theorem coded683 : CodedAt Tryz.prog (fidOf fids) pf codeN (21, 683) := codedAt_of (a := ac683) rfl Tryz.func21 (by kernel_rfl) (by kernel_rfl)
theorem coded684 : CodedAt Tryz.prog (fidOf fids) pf codeN (22, 684) := codedAt_of (a := ac684) rfl Tryz.func22 (by kernel_rfl) (by kernel_rfl)
theorem coded685 : CodedAt Tryz.prog (fidOf fids) pf codeN (23, 685) := codedAt_of (a := ac685) rfl Tryz.func23 (by kernel_rfl) (by kernel_rfl)
theorem coded686 : CodedAt Tryz.prog (fidOf fids) pf codeN (24, 686) := codedAt_of (a := ac686) rfl Tryz.func24 (by kernel_rfl) (by kernel_rfl)
theorem coded689 : CodedAt Tryz.prog (fidOf fids) pf codeN (30, 689) := codedAt_of (a := ac689) rfl Tryz.func30 (by kernel_rfl) (by kernel_rfl)
theorem coded690 : CodedAt Tryz.prog (fidOf fids) pf codeN (34, 690) := codedAt_of (a := ac690) rfl Tryz.func34 (by kernel_rfl) (by kernel_rfl)
theorem coded691 : CodedAt Tryz.prog (fidOf fids) pf codeN (35, 691) := codedAt_of (a := ac691) rfl Tryz.func35 (by kernel_rfl) (by kernel_rfl)
theorem coded692 : CodedAt Tryz.prog (fidOf fids) pf codeN (48, 692) := codedAt_of (a := ac692) rfl Tryz.func48 (by kernel_rfl) (by kernel_rfl)
theorem coded695 : CodedAt Tryz.prog (fidOf fids) pf codeN (52, 695) := codedAt_of (a := ac695) rfl Tryz.func52 (by kernel_rfl) (by kernel_rfl)
theorem coded697 : CodedAt Tryz.prog (fidOf fids) pf codeN (58, 697) := codedAt_of (a := ac697) rfl Tryz.func58 (by kernel_rfl) (by kernel_rfl)
theorem coded698 : CodedAt Tryz.prog (fidOf fids) pf codeN (59, 698) := codedAt_of (a := ac698) rfl Tryz.func59 (by kernel_rfl) (by kernel_rfl)
theorem coded699 : CodedAt Tryz.prog (fidOf fids) pf codeN (60, 699) := codedAt_of (a := ac699) rfl Tryz.func60 (by kernel_rfl) (by kernel_rfl)
theorem coded700 : CodedAt Tryz.prog (fidOf fids) pf codeN (61, 700) := codedAt_of (a := ac700) rfl Tryz.func61 (by kernel_rfl) (by kernel_rfl)
theorem coded701 : CodedAt Tryz.prog (fidOf fids) pf codeN (65, 701) := codedAt_of (a := ac701) rfl Tryz.func65 (by kernel_rfl) (by kernel_rfl)
theorem coded702 : CodedAt Tryz.prog (fidOf fids) pf codeN (66, 702) := codedAt_of (a := ac702) rfl Tryz.func66 (by kernel_rfl) (by kernel_rfl)
theorem coded703 : CodedAt Tryz.prog (fidOf fids) pf codeN (67, 703) := codedAt_of (a := ac703) rfl Tryz.func67 (by kernel_rfl) (by kernel_rfl)
theorem coded704 : CodedAt Tryz.prog (fidOf fids) pf codeN (68, 704) := codedAt_of (a := ac704) rfl Tryz.func68 (by kernel_rfl) (by kernel_rfl)
theorem coded705 : CodedAt Tryz.prog (fidOf fids) pf codeN (69, 705) := codedAt_of (a := ac705) rfl Tryz.func69 (by kernel_rfl) (by kernel_rfl)
theorem coded706 : CodedAt Tryz.prog (fidOf fids) pf codeN (78, 706) := codedAt_of (a := ac706) rfl Tryz.func78 (by kernel_rfl) (by kernel_rfl)
theorem coded707 : CodedAt Tryz.prog (fidOf fids) pf codeN (79, 707) := codedAt_of (a := ac707) rfl Tryz.func79 (by kernel_rfl) (by kernel_rfl)
theorem coded708 : CodedAt Tryz.prog (fidOf fids) pf codeN (80, 708) := codedAt_of (a := ac708) rfl Tryz.func80 (by kernel_rfl) (by kernel_rfl)
theorem coded709 : CodedAt Tryz.prog (fidOf fids) pf codeN (81, 709) := codedAt_of (a := ac709) rfl Tryz.func81 (by kernel_rfl) (by kernel_rfl)
theorem coded710 : CodedAt Tryz.prog (fidOf fids) pf codeN (82, 710) := codedAt_of (a := ac710) rfl Tryz.func82 (by kernel_rfl) (by kernel_rfl)
theorem coded711 : CodedAt Tryz.prog (fidOf fids) pf codeN (83, 711) := codedAt_of (a := ac711) rfl Tryz.func83 (by kernel_rfl) (by kernel_rfl)
theorem coded712 : CodedAt Tryz.prog (fidOf fids) pf codeN (84, 712) := codedAt_of (a := ac712) rfl Tryz.func84 (by kernel_rfl) (by kernel_rfl)
theorem coded713 : CodedAt Tryz.prog (fidOf fids) pf codeN (85, 713) := codedAt_of (a := ac713) rfl Tryz.func85 (by kernel_rfl) (by kernel_rfl)
theorem coded714 : CodedAt Tryz.prog (fidOf fids) pf codeN (86, 714) := codedAt_of (a := ac714) rfl Tryz.func86 (by kernel_rfl) (by kernel_rfl)
theorem coded715 : CodedAt Tryz.prog (fidOf fids) pf codeN (87, 715) := codedAt_of (a := ac715) rfl Tryz.func87 (by kernel_rfl) (by kernel_rfl)
theorem coded716 : CodedAt Tryz.prog (fidOf fids) pf codeN (95, 716) := codedAt_of (a := ac716) rfl Tryz.func95 (by kernel_rfl) (by kernel_rfl)
theorem coded717 : CodedAt Tryz.prog (fidOf fids) pf codeN (96, 717) := codedAt_of (a := ac717) rfl Tryz.func96 (by kernel_rfl) (by kernel_rfl)
theorem coded718 : CodedAt Tryz.prog (fidOf fids) pf codeN (97, 718) := codedAt_of (a := ac718) rfl Tryz.func97 (by kernel_rfl) (by kernel_rfl)
theorem coded719 : CodedAt Tryz.prog (fidOf fids) pf codeN (99, 719) := codedAt_of (a := ac719) rfl Tryz.func99 (by kernel_rfl) (by kernel_rfl)
theorem coded720 : CodedAt Tryz.prog (fidOf fids) pf codeN (114, 720) := codedAt_of (a := ac720) rfl Tryz.func114 (by kernel_rfl) (by kernel_rfl)
theorem coded721 : CodedAt Tryz.prog (fidOf fids) pf codeN (115, 721) := codedAt_of (a := ac721) rfl Tryz.func115 (by kernel_rfl) (by kernel_rfl)
theorem coded722 : CodedAt Tryz.prog (fidOf fids) pf codeN (116, 722) := codedAt_of (a := ac722) rfl Tryz.func116 (by kernel_rfl) (by kernel_rfl)
theorem coded723 : CodedAt Tryz.prog (fidOf fids) pf codeN (118, 723) := codedAt_of (a := ac723) rfl Tryz.func118 (by kernel_rfl) (by kernel_rfl)
theorem coded724 : CodedAt Tryz.prog (fidOf fids) pf codeN (119, 724) := codedAt_of (a := ac724) rfl Tryz.func119 (by kernel_rfl) (by kernel_rfl)
theorem coded725 : CodedAt Tryz.prog (fidOf fids) pf codeN (120, 725) := codedAt_of (a := ac725) rfl Tryz.func120 (by kernel_rfl) (by kernel_rfl)
theorem coded726 : CodedAt Tryz.prog (fidOf fids) pf codeN (121, 726) := codedAt_of (a := ac726) rfl Tryz.func121 (by kernel_rfl) (by kernel_rfl)
theorem coded727 : CodedAt Tryz.prog (fidOf fids) pf codeN (122, 727) := codedAt_of (a := ac727) rfl Tryz.func122 (by kernel_rfl) (by kernel_rfl)
theorem coded728 : CodedAt Tryz.prog (fidOf fids) pf codeN (123, 728) := codedAt_of (a := ac728) rfl Tryz.func123 (by kernel_rfl) (by kernel_rfl)
theorem coded729 : CodedAt Tryz.prog (fidOf fids) pf codeN (124, 729) := codedAt_of (a := ac729) rfl Tryz.func124 (by kernel_rfl) (by kernel_rfl)
theorem coded730 : CodedAt Tryz.prog (fidOf fids) pf codeN (125, 730) := codedAt_of (a := ac730) rfl Tryz.func125 (by kernel_rfl) (by kernel_rfl)
theorem coded731 : CodedAt Tryz.prog (fidOf fids) pf codeN (139, 731) := codedAt_of (a := ac731) rfl Tryz.func139 (by kernel_rfl) (by kernel_rfl)
theorem coded732 : CodedAt Tryz.prog (fidOf fids) pf codeN (140, 732) := codedAt_of (a := ac732) rfl Tryz.func140 (by kernel_rfl) (by kernel_rfl)
theorem coded733 : CodedAt Tryz.prog (fidOf fids) pf codeN (141, 733) := codedAt_of (a := ac733) rfl Tryz.func141 (by kernel_rfl) (by kernel_rfl)
theorem coded734 : CodedAt Tryz.prog (fidOf fids) pf codeN (143, 734) := codedAt_of (a := ac734) rfl Tryz.func143 (by kernel_rfl) (by kernel_rfl)
theorem coded735 : CodedAt Tryz.prog (fidOf fids) pf codeN (146, 735) := codedAt_of (a := ac735) rfl Tryz.func146 (by kernel_rfl) (by kernel_rfl)
theorem coded736 : CodedAt Tryz.prog (fidOf fids) pf codeN (147, 736) := codedAt_of (a := ac736) rfl Tryz.func147 (by kernel_rfl) (by kernel_rfl)
theorem coded737 : CodedAt Tryz.prog (fidOf fids) pf codeN (151, 737) := codedAt_of (a := ac737) rfl Tryz.func151 (by kernel_rfl) (by kernel_rfl)
theorem coded291 : CodedAt Tryz.prog (fidOf fids) pf codeN (91, 291) := bodied_of rfl Tryz.func91 rfl (by kernel_rfl)
theorem coded272 : CodedAt Tryz.prog (fidOf fids) pf codeN (110, 272) := bodied_of rfl Tryz.func110 rfl (by kernel_rfl)
theorem ctxOk0 : CtxOk Tryz.prog (fidOf fids) pf (mkCtx codeN clRN clPN) := ctxOk_of (by
  intro p hp
  simp only [fids, List.mem_cons, List.not_mem_nil, or_false] at hp
  rcases hp with rfl | rfl | rfl | rfl | rfl | rfl | rfl | rfl | rfl | rfl | rfl | rfl | rfl | rfl | rfl | rfl | rfl | rfl | rfl | rfl | rfl | rfl | rfl | rfl | rfl | rfl | rfl | rfl | rfl | rfl | rfl | rfl | rfl | rfl | rfl | rfl | rfl | rfl | rfl | rfl | rfl | rfl | rfl | rfl | rfl | rfl | rfl | rfl | rfl | rfl | rfl | rfl | rfl | rfl | rfl | rfl | rfl | rfl | rfl | rfl | rfl | rfl | rfl | rfl | rfl | rfl | rfl | rfl | rfl | rfl | rfl | rfl | rfl | rfl | rfl | rfl | rfl | rfl | rfl | rfl | rfl | rfl | rfl | rfl | rfl | rfl | rfl | rfl | rfl | rfl | rfl | rfl | rfl | rfl | rfl | rfl | rfl | rfl | rfl | rfl | rfl | rfl | rfl | rfl | rfl | rfl | rfl | rfl | rfl | rfl | rfl | rfl | rfl | rfl | rfl | rfl | rfl | rfl | rfl
  · exact coded40
  · exact coded49
  · exact coded59
  · exact coded72
  · exact coded73
  · exact coded79
  · exact coded82
  · exact coded86
  · exact coded87
  · exact coded90
  · exact coded129
  · exact coded136
  · exact coded137
  · exact coded138
  · exact coded140
  · exact coded143
  · exact coded144
  · exact coded145
  · exact coded146
  · exact coded147
  · exact coded148
  · exact coded149
  · exact coded150
  · exact coded152
  · exact coded153
  · exact coded154
  · exact coded155
  · exact coded158
  · exact coded159
  · exact coded229
  · exact coded235
  · exact coded250
  · exact coded251
  · exact coded257
  · exact coded262
  · exact coded263
  · exact coded264
  · exact coded273
  · exact coded285
  · exact coded286
  · exact coded522
  · exact coded549
  · exact coded579
  · exact coded580
  · exact coded581
  · exact coded585
  · exact coded600
  · exact coded610
  · exact coded611
  · exact coded612
  · exact coded618
  · exact coded625
  · exact coded634
  · exact coded635
  · exact coded638
  · exact coded643
  · exact coded647
  · exact coded664
  · exact coded669
  · exact coded671
  · exact coded672
  · exact coded673
  · exact coded674
  · exact coded679
  · exact coded680
  · exact coded681
  · exact coded682
  · exact coded683
  · exact coded684
  · exact coded685
  · exact coded686
  · exact coded689
  · exact coded690
  · exact coded691
  · exact coded692
  · exact coded695
  · exact coded697
  · exact coded698
  · exact coded699
  · exact coded700
  · exact coded701
  · exact coded702
  · exact coded703
  · exact coded704
  · exact coded705
  · exact coded706
  · exact coded707
  · exact coded708
  · exact coded709
  · exact coded710
  · exact coded711
  · exact coded712
  · exact coded713
  · exact coded714
  · exact coded715
  · exact coded716
  · exact coded717
  · exact coded718
  · exact coded719
  · exact coded720
  · exact coded721
  · exact coded722
  · exact coded723
  · exact coded724
  · exact coded725
  · exact coded726
  · exact coded727
  · exact coded728
  · exact coded729
  · exact coded730
  · exact coded731
  · exact coded732
  · exact coded733
  · exact coded734
  · exact coded735
  · exact coded736
  · exact coded737
  · exact coded291
  · exact coded272) (fun f p h => by cases h) (fun f p h => by cases h)
theorem ctxOk : CtxOk Tryz.prog (fidOf fids) pf CN := funCtx_ok ctxOk0 (fun f F h => by
  unfold ppN at h
  split at h
  · cases h
    exact ⟨rfl, rep_at (fun g hg => by
      have h := fidOf_mem hg
      have e : g = 91 := by simpa [fids] using h
      subst e
      exact ⟨_, Tryz.lays105, Tryz.Builder_Extra_105, rfl⟩), fun ts v h => by
      obtain ⟨p, l, h, _⟩ := h
      cases h⟩
  · cases h
    exact ⟨rfl, cmp_at (fun g hg => by
      have h := fidOf_mem hg
      have e : g = 110 := by simpa [fids] using h
      subst e
      exact ⟨_, Tryz.lays213, rfl⟩), fun ts v h => by
      obtain ⟨p, l, h, _⟩ := h
      cases h⟩
  · cases h)
end Go.Proofs.YtfnplmbkabdgoaaGreatDoor
