/- The functions of the program, compiled, are the table's. -/
import Derived.Test.YtbaojellfboifaaGreatDoorRows
import Derived.Test.YtbaojellfboifaaGreatDoorMachD
import Derived.Test.YtbaojellfboifaaGreatDoorMachH
import Derived.Test.YtbaojellfboifaaGreatDoorCode
import Derived.Test.YtbaojellfboifaaGreatDoorLen
import Derived.Test.YtbaojellfboifaaGreatDoorShelf
set_option linter.unusedSimpArgs false
set_option linter.unusedVariables false
set_option maxRecDepth 100000
namespace Go.Proofs.YtbaojellfboifaaGreatDoor
open Ago
def fids : List (Nat × Nat) := [(85, 26), (81, 45), (23, 46), (55, 61), (42, 63), (182, 73), (59, 84), (38, 90), (89, 94), (90, 95), (91, 96), (15, 126), (25, 133), (45, 139), (46, 140), (47, 141), (48, 142), (93, 148), (60, 149), (61, 150), (62, 151), (107, 155), (92, 158), (146, 162), (162, 167), (49, 229), (26, 235), (31, 239), (63, 250), (50, 251), (54, 254), (104, 257), (94, 262), (64, 263), (65, 264), (75, 265), (76, 266), (77, 267), (78, 268), (79, 269), (80, 270), (95, 273), (102, 274), (103, 275), (111, 285), (112, 286), (117, 287), (122, 291), (132, 292), (133, 293), (138, 295), (139, 296), (140, 297), (127, 298), (141, 299), (116, 300), (149, 301), (154, 302), (155, 303), (156, 304), (157, 306), (164, 307), (51, 358), (148, 371), (66, 377), (67, 378), (163, 395), (96, 396), (168, 404), (171, 419), (172, 420), (173, 421), (174, 422), (181, 428), (183, 429), (184, 430), (185, 431), (188, 434), (189, 435), (3, 450), (14, 454), (34, 457), (24, 459), (6, 469), (10, 470), (7, 472), (4, 477), (5, 478), (22, 481), (20, 485), (21, 486), (56, 490), (43, 491), (8, 502), (9, 503), (11, 504), (16, 505), (41, 509), (39, 513), (40, 514), (83, 517), (73, 538), (12, 548), (13, 549), (27, 550), (29, 552), (30, 553), (32, 554), (33, 555), (57, 562), (58, 563), (100, 574), (98, 575), (99, 576), (17, 579), (18, 580), (19, 581), (52, 582), (53, 583), (88, 597), (72, 598), (115, 607), (113, 608), (114, 609), (35, 610), (36, 611), (37, 612), (68, 613), (69, 614), (70, 615), (71, 616), (74, 617), (97, 624), (128, 626), (129, 627), (130, 628), (131, 629), (123, 630), (124, 631), (125, 632), (126, 633), (147, 639), (142, 640), (143, 641), (144, 642), (158, 644), (159, 645), (160, 646), (166, 648), (169, 649), (170, 650), (175, 651), (176, 652), (177, 653), (178, 654), (179, 655), (180, 656), (186, 657), (187, 658), (82, 216), (84, 518), (86, 519), (87, 520), (106, 566), (44, 214), (101, 130), (105, 62), (28, 551), (118, 272)]
def pf (f : Nat) : Bool := !([130, 133, 214, 216, 265, 267, 268, 269, 270, 274, 275, 287, 292, 293, 297, 298, 299, 300, 301, 306, 307, 485, 491, 518, 519, 520, 566, 575, 576, 608, 609, 614, 627, 630, 631, 632, 633, 640, 641, 642, 646] : List Nat).contains f
theorem coded26 : CodedAt Tryz.prog (fidOf fids) pf codeS (85, 26) := codedAt_of (a := ac26) rfl Tryz.func85 (by kernel_rfl) (by kernel_rfl)
theorem coded45 : CodedAt Tryz.prog (fidOf fids) pf codeS (81, 45) := codedAt_of (a := ac45) rfl Tryz.func81 (by kernel_rfl) (by kernel_rfl)
theorem coded46 : CodedAt Tryz.prog (fidOf fids) pf codeS (23, 46) := codedAt_of (a := ac46) rfl Tryz.func23 (by kernel_rfl) (by kernel_rfl)
theorem coded61 : CodedAt Tryz.prog (fidOf fids) pf codeS (55, 61) := codedAt_of (a := ac61) rfl Tryz.func55 (by kernel_rfl) (by kernel_rfl)
theorem coded63 : CodedAt Tryz.prog (fidOf fids) pf codeS (42, 63) := codedAt_of (a := ac63) rfl Tryz.func42 (by kernel_rfl) (by kernel_rfl)
theorem coded73 : CodedAt Tryz.prog (fidOf fids) pf codeS (182, 73) := codedAt_of (a := ac73) rfl Tryz.func182 (by kernel_rfl) (by kernel_rfl)
theorem coded84 : CodedAt Tryz.prog (fidOf fids) pf codeS (59, 84) := codedAt_of (a := ac84) rfl Tryz.func59 (by kernel_rfl) (by kernel_rfl)
theorem coded90 : CodedAt Tryz.prog (fidOf fids) pf codeS (38, 90) := codedAt_of (a := ac90) rfl Tryz.func38 (by kernel_rfl) (by kernel_rfl)
theorem coded94 : CodedAt Tryz.prog (fidOf fids) pf codeS (89, 94) := codedAt_of (a := ac94) rfl Tryz.func89 (by kernel_rfl) (by kernel_rfl)
theorem coded95 : CodedAt Tryz.prog (fidOf fids) pf codeS (90, 95) := codedAt_of (a := ac95) rfl Tryz.func90 (by kernel_rfl) (by kernel_rfl)
theorem coded96 : CodedAt Tryz.prog (fidOf fids) pf codeS (91, 96) := codedAt_of (a := ac96) rfl Tryz.func91 (by kernel_rfl) (by kernel_rfl)
theorem coded126 : CodedAt Tryz.prog (fidOf fids) pf codeS (15, 126) := codedAt_of (a := ac126) rfl Tryz.func15 (by kernel_rfl) (by kernel_rfl)
theorem coded133 : CodedAt Tryz.prog (fidOf fids) pf codeS (25, 133) := codedAt_of (a := ac133) rfl Tryz.func25 (by kernel_rfl) (by kernel_rfl)
theorem coded139 : CodedAt Tryz.prog (fidOf fids) pf codeS (45, 139) := codedAt_of (a := ac139) rfl Tryz.func45 (by kernel_rfl) (by kernel_rfl)
theorem coded140 : CodedAt Tryz.prog (fidOf fids) pf codeS (46, 140) := codedAt_of (a := ac140) rfl Tryz.func46 (by kernel_rfl) (by kernel_rfl)
theorem coded141 : CodedAt Tryz.prog (fidOf fids) pf codeS (47, 141) := codedAt_of (a := ac141) rfl Tryz.func47 (by kernel_rfl) (by kernel_rfl)
theorem coded142 : CodedAt Tryz.prog (fidOf fids) pf codeS (48, 142) := codedAt_of (a := ac142) rfl Tryz.func48 (by kernel_rfl) (by kernel_rfl)
theorem coded148 : CodedAt Tryz.prog (fidOf fids) pf codeS (93, 148) := codedAt_of (a := ac148) rfl Tryz.func93 (by kernel_rfl) (by kernel_rfl)
theorem coded149 : CodedAt Tryz.prog (fidOf fids) pf codeS (60, 149) := codedAt_of (a := ac149) rfl Tryz.func60 (by kernel_rfl) (by kernel_rfl)
theorem coded150 : CodedAt Tryz.prog (fidOf fids) pf codeS (61, 150) := codedAt_of (a := ac150) rfl Tryz.func61 (by kernel_rfl) (by kernel_rfl)
theorem coded151 : CodedAt Tryz.prog (fidOf fids) pf codeS (62, 151) := codedAt_of (a := ac151) rfl Tryz.func62 (by kernel_rfl) (by kernel_rfl)
theorem coded155 : CodedAt Tryz.prog (fidOf fids) pf codeS (107, 155) := codedAt_of (a := ac155) rfl Tryz.func107 (by kernel_rfl) (by kernel_rfl)
theorem coded158 : CodedAt Tryz.prog (fidOf fids) pf codeS (92, 158) := codedAt_of (a := ac158) rfl Tryz.func92 (by kernel_rfl) (by kernel_rfl)
theorem coded162 : CodedAt Tryz.prog (fidOf fids) pf codeS (146, 162) := codedAt_of (a := ac162) rfl Tryz.func146 (by kernel_rfl) (by kernel_rfl)
theorem coded167 : CodedAt Tryz.prog (fidOf fids) pf codeS (162, 167) := codedAt_of (a := ac167) rfl Tryz.func162 (by kernel_rfl) (by kernel_rfl)
theorem coded229 : CodedAt Tryz.prog (fidOf fids) pf codeS (49, 229) := codedAt_of (a := ac229) rfl Tryz.func49 (by kernel_rfl) (by kernel_rfl)
theorem coded235 : CodedAt Tryz.prog (fidOf fids) pf codeS (26, 235) := codedAt_of (a := ac235) rfl Tryz.func26 (by kernel_rfl) (by kernel_rfl)
theorem coded239 : CodedAt Tryz.prog (fidOf fids) pf codeS (31, 239) := codedAt_of (a := ac239) rfl Tryz.func31 (by kernel_rfl) (by kernel_rfl)
theorem coded250 : CodedAt Tryz.prog (fidOf fids) pf codeS (63, 250) := codedAt_of (a := ac250) rfl Tryz.func63 (by kernel_rfl) (by kernel_rfl)
theorem coded251 : CodedAt Tryz.prog (fidOf fids) pf codeS (50, 251) := codedAt_of (a := ac251) rfl Tryz.func50 (by kernel_rfl) (by kernel_rfl)
theorem coded254 : CodedAt Tryz.prog (fidOf fids) pf codeS (54, 254) := codedAt_of (a := ac254) rfl Tryz.func54 (by kernel_rfl) (by kernel_rfl)
theorem coded257 : CodedAt Tryz.prog (fidOf fids) pf codeS (104, 257) := codedAt_of (a := ac257) rfl Tryz.func104 (by kernel_rfl) (by kernel_rfl)
theorem coded262 : CodedAt Tryz.prog (fidOf fids) pf codeS (94, 262) := codedAt_of (a := ac262) rfl Tryz.func94 (by kernel_rfl) (by kernel_rfl)
theorem coded263 : CodedAt Tryz.prog (fidOf fids) pf codeS (64, 263) := codedAt_of (a := ac263) rfl Tryz.func64 (by kernel_rfl) (by kernel_rfl)
theorem coded264 : CodedAt Tryz.prog (fidOf fids) pf codeS (65, 264) := codedAt_of (a := ac264) rfl Tryz.func65 (by kernel_rfl) (by kernel_rfl)
theorem coded265 : CodedAt Tryz.prog (fidOf fids) pf codeS (75, 265) := codedAt_of (a := ac265) rfl Tryz.func75 (by kernel_rfl) (by kernel_rfl)
theorem coded266 : CodedAt Tryz.prog (fidOf fids) pf codeS (76, 266) := codedAt_of (a := ac266) rfl Tryz.func76 (by kernel_rfl) (by kernel_rfl)
theorem coded267 : CodedAt Tryz.prog (fidOf fids) pf codeS (77, 267) := codedAt_of (a := ac267) rfl Tryz.func77 (by kernel_rfl) (by kernel_rfl)
theorem coded268 : CodedAt Tryz.prog (fidOf fids) pf codeS (78, 268) := codedAt_of (a := ac268) rfl Tryz.func78 (by kernel_rfl) (by kernel_rfl)
theorem coded269 : CodedAt Tryz.prog (fidOf fids) pf codeS (79, 269) := codedAt_of (a := ac269) rfl Tryz.func79 (by kernel_rfl) (by kernel_rfl)
theorem coded270 : CodedAt Tryz.prog (fidOf fids) pf codeS (80, 270) := codedAt_of (a := ac270) rfl Tryz.func80 (by kernel_rfl) (by kernel_rfl)
theorem coded273 : CodedAt Tryz.prog (fidOf fids) pf codeS (95, 273) := codedAt_of (a := ac273) rfl Tryz.func95 (by kernel_rfl) (by kernel_rfl)
theorem coded274 : CodedAt Tryz.prog (fidOf fids) pf codeS (102, 274) := codedAt_of (a := ac274) rfl Tryz.func102 (by kernel_rfl) (by kernel_rfl)
theorem coded275 : CodedAt Tryz.prog (fidOf fids) pf codeS (103, 275) := codedAt_of (a := ac275) rfl Tryz.func103 (by kernel_rfl) (by kernel_rfl)
theorem coded285 : CodedAt Tryz.prog (fidOf fids) pf codeS (111, 285) := codedAt_of (a := ac285) rfl Tryz.func111 (by kernel_rfl) (by kernel_rfl)
theorem coded286 : CodedAt Tryz.prog (fidOf fids) pf codeS (112, 286) := codedAt_of (a := ac286) rfl Tryz.func112 (by kernel_rfl) (by kernel_rfl)
theorem coded287 : CodedAt Tryz.prog (fidOf fids) pf codeS (117, 287) := codedAt_of (a := ac287) rfl Tryz.func117 (by kernel_rfl) (by kernel_rfl)
theorem coded291 : CodedAt Tryz.prog (fidOf fids) pf codeS (122, 291) := codedAt_of (a := ac291) rfl Tryz.func122 (by kernel_rfl) (by kernel_rfl)
theorem coded292 : CodedAt Tryz.prog (fidOf fids) pf codeS (132, 292) := codedAt_of (a := ac292) rfl Tryz.func132 (by kernel_rfl) (by kernel_rfl)
theorem coded293 : CodedAt Tryz.prog (fidOf fids) pf codeS (133, 293) := codedAt_of (a := ac293) rfl Tryz.func133 (by kernel_rfl) (by kernel_rfl)
theorem coded295 : CodedAt Tryz.prog (fidOf fids) pf codeS (138, 295) := codedAt_of (a := ac295) rfl Tryz.func138 (by kernel_rfl) (by kernel_rfl)
theorem coded296 : CodedAt Tryz.prog (fidOf fids) pf codeS (139, 296) := codedAt_of (a := ac296) rfl Tryz.func139 (by kernel_rfl) (by kernel_rfl)
theorem coded297 : CodedAt Tryz.prog (fidOf fids) pf codeS (140, 297) := codedAt_of (a := ac297) rfl Tryz.func140 (by kernel_rfl) (by kernel_rfl)
theorem coded298 : CodedAt Tryz.prog (fidOf fids) pf codeS (127, 298) := codedAt_of (a := ac298) rfl Tryz.func127 (by kernel_rfl) (by kernel_rfl)
theorem coded299 : CodedAt Tryz.prog (fidOf fids) pf codeS (141, 299) := codedAt_of (a := ac299) rfl Tryz.func141 (by kernel_rfl) (by kernel_rfl)
theorem coded300 : CodedAt Tryz.prog (fidOf fids) pf codeS (116, 300) := codedAt_of (a := ac300) rfl Tryz.func116 (by kernel_rfl) (by kernel_rfl)
theorem coded301 : CodedAt Tryz.prog (fidOf fids) pf codeS (149, 301) := codedAt_of (a := ac301) rfl Tryz.func149 (by kernel_rfl) (by kernel_rfl)
theorem coded302 : CodedAt Tryz.prog (fidOf fids) pf codeS (154, 302) := codedAt_of (a := ac302) rfl Tryz.func154 (by kernel_rfl) (by kernel_rfl)
theorem coded303 : CodedAt Tryz.prog (fidOf fids) pf codeS (155, 303) := codedAt_of (a := ac303) rfl Tryz.func155 (by kernel_rfl) (by kernel_rfl)
theorem coded304 : CodedAt Tryz.prog (fidOf fids) pf codeS (156, 304) := codedAt_of (a := ac304) rfl Tryz.func156 (by kernel_rfl) (by kernel_rfl)
theorem coded306 : CodedAt Tryz.prog (fidOf fids) pf codeS (157, 306) := codedAt_of (a := ac306) rfl Tryz.func157 (by kernel_rfl) (by kernel_rfl)
theorem coded307 : CodedAt Tryz.prog (fidOf fids) pf codeS (164, 307) := codedAt_of (a := ac307) rfl Tryz.func164 (by kernel_rfl) (by kernel_rfl)
theorem coded358 : CodedAt Tryz.prog (fidOf fids) pf codeS (51, 358) := codedAt_of (a := ac358) rfl Tryz.func51 (by kernel_rfl) (by kernel_rfl)
theorem coded371 : CodedAt Tryz.prog (fidOf fids) pf codeS (148, 371) := codedAt_of (a := ac371) rfl Tryz.func148 (by kernel_rfl) (by kernel_rfl)
theorem coded377 : CodedAt Tryz.prog (fidOf fids) pf codeS (66, 377) := codedAt_of (a := ac377) rfl Tryz.func66 (by kernel_rfl) (by kernel_rfl)
theorem coded378 : CodedAt Tryz.prog (fidOf fids) pf codeS (67, 378) := codedAt_of (a := ac378) rfl Tryz.func67 (by kernel_rfl) (by kernel_rfl)
theorem coded395 : CodedAt Tryz.prog (fidOf fids) pf codeS (163, 395) := codedAt_of (a := ac395) rfl Tryz.func163 (by kernel_rfl) (by kernel_rfl)
theorem coded396 : CodedAt Tryz.prog (fidOf fids) pf codeS (96, 396) := codedAt_of (a := ac396) rfl Tryz.func96 (by kernel_rfl) (by kernel_rfl)
theorem coded404 : CodedAt Tryz.prog (fidOf fids) pf codeS (168, 404) := codedAt_of (a := ac404) rfl Tryz.func168 (by kernel_rfl) (by kernel_rfl)
theorem coded419 : CodedAt Tryz.prog (fidOf fids) pf codeS (171, 419) := codedAt_of (a := ac419) rfl Tryz.func171 (by kernel_rfl) (by kernel_rfl)
theorem coded420 : CodedAt Tryz.prog (fidOf fids) pf codeS (172, 420) := codedAt_of (a := ac420) rfl Tryz.func172 (by kernel_rfl) (by kernel_rfl)
theorem coded421 : CodedAt Tryz.prog (fidOf fids) pf codeS (173, 421) := codedAt_of (a := ac421) rfl Tryz.func173 (by kernel_rfl) (by kernel_rfl)
theorem coded422 : CodedAt Tryz.prog (fidOf fids) pf codeS (174, 422) := codedAt_of (a := ac422) rfl Tryz.func174 (by kernel_rfl) (by kernel_rfl)
theorem coded428 : CodedAt Tryz.prog (fidOf fids) pf codeS (181, 428) := codedAt_of (a := ac428) rfl Tryz.func181 (by kernel_rfl) (by kernel_rfl)
theorem coded429 : CodedAt Tryz.prog (fidOf fids) pf codeS (183, 429) := codedAt_of (a := ac429) rfl Tryz.func183 (by kernel_rfl) (by kernel_rfl)
theorem coded430 : CodedAt Tryz.prog (fidOf fids) pf codeS (184, 430) := codedAt_of (a := ac430) rfl Tryz.func184 (by kernel_rfl) (by kernel_rfl)
theorem coded431 : CodedAt Tryz.prog (fidOf fids) pf codeS (185, 431) := codedAt_of (a := ac431) rfl Tryz.func185 (by kernel_rfl) (by kernel_rfl)
theorem coded434 : CodedAt Tryz.prog (fidOf fids) pf codeS (188, 434) := codedAt_of (a := ac434) rfl Tryz.func188 (by kernel_rfl) (by kernel_rfl)
theorem coded435 : CodedAt Tryz.prog (fidOf fids) pf codeS (189, 435) := codedAt_of (a := ac435) rfl Tryz.func189 (by kernel_rfl) (by kernel_rfl)
theorem coded450 : CodedAt Tryz.prog (fidOf fids) pf codeS (3, 450) := codedAt_of (a := ac450) rfl Tryz.func3 (by kernel_rfl) (by kernel_rfl)
theorem coded454 : CodedAt Tryz.prog (fidOf fids) pf codeS (14, 454) := codedAt_of (a := ac454) rfl Tryz.func14 (by kernel_rfl) (by kernel_rfl)
theorem coded457 : CodedAt Tryz.prog (fidOf fids) pf codeS (34, 457) := codedAt_of (a := ac457) rfl Tryz.func34 (by kernel_rfl) (by kernel_rfl)
theorem coded459 : CodedAt Tryz.prog (fidOf fids) pf codeS (24, 459) := codedAt_of (a := ac459) rfl Tryz.func24 (by kernel_rfl) (by kernel_rfl)
theorem coded469 : CodedAt Tryz.prog (fidOf fids) pf codeS (6, 469) := codedAt_of (a := ac469) rfl Tryz.func6 (by kernel_rfl) (by kernel_rfl)
theorem coded470 : CodedAt Tryz.prog (fidOf fids) pf codeS (10, 470) := codedAt_of (a := ac470) rfl Tryz.func10 (by kernel_rfl) (by kernel_rfl)
theorem coded472 : CodedAt Tryz.prog (fidOf fids) pf codeS (7, 472) := codedAt_of (a := ac472) rfl Tryz.func7 (by kernel_rfl) (by kernel_rfl)
theorem coded477 : CodedAt Tryz.prog (fidOf fids) pf codeS (4, 477) := codedAt_of (a := ac477) rfl Tryz.func4 (by kernel_rfl) (by kernel_rfl)
theorem coded478 : CodedAt Tryz.prog (fidOf fids) pf codeS (5, 478) := codedAt_of (a := ac478) rfl Tryz.func5 (by kernel_rfl) (by kernel_rfl)
theorem coded481 : CodedAt Tryz.prog (fidOf fids) pf codeS (22, 481) := codedAt_of (a := ac481) rfl Tryz.func22 (by kernel_rfl) (by kernel_rfl)
theorem coded485 : CodedAt Tryz.prog (fidOf fids) pf codeS (20, 485) := codedAt_of (a := ac485) rfl Tryz.func20 (by kernel_rfl) (by kernel_rfl)
theorem coded486 : CodedAt Tryz.prog (fidOf fids) pf codeS (21, 486) := codedAt_of (a := ac486) rfl Tryz.func21 (by kernel_rfl) (by kernel_rfl)
theorem coded490 : CodedAt Tryz.prog (fidOf fids) pf codeS (56, 490) := codedAt_of (a := ac490) rfl Tryz.func56 (by kernel_rfl) (by kernel_rfl)
theorem coded491 : CodedAt Tryz.prog (fidOf fids) pf codeS (43, 491) := codedAt_of (a := ac491) rfl Tryz.func43 (by kernel_rfl) (by kernel_rfl)
theorem coded502 : CodedAt Tryz.prog (fidOf fids) pf codeS (8, 502) := codedAt_of (a := ac502) rfl Tryz.func8 (by kernel_rfl) (by kernel_rfl)
theorem coded503 : CodedAt Tryz.prog (fidOf fids) pf codeS (9, 503) := codedAt_of (a := ac503) rfl Tryz.func9 (by kernel_rfl) (by kernel_rfl)
theorem coded504 : CodedAt Tryz.prog (fidOf fids) pf codeS (11, 504) := codedAt_of (a := ac504) rfl Tryz.func11 (by kernel_rfl) (by kernel_rfl)
theorem coded505 : CodedAt Tryz.prog (fidOf fids) pf codeS (16, 505) := codedAt_of (a := ac505) rfl Tryz.func16 (by kernel_rfl) (by kernel_rfl)
theorem coded509 : CodedAt Tryz.prog (fidOf fids) pf codeS (41, 509) := codedAt_of (a := ac509) rfl Tryz.func41 (by kernel_rfl) (by kernel_rfl)
theorem coded513 : CodedAt Tryz.prog (fidOf fids) pf codeS (39, 513) := codedAt_of (a := ac513) rfl Tryz.func39 (by kernel_rfl) (by kernel_rfl)
theorem coded514 : CodedAt Tryz.prog (fidOf fids) pf codeS (40, 514) := codedAt_of (a := ac514) rfl Tryz.func40 (by kernel_rfl) (by kernel_rfl)
theorem coded517 : CodedAt Tryz.prog (fidOf fids) pf codeS (83, 517) := codedAt_of (a := ac517) rfl Tryz.func83 (by kernel_rfl) (by kernel_rfl)
theorem coded538 : CodedAt Tryz.prog (fidOf fids) pf codeS (73, 538) := codedAt_of (a := ac538) rfl Tryz.func73 (by kernel_rfl) (by kernel_rfl)
theorem coded548 : CodedAt Tryz.prog (fidOf fids) pf codeS (12, 548) := codedAt_of (a := ac548) rfl Tryz.func12 (by kernel_rfl) (by kernel_rfl)
theorem coded549 : CodedAt Tryz.prog (fidOf fids) pf codeS (13, 549) := codedAt_of (a := ac549) rfl Tryz.func13 (by kernel_rfl) (by kernel_rfl)
theorem coded550 : CodedAt Tryz.prog (fidOf fids) pf codeS (27, 550) := codedAt_of (a := ac550) rfl Tryz.func27 (by kernel_rfl) (by kernel_rfl)
theorem coded552 : CodedAt Tryz.prog (fidOf fids) pf codeS (29, 552) := codedAt_of (a := ac552) rfl Tryz.func29 (by kernel_rfl) (by kernel_rfl)
theorem coded553 : CodedAt Tryz.prog (fidOf fids) pf codeS (30, 553) := codedAt_of (a := ac553) rfl Tryz.func30 (by kernel_rfl) (by kernel_rfl)
theorem coded554 : CodedAt Tryz.prog (fidOf fids) pf codeS (32, 554) := codedAt_of (a := ac554) rfl Tryz.func32 (by kernel_rfl) (by kernel_rfl)
theorem coded555 : CodedAt Tryz.prog (fidOf fids) pf codeS (33, 555) := codedAt_of (a := ac555) rfl Tryz.func33 (by kernel_rfl) (by kernel_rfl)
theorem coded562 : CodedAt Tryz.prog (fidOf fids) pf codeS (57, 562) := codedAt_of (a := ac562) rfl Tryz.func57 (by kernel_rfl) (by kernel_rfl)
theorem coded563 : CodedAt Tryz.prog (fidOf fids) pf codeS (58, 563) := codedAt_of (a := ac563) rfl Tryz.func58 (by kernel_rfl) (by kernel_rfl)
theorem coded574 : CodedAt Tryz.prog (fidOf fids) pf codeS (100, 574) := codedAt_of (a := ac574) rfl Tryz.func100 (by kernel_rfl) (by kernel_rfl)
theorem coded575 : CodedAt Tryz.prog (fidOf fids) pf codeS (98, 575) := codedAt_of (a := ac575) rfl Tryz.func98 (by kernel_rfl) (by kernel_rfl)
theorem coded576 : CodedAt Tryz.prog (fidOf fids) pf codeS (99, 576) := codedAt_of (a := ac576) rfl Tryz.func99 (by kernel_rfl) (by kernel_rfl)
theorem coded579 : CodedAt Tryz.prog (fidOf fids) pf codeS (17, 579) := codedAt_of (a := ac579) rfl Tryz.func17 (by kernel_rfl) (by kernel_rfl)
theorem coded580 : CodedAt Tryz.prog (fidOf fids) pf codeS (18, 580) := codedAt_of (a := ac580) rfl Tryz.func18 (by kernel_rfl) (by kernel_rfl)
theorem coded581 : CodedAt Tryz.prog (fidOf fids) pf codeS (19, 581) := codedAt_of (a := ac581) rfl Tryz.func19 (by kernel_rfl) (by kernel_rfl)
theorem coded582 : CodedAt Tryz.prog (fidOf fids) pf codeS (52, 582) := codedAt_of (a := ac582) rfl Tryz.func52 (by kernel_rfl) (by kernel_rfl)
theorem coded583 : CodedAt Tryz.prog (fidOf fids) pf codeS (53, 583) := codedAt_of (a := ac583) rfl Tryz.func53 (by kernel_rfl) (by kernel_rfl)
theorem coded597 : CodedAt Tryz.prog (fidOf fids) pf codeS (88, 597) := codedAt_of (a := ac597) rfl Tryz.func88 (by kernel_rfl) (by kernel_rfl)
theorem coded598 : CodedAt Tryz.prog (fidOf fids) pf codeS (72, 598) := codedAt_of (a := ac598) rfl Tryz.func72 (by kernel_rfl) (by kernel_rfl)
theorem coded607 : CodedAt Tryz.prog (fidOf fids) pf codeS (115, 607) := codedAt_of (a := ac607) rfl Tryz.func115 (by kernel_rfl) (by kernel_rfl)
theorem coded608 : CodedAt Tryz.prog (fidOf fids) pf codeS (113, 608) := codedAt_of (a := ac608) rfl Tryz.func113 (by kernel_rfl) (by kernel_rfl)
theorem coded609 : CodedAt Tryz.prog (fidOf fids) pf codeS (114, 609) := codedAt_of (a := ac609) rfl Tryz.func114 (by kernel_rfl) (by kernel_rfl)
theorem coded610 : CodedAt Tryz.prog (fidOf fids) pf codeS (35, 610) := codedAt_of (a := ac610) rfl Tryz.func35 (by kernel_rfl) (by kernel_rfl)
theorem coded611 : CodedAt Tryz.prog (fidOf fids) pf codeS (36, 611) := codedAt_of (a := ac611) rfl Tryz.func36 (by kernel_rfl) (by kernel_rfl)
theorem coded612 : CodedAt Tryz.prog (fidOf fids) pf codeS (37, 612) := codedAt_of (a := ac612) rfl Tryz.func37 (by kernel_rfl) (by kernel_rfl)
theorem coded613 : CodedAt Tryz.prog (fidOf fids) pf codeS (68, 613) := codedAt_of (a := ac613) rfl Tryz.func68 (by kernel_rfl) (by kernel_rfl)
theorem coded614 : CodedAt Tryz.prog (fidOf fids) pf codeS (69, 614) := codedAt_of (a := ac614) rfl Tryz.func69 (by kernel_rfl) (by kernel_rfl)
theorem coded615 : CodedAt Tryz.prog (fidOf fids) pf codeS (70, 615) := codedAt_of (a := ac615) rfl Tryz.func70 (by kernel_rfl) (by kernel_rfl)
theorem coded616 : CodedAt Tryz.prog (fidOf fids) pf codeS (71, 616) := codedAt_of (a := ac616) rfl Tryz.func71 (by kernel_rfl) (by kernel_rfl)
theorem coded617 : CodedAt Tryz.prog (fidOf fids) pf codeS (74, 617) := codedAt_of (a := ac617) rfl Tryz.func74 (by kernel_rfl) (by kernel_rfl)
theorem coded624 : CodedAt Tryz.prog (fidOf fids) pf codeS (97, 624) := codedAt_of (a := ac624) rfl Tryz.func97 (by kernel_rfl) (by kernel_rfl)
theorem coded626 : CodedAt Tryz.prog (fidOf fids) pf codeS (128, 626) := codedAt_of (a := ac626) rfl Tryz.func128 (by kernel_rfl) (by kernel_rfl)
theorem coded627 : CodedAt Tryz.prog (fidOf fids) pf codeS (129, 627) := codedAt_of (a := ac627) rfl Tryz.func129 (by kernel_rfl) (by kernel_rfl)
theorem coded628 : CodedAt Tryz.prog (fidOf fids) pf codeS (130, 628) := codedAt_of (a := ac628) rfl Tryz.func130 (by kernel_rfl) (by kernel_rfl)
theorem coded629 : CodedAt Tryz.prog (fidOf fids) pf codeS (131, 629) := codedAt_of (a := ac629) rfl Tryz.func131 (by kernel_rfl) (by kernel_rfl)
theorem coded630 : CodedAt Tryz.prog (fidOf fids) pf codeS (123, 630) := codedAt_of (a := ac630) rfl Tryz.func123 (by kernel_rfl) (by kernel_rfl)
theorem coded631 : CodedAt Tryz.prog (fidOf fids) pf codeS (124, 631) := codedAt_of (a := ac631) rfl Tryz.func124 (by kernel_rfl) (by kernel_rfl)
theorem coded632 : CodedAt Tryz.prog (fidOf fids) pf codeS (125, 632) := codedAt_of (a := ac632) rfl Tryz.func125 (by kernel_rfl) (by kernel_rfl)
theorem coded633 : CodedAt Tryz.prog (fidOf fids) pf codeS (126, 633) := codedAt_of (a := ac633) rfl Tryz.func126 (by kernel_rfl) (by kernel_rfl)
theorem coded639 : CodedAt Tryz.prog (fidOf fids) pf codeS (147, 639) := codedAt_of (a := ac639) rfl Tryz.func147 (by kernel_rfl) (by kernel_rfl)
theorem coded640 : CodedAt Tryz.prog (fidOf fids) pf codeS (142, 640) := codedAt_of (a := ac640) rfl Tryz.func142 (by kernel_rfl) (by kernel_rfl)
theorem coded641 : CodedAt Tryz.prog (fidOf fids) pf codeS (143, 641) := codedAt_of (a := ac641) rfl Tryz.func143 (by kernel_rfl) (by kernel_rfl)
theorem coded642 : CodedAt Tryz.prog (fidOf fids) pf codeS (144, 642) := codedAt_of (a := ac642) rfl Tryz.func144 (by kernel_rfl) (by kernel_rfl)
theorem coded644 : CodedAt Tryz.prog (fidOf fids) pf codeS (158, 644) := codedAt_of (a := ac644) rfl Tryz.func158 (by kernel_rfl) (by kernel_rfl)
theorem coded645 : CodedAt Tryz.prog (fidOf fids) pf codeS (159, 645) := codedAt_of (a := ac645) rfl Tryz.func159 (by kernel_rfl) (by kernel_rfl)
theorem coded646 : CodedAt Tryz.prog (fidOf fids) pf codeS (160, 646) := codedAt_of (a := ac646) rfl Tryz.func160 (by kernel_rfl) (by kernel_rfl)
theorem coded648 : CodedAt Tryz.prog (fidOf fids) pf codeS (166, 648) := codedAt_of (a := ac648) rfl Tryz.func166 (by kernel_rfl) (by kernel_rfl)
theorem coded649 : CodedAt Tryz.prog (fidOf fids) pf codeS (169, 649) := codedAt_of (a := ac649) rfl Tryz.func169 (by kernel_rfl) (by kernel_rfl)
theorem coded650 : CodedAt Tryz.prog (fidOf fids) pf codeS (170, 650) := codedAt_of (a := ac650) rfl Tryz.func170 (by kernel_rfl) (by kernel_rfl)
theorem coded651 : CodedAt Tryz.prog (fidOf fids) pf codeS (175, 651) := codedAt_of (a := ac651) rfl Tryz.func175 (by kernel_rfl) (by kernel_rfl)
theorem coded652 : CodedAt Tryz.prog (fidOf fids) pf codeS (176, 652) := codedAt_of (a := ac652) rfl Tryz.func176 (by kernel_rfl) (by kernel_rfl)
theorem coded653 : CodedAt Tryz.prog (fidOf fids) pf codeS (177, 653) := codedAt_of (a := ac653) rfl Tryz.func177 (by kernel_rfl) (by kernel_rfl)
theorem coded654 : CodedAt Tryz.prog (fidOf fids) pf codeS (178, 654) := codedAt_of (a := ac654) rfl Tryz.func178 (by kernel_rfl) (by kernel_rfl)
theorem coded655 : CodedAt Tryz.prog (fidOf fids) pf codeS (179, 655) := codedAt_of (a := ac655) rfl Tryz.func179 (by kernel_rfl) (by kernel_rfl)
theorem coded656 : CodedAt Tryz.prog (fidOf fids) pf codeS (180, 656) := codedAt_of (a := ac656) rfl Tryz.func180 (by kernel_rfl) (by kernel_rfl)
theorem coded657 : CodedAt Tryz.prog (fidOf fids) pf codeS (186, 657) := codedAt_of (a := ac657) rfl Tryz.func186 (by kernel_rfl) (by kernel_rfl)
theorem coded658 : CodedAt Tryz.prog (fidOf fids) pf codeS (187, 658) := codedAt_of (a := ac658) rfl Tryz.func187 (by kernel_rfl) (by kernel_rfl)
theorem coded216 : CodedAt Tryz.prog (fidOf fids) pf codeS (82, 216) := bodied_of rfl Tryz.func82 rfl (by kernel_rfl)
theorem clone216 : CloneAt Tryz.prog (fidOf fids) pf 216 (11, 104) := fun g hg => by
  have h := fidOf_mem hg
  have e : g = 82 := by simpa [fids] using h
  subst e
  exact ⟨Tryz.f82, 22, 108, _, _, _, _, _, _, _, _, _, _, _, Tryz.func82, by kernel_rfl, rfl, rfl, rfl, by kernel_rfl, rfl, by kernel_rfl, rfl, rfl, rfl, by kernel_rfl, by kernel_rfl⟩
theorem coded518 : CodedAt Tryz.prog (fidOf fids) pf codeS (84, 518) := bodied_of rfl Tryz.func84 rfl (by kernel_rfl)
theorem clone518 : CloneAt Tryz.prog (fidOf fids) pf 518 (13, 168) := fun g hg => by
  have h := fidOf_mem hg
  have e : g = 84 := by simpa [fids] using h
  subst e
  exact ⟨Tryz.f84, 28, 43, _, _, _, _, _, _, _, _, _, _, _, Tryz.func84, by kernel_rfl, rfl, rfl, rfl, by kernel_rfl, rfl, by kernel_rfl, rfl, rfl, rfl, by kernel_rfl, by kernel_rfl⟩
theorem coded519 : CodedAt Tryz.prog (fidOf fids) pf codeS (86, 519) := bodied_of rfl Tryz.func86 rfl (by kernel_rfl)
theorem clone519 : CloneAt Tryz.prog (fidOf fids) pf 519 (17, 232) := fun g hg => by
  have h := fidOf_mem hg
  have e : g = 86 := by simpa [fids] using h
  subst e
  exact ⟨Tryz.f86, 29, 45, _, _, _, _, _, _, _, _, _, _, _, Tryz.func86, by kernel_rfl, rfl, rfl, rfl, by kernel_rfl, rfl, by kernel_rfl, rfl, rfl, rfl, by kernel_rfl, by kernel_rfl⟩
theorem coded520 : CodedAt Tryz.prog (fidOf fids) pf codeS (87, 520) := bodied_of rfl Tryz.func87 rfl (by kernel_rfl)
theorem clone520 : CloneAt Tryz.prog (fidOf fids) pf 520 (15, 208) := fun g hg => by
  have h := fidOf_mem hg
  have e : g = 87 := by simpa [fids] using h
  subst e
  exact ⟨Tryz.f87, 30, 32, _, _, _, _, _, _, _, _, _, _, _, Tryz.func87, by kernel_rfl, rfl, rfl, rfl, by kernel_rfl, rfl, by kernel_rfl, rfl, rfl, rfl, by kernel_rfl, by kernel_rfl⟩
theorem coded566 : CodedAt Tryz.prog (fidOf fids) pf codeS (106, 566) := bodied_of rfl Tryz.func106 rfl (by kernel_rfl)
theorem clone566 : CloneAt Tryz.prog (fidOf fids) pf 566 (6, 64) := fun g hg => by
  have h := fidOf_mem hg
  have e : g = 106 := by simpa [fids] using h
  subst e
  exact ⟨Tryz.f106, 25, 27, _, _, _, _, _, _, _, _, _, _, _, Tryz.func106, by kernel_rfl, rfl, rfl, rfl, by kernel_rfl, rfl, by kernel_rfl, rfl, rfl, rfl, by kernel_rfl, by kernel_rfl⟩
theorem coded214 : CodedAt Tryz.prog (fidOf fids) pf codeS (44, 214) := bodied_of rfl Tryz.func44 rfl (by kernel_rfl)
theorem clone214 : CloneAt Tryz.prog (fidOf fids) pf 214 (1, 16) := fun g hg => by
  have h := fidOf_mem hg
  have e : g = 44 := by simpa [fids] using h
  subst e
  exact ⟨Tryz.f44, 95, 9, _, _, _, _, _, _, _, _, _, _, _, Tryz.func44, by kernel_rfl, rfl, rfl, rfl, by kernel_rfl, rfl, by kernel_rfl, rfl, rfl, rfl, by kernel_rfl, by kernel_rfl⟩
theorem coded130 : CodedAt Tryz.prog (fidOf fids) pf codeS (101, 130) := bodied_of rfl Tryz.func101 rfl (by kernel_rfl)
theorem clone130 : CloneAt Tryz.prog (fidOf fids) pf 130 (14, 184) := fun g hg => by
  have h := fidOf_mem hg
  have e : g = 101 := by simpa [fids] using h
  subst e
  exact ⟨Tryz.f101, 41, 56, _, _, _, _, _, _, _, _, _, _, _, Tryz.func101, by kernel_rfl, rfl, rfl, rfl, by kernel_rfl, rfl, by kernel_rfl, rfl, rfl, rfl, by kernel_rfl, by kernel_rfl⟩
theorem coded62 : CodedAt Tryz.prog (fidOf fids) pf codeS (105, 62) := bodied_of rfl Tryz.func105 rfl (by kernel_rfl)
theorem clone62 : CloneAt Tryz.prog (fidOf fids) pf 62 (1, 1) := fun g hg => by
  have h := fidOf_mem hg
  have e : g = 105 := by simpa [fids] using h
  subst e
  exact ⟨Tryz.f105, 40, 5, _, _, _, _, _, _, _, _, _, _, _, Tryz.func105, by kernel_rfl, rfl, rfl, rfl, by kernel_rfl, rfl, by kernel_rfl, rfl, rfl, rfl, by kernel_rfl, by kernel_rfl⟩
theorem coded551 : CodedAt Tryz.prog (fidOf fids) pf codeS (28, 551) := bodied_of rfl Tryz.func28 rfl (by kernel_rfl)
theorem coded272 : CodedAt Tryz.prog (fidOf fids) pf codeS (118, 272) := bodied_of rfl Tryz.func118 rfl (by kernel_rfl)
theorem ctxOk0 : CtxOk Tryz.prog (fidOf fids) pf (mkCtx codeS clRS clPS) := ctxOk_of (by
  intro p hp
  simp only [fids, List.mem_cons, List.not_mem_nil, or_false] at hp
  rcases hp with rfl | rfl | rfl | rfl | rfl | rfl | rfl | rfl | rfl | rfl | rfl | rfl | rfl | rfl | rfl | rfl | rfl | rfl | rfl | rfl | rfl | rfl | rfl | rfl | rfl | rfl | rfl | rfl | rfl | rfl | rfl | rfl | rfl | rfl | rfl | rfl | rfl | rfl | rfl | rfl | rfl | rfl | rfl | rfl | rfl | rfl | rfl | rfl | rfl | rfl | rfl | rfl | rfl | rfl | rfl | rfl | rfl | rfl | rfl | rfl | rfl | rfl | rfl | rfl | rfl | rfl | rfl | rfl | rfl | rfl | rfl | rfl | rfl | rfl | rfl | rfl | rfl | rfl | rfl | rfl | rfl | rfl | rfl | rfl | rfl | rfl | rfl | rfl | rfl | rfl | rfl | rfl | rfl | rfl | rfl | rfl | rfl | rfl | rfl | rfl | rfl | rfl | rfl | rfl | rfl | rfl | rfl | rfl | rfl | rfl | rfl | rfl | rfl | rfl | rfl | rfl | rfl | rfl | rfl | rfl | rfl | rfl | rfl | rfl | rfl | rfl | rfl | rfl | rfl | rfl | rfl | rfl | rfl | rfl | rfl | rfl | rfl | rfl | rfl | rfl | rfl | rfl | rfl | rfl | rfl | rfl | rfl | rfl | rfl | rfl | rfl | rfl | rfl | rfl | rfl | rfl | rfl | rfl | rfl | rfl | rfl | rfl | rfl | rfl | rfl | rfl | rfl | rfl | rfl
  · exact coded26
  · exact coded45
  · exact coded46
  · exact coded61
  · exact coded63
  · exact coded73
  · exact coded84
  · exact coded90
  · exact coded94
  · exact coded95
  · exact coded96
  · exact coded126
  · exact coded133
  · exact coded139
  · exact coded140
  · exact coded141
  · exact coded142
  · exact coded148
  · exact coded149
  · exact coded150
  · exact coded151
  · exact coded155
  · exact coded158
  · exact coded162
  · exact coded167
  · exact coded229
  · exact coded235
  · exact coded239
  · exact coded250
  · exact coded251
  · exact coded254
  · exact coded257
  · exact coded262
  · exact coded263
  · exact coded264
  · exact coded265
  · exact coded266
  · exact coded267
  · exact coded268
  · exact coded269
  · exact coded270
  · exact coded273
  · exact coded274
  · exact coded275
  · exact coded285
  · exact coded286
  · exact coded287
  · exact coded291
  · exact coded292
  · exact coded293
  · exact coded295
  · exact coded296
  · exact coded297
  · exact coded298
  · exact coded299
  · exact coded300
  · exact coded301
  · exact coded302
  · exact coded303
  · exact coded304
  · exact coded306
  · exact coded307
  · exact coded358
  · exact coded371
  · exact coded377
  · exact coded378
  · exact coded395
  · exact coded396
  · exact coded404
  · exact coded419
  · exact coded420
  · exact coded421
  · exact coded422
  · exact coded428
  · exact coded429
  · exact coded430
  · exact coded431
  · exact coded434
  · exact coded435
  · exact coded450
  · exact coded454
  · exact coded457
  · exact coded459
  · exact coded469
  · exact coded470
  · exact coded472
  · exact coded477
  · exact coded478
  · exact coded481
  · exact coded485
  · exact coded486
  · exact coded490
  · exact coded491
  · exact coded502
  · exact coded503
  · exact coded504
  · exact coded505
  · exact coded509
  · exact coded513
  · exact coded514
  · exact coded517
  · exact coded538
  · exact coded548
  · exact coded549
  · exact coded550
  · exact coded552
  · exact coded553
  · exact coded554
  · exact coded555
  · exact coded562
  · exact coded563
  · exact coded574
  · exact coded575
  · exact coded576
  · exact coded579
  · exact coded580
  · exact coded581
  · exact coded582
  · exact coded583
  · exact coded597
  · exact coded598
  · exact coded607
  · exact coded608
  · exact coded609
  · exact coded610
  · exact coded611
  · exact coded612
  · exact coded613
  · exact coded614
  · exact coded615
  · exact coded616
  · exact coded617
  · exact coded624
  · exact coded626
  · exact coded627
  · exact coded628
  · exact coded629
  · exact coded630
  · exact coded631
  · exact coded632
  · exact coded633
  · exact coded639
  · exact coded640
  · exact coded641
  · exact coded642
  · exact coded644
  · exact coded645
  · exact coded646
  · exact coded648
  · exact coded649
  · exact coded650
  · exact coded651
  · exact coded652
  · exact coded653
  · exact coded654
  · exact coded655
  · exact coded656
  · exact coded657
  · exact coded658
  · exact coded216
  · exact coded518
  · exact coded519
  · exact coded520
  · exact coded566
  · exact coded214
  · exact coded130
  · exact coded62
  · exact coded551
  · exact coded272) (fun f p h => by
  unfold clRS at h
  split at h
  · cases h
    exact ⟨rfl, clone216⟩
  · cases h
    exact ⟨rfl, clone518⟩
  · cases h
    exact ⟨rfl, clone519⟩
  · cases h
    exact ⟨rfl, clone520⟩
  · cases h
    exact ⟨rfl, clone566⟩
  · cases h
    exact ⟨rfl, clone214⟩
  · cases h
    exact ⟨rfl, clone130⟩
  · cases h) (fun f p h => by
  unfold clPS at h
  split at h
  · cases h
    exact ⟨rfl, clone62⟩
  · cases h)
theorem ctxOk : CtxOk Tryz.prog (fidOf fids) pf CS := extCtx_ok ctxOk0 (fun f h => by
    have e : f = 272 := by simpa [csQ] using h
    subst e
    refine ⟨rfl, fun g hg => ?_, rfl, fun ts v h => ?_⟩
    · exact by
        have h := fidOf_mem hg
        have e : g = 118 := by simpa [fids] using h
        subst e
        exact ⟨_, Tryz.lays213, rfl⟩
    · obtain ⟨p, l, h, _⟩ := h
      cases h)
  (fun f h => by
    have e : f = 551 := by simpa [lnQ] using h
    subst e
    refine ⟨rfl, fun g hg s w => ?_, rfl, fun ts v h => ?_⟩
    · exact by
        have h := fidOf_mem hg
        have e : g = 28 := by simpa [fids] using h
        subst e
        exact len_walk s w
    · obtain ⟨p, l, h, _⟩ := h
      cases h)
  (fun f h => by
    have e : f = 510 := by simpa [ssQ] using h
    subst e
    refine ⟨rfl, fun g hg => ?_, fun a H v H' h => ?_⟩
    · exact by
        have h := fidOf_mem hg
        simp [fids] at h
    · obtain ⟨p, x, h, _⟩ := h
      cases h)
end Go.Proofs.YtbaojellfboifaaGreatDoor
