/- The functions of the program, compiled, are the table's. -/
import Derived.Test.YtaaolmjbpebclaaGreatDoorRows
import Derived.Test.YtaaolmjbpebclaaGreatDoorMachD
import Derived.Test.YtaaolmjbpebclaaGreatDoorMachH
import Derived.Test.YtaaolmjbpebclaaGreatDoorCode
import Derived.Test.YtaaolmjbpebclaaGreatDoorShelf
set_option linter.unusedSimpArgs false
set_option linter.unusedVariables false
set_option maxRecDepth 100000
namespace Go.Proofs.YtaaolmjbpebclaaGreatDoor
open Ago
def fids : List (Nat × Nat) := [(39, 18), (59, 26), (128, 29), (66, 38), (88, 45), (35, 46), (62, 63), (50, 73), (98, 84), (124, 94), (125, 95), (126, 96), (79, 123), (75, 124), (30, 126), (104, 128), (105, 129), (52, 133), (130, 136), (132, 138), (82, 139), (83, 140), (84, 141), (85, 142), (155, 143), (141, 148), (110, 149), (111, 150), (112, 151), (165, 155), (140, 158), (162, 162), (180, 167), (120, 229), (148, 250), (60, 254), (119, 257), (174, 262), (89, 265), (90, 266), (91, 267), (92, 268), (93, 269), (94, 270), (117, 274), (118, 275), (146, 287), (171, 292), (172, 293), (135, 298), (109, 300), (186, 301), (193, 307), (38, 357), (107, 358), (164, 371), (65, 376), (133, 377), (134, 378), (181, 395), (160, 396), (190, 404), (197, 419), (198, 420), (199, 421), (200, 422), (203, 428), (204, 429), (205, 430), (206, 431), (213, 434), (214, 435), (3, 452), (21, 454), (10, 456), (97, 457), (36, 459), (37, 461), (19, 462), (20, 464), (22, 466), (6, 474), (4, 480), (5, 481), (7, 482), (8, 483), (9, 484), (33, 485), (34, 486), (18, 489), (123, 490), (14, 491), (64, 494), (29, 495), (31, 497), (32, 498), (13, 507), (11, 508), (12, 509), (16, 511), (17, 512), (61, 513), (25, 514), (24, 515), (151, 517), (28, 521), (99, 522), (100, 523), (101, 524), (51, 525), (129, 529), (53, 533), (54, 534), (55, 535), (56, 536), (57, 537), (58, 538), (23, 560), (95, 562), (96, 563), (127, 567), (73, 568), (74, 569), (76, 570), (77, 571), (78, 572), (80, 573), (81, 574), (86, 575), (87, 576), (121, 597), (122, 598), (103, 605), (106, 606), (108, 607), (113, 608), (114, 609), (149, 624), (136, 626), (137, 627), (138, 628), (139, 629), (142, 630), (143, 631), (144, 632), (145, 633), (163, 639), (168, 640), (169, 641), (170, 642), (183, 644), (184, 645), (185, 646), (192, 648), (201, 649), (202, 650), (207, 651), (208, 652), (209, 653), (210, 654), (211, 655), (212, 656), (215, 657), (216, 658), (150, 216), (152, 518), (153, 519), (154, 520), (175, 566), (63, 214), (116, 130), (115, 62), (147, 272), (15, 510)]
def pf (f : Nat) : Bool := !([130, 133, 143, 214, 216, 265, 267, 268, 269, 270, 274, 275, 287, 292, 293, 298, 300, 301, 307, 485, 491, 510, 511, 518, 519, 520, 533, 566, 568, 575, 576, 605, 608, 609, 627, 630, 631, 632, 633, 640, 641, 642, 646] : List Nat).contains f
theorem coded18 : CodedAt Tryz.prog (fidOf fids) pf codeS (39, 18) := codedAt_of (a := ac18) rfl Tryz.func39 (by kernel_rfl) (by kernel_rfl)
theorem coded26 : CodedAt Tryz.prog (fidOf fids) pf codeS (59, 26) := codedAt_of (a := ac26) rfl Tryz.func59 (by kernel_rfl) (by kernel_rfl)
theorem coded29 : CodedAt Tryz.prog (fidOf fids) pf codeS (128, 29) := codedAt_of (a := ac29) rfl Tryz.func128 (by kernel_rfl) (by kernel_rfl)
theorem coded38 : CodedAt Tryz.prog (fidOf fids) pf codeS (66, 38) := codedAt_of (a := ac38) rfl Tryz.func66 (by kernel_rfl) (by kernel_rfl)
theorem coded45 : CodedAt Tryz.prog (fidOf fids) pf codeS (88, 45) := codedAt_of (a := ac45) rfl Tryz.func88 (by kernel_rfl) (by kernel_rfl)
theorem coded46 : CodedAt Tryz.prog (fidOf fids) pf codeS (35, 46) := codedAt_of (a := ac46) rfl Tryz.func35 (by kernel_rfl) (by kernel_rfl)
theorem coded63 : CodedAt Tryz.prog (fidOf fids) pf codeS (62, 63) := codedAt_of (a := ac63) rfl Tryz.func62 (by kernel_rfl) (by kernel_rfl)
theorem coded73 : CodedAt Tryz.prog (fidOf fids) pf codeS (50, 73) := codedAt_of (a := ac73) rfl Tryz.func50 (by kernel_rfl) (by kernel_rfl)
theorem coded84 : CodedAt Tryz.prog (fidOf fids) pf codeS (98, 84) := codedAt_of (a := ac84) rfl Tryz.func98 (by kernel_rfl) (by kernel_rfl)
theorem coded94 : CodedAt Tryz.prog (fidOf fids) pf codeS (124, 94) := codedAt_of (a := ac94) rfl Tryz.func124 (by kernel_rfl) (by kernel_rfl)
theorem coded95 : CodedAt Tryz.prog (fidOf fids) pf codeS (125, 95) := codedAt_of (a := ac95) rfl Tryz.func125 (by kernel_rfl) (by kernel_rfl)
theorem coded96 : CodedAt Tryz.prog (fidOf fids) pf codeS (126, 96) := codedAt_of (a := ac96) rfl Tryz.func126 (by kernel_rfl) (by kernel_rfl)
theorem coded123 : CodedAt Tryz.prog (fidOf fids) pf codeS (79, 123) := codedAt_of (a := ac123) rfl Tryz.func79 (by kernel_rfl) (by kernel_rfl)
theorem coded124 : CodedAt Tryz.prog (fidOf fids) pf codeS (75, 124) := codedAt_of (a := ac124) rfl Tryz.func75 (by kernel_rfl) (by kernel_rfl)
theorem coded126 : CodedAt Tryz.prog (fidOf fids) pf codeS (30, 126) := codedAt_of (a := ac126) rfl Tryz.func30 (by kernel_rfl) (by kernel_rfl)
theorem coded128 : CodedAt Tryz.prog (fidOf fids) pf codeS (104, 128) := codedAt_of (a := ac128) rfl Tryz.func104 (by kernel_rfl) (by kernel_rfl)
theorem coded129 : CodedAt Tryz.prog (fidOf fids) pf codeS (105, 129) := codedAt_of (a := ac129) rfl Tryz.func105 (by kernel_rfl) (by kernel_rfl)
theorem coded133 : CodedAt Tryz.prog (fidOf fids) pf codeS (52, 133) := codedAt_of (a := ac133) rfl Tryz.func52 (by kernel_rfl) (by kernel_rfl)
theorem coded136 : CodedAt Tryz.prog (fidOf fids) pf codeS (130, 136) := codedAt_of (a := ac136) rfl Tryz.func130 (by kernel_rfl) (by kernel_rfl)
theorem coded138 : CodedAt Tryz.prog (fidOf fids) pf codeS (132, 138) := codedAt_of (a := ac138) rfl Tryz.func132 (by kernel_rfl) (by kernel_rfl)
theorem coded139 : CodedAt Tryz.prog (fidOf fids) pf codeS (82, 139) := codedAt_of (a := ac139) rfl Tryz.func82 (by kernel_rfl) (by kernel_rfl)
theorem coded140 : CodedAt Tryz.prog (fidOf fids) pf codeS (83, 140) := codedAt_of (a := ac140) rfl Tryz.func83 (by kernel_rfl) (by kernel_rfl)
theorem coded141 : CodedAt Tryz.prog (fidOf fids) pf codeS (84, 141) := codedAt_of (a := ac141) rfl Tryz.func84 (by kernel_rfl) (by kernel_rfl)
theorem coded142 : CodedAt Tryz.prog (fidOf fids) pf codeS (85, 142) := codedAt_of (a := ac142) rfl Tryz.func85 (by kernel_rfl) (by kernel_rfl)
theorem coded143 : CodedAt Tryz.prog (fidOf fids) pf codeS (155, 143) := codedAt_of (a := ac143) rfl Tryz.func155 (by kernel_rfl) (by kernel_rfl)
theorem coded148 : CodedAt Tryz.prog (fidOf fids) pf codeS (141, 148) := codedAt_of (a := ac148) rfl Tryz.func141 (by kernel_rfl) (by kernel_rfl)
theorem coded149 : CodedAt Tryz.prog (fidOf fids) pf codeS (110, 149) := codedAt_of (a := ac149) rfl Tryz.func110 (by kernel_rfl) (by kernel_rfl)
theorem coded150 : CodedAt Tryz.prog (fidOf fids) pf codeS (111, 150) := codedAt_of (a := ac150) rfl Tryz.func111 (by kernel_rfl) (by kernel_rfl)
theorem coded151 : CodedAt Tryz.prog (fidOf fids) pf codeS (112, 151) := codedAt_of (a := ac151) rfl Tryz.func112 (by kernel_rfl) (by kernel_rfl)
theorem coded155 : CodedAt Tryz.prog (fidOf fids) pf codeS (165, 155) := codedAt_of (a := ac155) rfl Tryz.func165 (by kernel_rfl) (by kernel_rfl)
theorem coded158 : CodedAt Tryz.prog (fidOf fids) pf codeS (140, 158) := codedAt_of (a := ac158) rfl Tryz.func140 (by kernel_rfl) (by kernel_rfl)
theorem coded162 : CodedAt Tryz.prog (fidOf fids) pf codeS (162, 162) := codedAt_of (a := ac162) rfl Tryz.func162 (by kernel_rfl) (by kernel_rfl)
theorem coded167 : CodedAt Tryz.prog (fidOf fids) pf codeS (180, 167) := codedAt_of (a := ac167) rfl Tryz.func180 (by kernel_rfl) (by kernel_rfl)
theorem coded229 : CodedAt Tryz.prog (fidOf fids) pf codeS (120, 229) := codedAt_of (a := ac229) rfl Tryz.func120 (by kernel_rfl) (by kernel_rfl)
theorem coded250 : CodedAt Tryz.prog (fidOf fids) pf codeS (148, 250) := codedAt_of (a := ac250) rfl Tryz.func148 (by kernel_rfl) (by kernel_rfl)
theorem coded254 : CodedAt Tryz.prog (fidOf fids) pf codeS (60, 254) := codedAt_of (a := ac254) rfl Tryz.func60 (by kernel_rfl) (by kernel_rfl)
theorem coded257 : CodedAt Tryz.prog (fidOf fids) pf codeS (119, 257) := codedAt_of (a := ac257) rfl Tryz.func119 (by kernel_rfl) (by kernel_rfl)
theorem coded262 : CodedAt Tryz.prog (fidOf fids) pf codeS (174, 262) := codedAt_of (a := ac262) rfl Tryz.func174 (by kernel_rfl) (by kernel_rfl)
theorem coded265 : CodedAt Tryz.prog (fidOf fids) pf codeS (89, 265) := codedAt_of (a := ac265) rfl Tryz.func89 (by kernel_rfl) (by kernel_rfl)
theorem coded266 : CodedAt Tryz.prog (fidOf fids) pf codeS (90, 266) := codedAt_of (a := ac266) rfl Tryz.func90 (by kernel_rfl) (by kernel_rfl)
theorem coded267 : CodedAt Tryz.prog (fidOf fids) pf codeS (91, 267) := codedAt_of (a := ac267) rfl Tryz.func91 (by kernel_rfl) (by kernel_rfl)
theorem coded268 : CodedAt Tryz.prog (fidOf fids) pf codeS (92, 268) := codedAt_of (a := ac268) rfl Tryz.func92 (by kernel_rfl) (by kernel_rfl)
theorem coded269 : CodedAt Tryz.prog (fidOf fids) pf codeS (93, 269) := codedAt_of (a := ac269) rfl Tryz.func93 (by kernel_rfl) (by kernel_rfl)
theorem coded270 : CodedAt Tryz.prog (fidOf fids) pf codeS (94, 270) := codedAt_of (a := ac270) rfl Tryz.func94 (by kernel_rfl) (by kernel_rfl)
theorem coded274 : CodedAt Tryz.prog (fidOf fids) pf codeS (117, 274) := codedAt_of (a := ac274) rfl Tryz.func117 (by kernel_rfl) (by kernel_rfl)
theorem coded275 : CodedAt Tryz.prog (fidOf fids) pf codeS (118, 275) := codedAt_of (a := ac275) rfl Tryz.func118 (by kernel_rfl) (by kernel_rfl)
theorem coded287 : CodedAt Tryz.prog (fidOf fids) pf codeS (146, 287) := codedAt_of (a := ac287) rfl Tryz.func146 (by kernel_rfl) (by kernel_rfl)
theorem coded292 : CodedAt Tryz.prog (fidOf fids) pf codeS (171, 292) := codedAt_of (a := ac292) rfl Tryz.func171 (by kernel_rfl) (by kernel_rfl)
theorem coded293 : CodedAt Tryz.prog (fidOf fids) pf codeS (172, 293) := codedAt_of (a := ac293) rfl Tryz.func172 (by kernel_rfl) (by kernel_rfl)
theorem coded298 : CodedAt Tryz.prog (fidOf fids) pf codeS (135, 298) := codedAt_of (a := ac298) rfl Tryz.func135 (by kernel_rfl) (by kernel_rfl)
theorem coded300 : CodedAt Tryz.prog (fidOf fids) pf codeS (109, 300) := codedAt_of (a := ac300) rfl Tryz.func109 (by kernel_rfl) (by kernel_rfl)
theorem coded301 : CodedAt Tryz.prog (fidOf fids) pf codeS (186, 301) := codedAt_of (a := ac301) rfl Tryz.func186 (by kernel_rfl) (by kernel_rfl)
theorem coded307 : CodedAt Tryz.prog (fidOf fids) pf codeS (193, 307) := codedAt_of (a := ac307) rfl Tryz.func193 (by kernel_rfl) (by kernel_rfl)
theorem coded357 : CodedAt Tryz.prog (fidOf fids) pf codeS (38, 357) := codedAt_of (a := ac357) rfl Tryz.func38 (by kernel_rfl) (by kernel_rfl)
theorem coded358 : CodedAt Tryz.prog (fidOf fids) pf codeS (107, 358) := codedAt_of (a := ac358) rfl Tryz.func107 (by kernel_rfl) (by kernel_rfl)
theorem coded371 : CodedAt Tryz.prog (fidOf fids) pf codeS (164, 371) := codedAt_of (a := ac371) rfl Tryz.func164 (by kernel_rfl) (by kernel_rfl)
theorem coded376 : CodedAt Tryz.prog (fidOf fids) pf codeS (65, 376) := codedAt_of (a := ac376) rfl Tryz.func65 (by kernel_rfl) (by kernel_rfl)
theorem coded377 : CodedAt Tryz.prog (fidOf fids) pf codeS (133, 377) := codedAt_of (a := ac377) rfl Tryz.func133 (by kernel_rfl) (by kernel_rfl)
theorem coded378 : CodedAt Tryz.prog (fidOf fids) pf codeS (134, 378) := codedAt_of (a := ac378) rfl Tryz.func134 (by kernel_rfl) (by kernel_rfl)
theorem coded395 : CodedAt Tryz.prog (fidOf fids) pf codeS (181, 395) := codedAt_of (a := ac395) rfl Tryz.func181 (by kernel_rfl) (by kernel_rfl)
theorem coded396 : CodedAt Tryz.prog (fidOf fids) pf codeS (160, 396) := codedAt_of (a := ac396) rfl Tryz.func160 (by kernel_rfl) (by kernel_rfl)
theorem coded404 : CodedAt Tryz.prog (fidOf fids) pf codeS (190, 404) := codedAt_of (a := ac404) rfl Tryz.func190 (by kernel_rfl) (by kernel_rfl)
theorem coded419 : CodedAt Tryz.prog (fidOf fids) pf codeS (197, 419) := codedAt_of (a := ac419) rfl Tryz.func197 (by kernel_rfl) (by kernel_rfl)
theorem coded420 : CodedAt Tryz.prog (fidOf fids) pf codeS (198, 420) := codedAt_of (a := ac420) rfl Tryz.func198 (by kernel_rfl) (by kernel_rfl)
theorem coded421 : CodedAt Tryz.prog (fidOf fids) pf codeS (199, 421) := codedAt_of (a := ac421) rfl Tryz.func199 (by kernel_rfl) (by kernel_rfl)
theorem coded422 : CodedAt Tryz.prog (fidOf fids) pf codeS (200, 422) := codedAt_of (a := ac422) rfl Tryz.func200 (by kernel_rfl) (by kernel_rfl)
theorem coded428 : CodedAt Tryz.prog (fidOf fids) pf codeS (203, 428) := codedAt_of (a := ac428) rfl Tryz.func203 (by kernel_rfl) (by kernel_rfl)
theorem coded429 : CodedAt Tryz.prog (fidOf fids) pf codeS (204, 429) := codedAt_of (a := ac429) rfl Tryz.func204 (by kernel_rfl) (by kernel_rfl)
theorem coded430 : CodedAt Tryz.prog (fidOf fids) pf codeS (205, 430) := codedAt_of (a := ac430) rfl Tryz.func205 (by kernel_rfl) (by kernel_rfl)
theorem coded431 : CodedAt Tryz.prog (fidOf fids) pf codeS (206, 431) := codedAt_of (a := ac431) rfl Tryz.func206 (by kernel_rfl) (by kernel_rfl)
theorem coded434 : CodedAt Tryz.prog (fidOf fids) pf codeS (213, 434) := codedAt_of (a := ac434) rfl Tryz.func213 (by kernel_rfl) (by kernel_rfl)
theorem coded435 : CodedAt Tryz.prog (fidOf fids) pf codeS (214, 435) := codedAt_of (a := ac435) rfl Tryz.func214 (by kernel_rfl) (by kernel_rfl)
theorem coded452 : CodedAt Tryz.prog (fidOf fids) pf codeS (3, 452) := codedAt_of (a := ac452) rfl Tryz.func3 (by kernel_rfl) (by kernel_rfl)
theorem coded454 : CodedAt Tryz.prog (fidOf fids) pf codeS (21, 454) := codedAt_of (a := ac454) rfl Tryz.func21 (by kernel_rfl) (by kernel_rfl)
theorem coded456 : CodedAt Tryz.prog (fidOf fids) pf codeS (10, 456) := codedAt_of (a := ac456) rfl Tryz.func10 (by kernel_rfl) (by kernel_rfl)
theorem coded457 : CodedAt Tryz.prog (fidOf fids) pf codeS (97, 457) := codedAt_of (a := ac457) rfl Tryz.func97 (by kernel_rfl) (by kernel_rfl)
theorem coded459 : CodedAt Tryz.prog (fidOf fids) pf codeS (36, 459) := codedAt_of (a := ac459) rfl Tryz.func36 (by kernel_rfl) (by kernel_rfl)
theorem coded461 : CodedAt Tryz.prog (fidOf fids) pf codeS (37, 461) := codedAt_of (a := ac461) rfl Tryz.func37 (by kernel_rfl) (by kernel_rfl)
theorem coded462 : CodedAt Tryz.prog (fidOf fids) pf codeS (19, 462) := codedAt_of (a := ac462) rfl Tryz.func19 (by kernel_rfl) (by kernel_rfl)
theorem coded464 : CodedAt Tryz.prog (fidOf fids) pf codeS (20, 464) := codedAt_of (a := ac464) rfl Tryz.func20 (by kernel_rfl) (by kernel_rfl)
theorem coded466 : CodedAt Tryz.prog (fidOf fids) pf codeS (22, 466) := codedAt_of (a := ac466) rfl Tryz.func22 (by kernel_rfl) (by kernel_rfl)
theorem coded474 : CodedAt Tryz.prog (fidOf fids) pf codeS (6, 474) := codedAt_of (a := ac474) rfl Tryz.func6 (by kernel_rfl) (by kernel_rfl)
theorem coded480 : CodedAt Tryz.prog (fidOf fids) pf codeS (4, 480) := codedAt_of (a := ac480) rfl Tryz.func4 (by kernel_rfl) (by kernel_rfl)
theorem coded481 : CodedAt Tryz.prog (fidOf fids) pf codeS (5, 481) := codedAt_of (a := ac481) rfl Tryz.func5 (by kernel_rfl) (by kernel_rfl)
theorem coded482 : CodedAt Tryz.prog (fidOf fids) pf codeS (7, 482) := codedAt_of (a := ac482) rfl Tryz.func7 (by kernel_rfl) (by kernel_rfl)
theorem coded483 : CodedAt Tryz.prog (fidOf fids) pf codeS (8, 483) := codedAt_of (a := ac483) rfl Tryz.func8 (by kernel_rfl) (by kernel_rfl)
theorem coded484 : CodedAt Tryz.prog (fidOf fids) pf codeS (9, 484) := codedAt_of (a := ac484) rfl Tryz.func9 (by kernel_rfl) (by kernel_rfl)
theorem coded485 : CodedAt Tryz.prog (fidOf fids) pf codeS (33, 485) := codedAt_of (a := ac485) rfl Tryz.func33 (by kernel_rfl) (by kernel_rfl)
theorem coded486 : CodedAt Tryz.prog (fidOf fids) pf codeS (34, 486) := codedAt_of (a := ac486) rfl Tryz.func34 (by kernel_rfl) (by kernel_rfl)
theorem coded489 : CodedAt Tryz.prog (fidOf fids) pf codeS (18, 489) := codedAt_of (a := ac489) rfl Tryz.func18 (by kernel_rfl) (by kernel_rfl)
theorem coded490 : CodedAt Tryz.prog (fidOf fids) pf codeS (123, 490) := codedAt_of (a := ac490) rfl Tryz.func123 (by kernel_rfl) (by kernel_rfl)
theorem coded491 : CodedAt Tryz.prog (fidOf fids) pf codeS (14, 491) := codedAt_of (a := ac491) rfl Tryz.func14 (by kernel_rfl) (by kernel_rfl)
theorem coded494 : CodedAt Tryz.prog (fidOf fids) pf codeS (64, 494) := codedAt_of (a := ac494) rfl Tryz.func64 (by kernel_rfl) (by kernel_rfl)
theorem coded495 : CodedAt Tryz.prog (fidOf fids) pf codeS (29, 495) := codedAt_of (a := ac495) rfl Tryz.func29 (by kernel_rfl) (by kernel_rfl)
theorem coded497 : CodedAt Tryz.prog (fidOf fids) pf codeS (31, 497) := codedAt_of (a := ac497) rfl Tryz.func31 (by kernel_rfl) (by kernel_rfl)
theorem coded498 : CodedAt Tryz.prog (fidOf fids) pf codeS (32, 498) := codedAt_of (a := ac498) rfl Tryz.func32 (by kernel_rfl) (by kernel_rfl)
theorem coded507 : CodedAt Tryz.prog (fidOf fids) pf codeS (13, 507) := codedAt_of (a := ac507) rfl Tryz.func13 (by kernel_rfl) (by kernel_rfl)
theorem coded508 : CodedAt Tryz.prog (fidOf fids) pf codeS (11, 508) := codedAt_of (a := ac508) rfl Tryz.func11 (by kernel_rfl) (by kernel_rfl)
theorem coded509 : CodedAt Tryz.prog (fidOf fids) pf codeS (12, 509) := codedAt_of (a := ac509) rfl Tryz.func12 (by kernel_rfl) (by kernel_rfl)
theorem coded511 : CodedAt Tryz.prog (fidOf fids) pf codeS (16, 511) := codedAt_of (a := ac511) rfl Tryz.func16 (by kernel_rfl) (by kernel_rfl)
theorem coded512 : CodedAt Tryz.prog (fidOf fids) pf codeS (17, 512) := codedAt_of (a := ac512) rfl Tryz.func17 (by kernel_rfl) (by kernel_rfl)
theorem coded513 : CodedAt Tryz.prog (fidOf fids) pf codeS (61, 513) := codedAt_of (a := ac513) rfl Tryz.func61 (by kernel_rfl) (by kernel_rfl)
theorem coded514 : CodedAt Tryz.prog (fidOf fids) pf codeS (25, 514) := codedAt_of (a := ac514) rfl Tryz.func25 (by kernel_rfl) (by kernel_rfl)
theorem coded515 : CodedAt Tryz.prog (fidOf fids) pf codeS (24, 515) := codedAt_of (a := ac515) rfl Tryz.func24 (by kernel_rfl) (by kernel_rfl)
theorem coded517 : CodedAt Tryz.prog (fidOf fids) pf codeS (151, 517) := codedAt_of (a := ac517) rfl Tryz.func151 (by kernel_rfl) (by kernel_rfl)
theorem coded521 : CodedAt Tryz.prog (fidOf fids) pf codeS (28, 521) := codedAt_of (a := ac521) rfl Tryz.func28 (by kernel_rfl) (by kernel_rfl)
theorem coded522 : CodedAt Tryz.prog (fidOf fids) pf codeS (99, 522) := codedAt_of (a := ac522) rfl Tryz.func99 (by kernel_rfl) (by kernel_rfl)
theorem coded523 : CodedAt Tryz.prog (fidOf fids) pf codeS (100, 523) := codedAt_of (a := ac523) rfl Tryz.func100 (by kernel_rfl) (by kernel_rfl)
theorem coded524 : CodedAt Tryz.prog (fidOf fids) pf codeS (101, 524) := codedAt_of (a := ac524) rfl Tryz.func101 (by kernel_rfl) (by kernel_rfl)
theorem coded525 : CodedAt Tryz.prog (fidOf fids) pf codeS (51, 525) := codedAt_of (a := ac525) rfl Tryz.func51 (by kernel_rfl) (by kernel_rfl)
theorem coded529 : CodedAt Tryz.prog (fidOf fids) pf codeS (129, 529) := codedAt_of (a := ac529) rfl Tryz.func129 (by kernel_rfl) (by kernel_rfl)
theorem coded533 : CodedAt Tryz.prog (fidOf fids) pf codeS (53, 533) := codedAt_of (a := ac533) rfl Tryz.func53 (by kernel_rfl) (by kernel_rfl)
theorem coded534 : CodedAt Tryz.prog (fidOf fids) pf codeS (54, 534) := codedAt_of (a := ac534) rfl Tryz.func54 (by kernel_rfl) (by kernel_rfl)
theorem coded535 : CodedAt Tryz.prog (fidOf fids) pf codeS (55, 535) := codedAt_of (a := ac535) rfl Tryz.func55 (by kernel_rfl) (by kernel_rfl)
theorem coded536 : CodedAt Tryz.prog (fidOf fids) pf codeS (56, 536) := codedAt_of (a := ac536) rfl Tryz.func56 (by kernel_rfl) (by kernel_rfl)
theorem coded537 : CodedAt Tryz.prog (fidOf fids) pf codeS (57, 537) := codedAt_of (a := ac537) rfl Tryz.func57 (by kernel_rfl) (by kernel_rfl)
theorem coded538 : CodedAt Tryz.prog (fidOf fids) pf codeS (58, 538) := codedAt_of (a := ac538) rfl Tryz.func58 (by kernel_rfl) (by kernel_rfl)
theorem coded560 : CodedAt Tryz.prog (fidOf fids) pf codeS (23, 560) := codedAt_of (a := ac560) rfl Tryz.func23 (by kernel_rfl) (by kernel_rfl)
theorem coded562 : CodedAt Tryz.prog (fidOf fids) pf codeS (95, 562) := codedAt_of (a := ac562) rfl Tryz.func95 (by kernel_rfl) (by kernel_rfl)
theorem coded563 : CodedAt Tryz.prog (fidOf fids) pf codeS (96, 563) := codedAt_of (a := ac563) rfl Tryz.func96 (by kernel_rfl) (by kernel_rfl)
theorem coded567 : CodedAt Tryz.prog (fidOf fids) pf codeS (127, 567) := codedAt_of (a := ac567) rfl Tryz.func127 (by kernel_rfl) (by kernel_rfl)
theorem coded568 : CodedAt Tryz.prog (fidOf fids) pf codeS (73, 568) := codedAt_of (a := ac568) rfl Tryz.func73 (by kernel_rfl) (by kernel_rfl)
theorem coded569 : CodedAt Tryz.prog (fidOf fids) pf codeS (74, 569) := codedAt_of (a := ac569) rfl Tryz.func74 (by kernel_rfl) (by kernel_rfl)
theorem coded570 : CodedAt Tryz.prog (fidOf fids) pf codeS (76, 570) := codedAt_of (a := ac570) rfl Tryz.func76 (by kernel_rfl) (by kernel_rfl)
theorem coded571 : CodedAt Tryz.prog (fidOf fids) pf codeS (77, 571) := codedAt_of (a := ac571) rfl Tryz.func77 (by kernel_rfl) (by kernel_rfl)
theorem coded572 : CodedAt Tryz.prog (fidOf fids) pf codeS (78, 572) := codedAt_of (a := ac572) rfl Tryz.func78 (by kernel_rfl) (by kernel_rfl)
theorem coded573 : CodedAt Tryz.prog (fidOf fids) pf codeS (80, 573) := codedAt_of (a := ac573) rfl Tryz.func80 (by kernel_rfl) (by kernel_rfl)
theorem coded574 : CodedAt Tryz.prog (fidOf fids) pf codeS (81, 574) := codedAt_of (a := ac574) rfl Tryz.func81 (by kernel_rfl) (by kernel_rfl)
theorem coded575 : CodedAt Tryz.prog (fidOf fids) pf codeS (86, 575) := codedAt_of (a := ac575) rfl Tryz.func86 (by kernel_rfl) (by kernel_rfl)
theorem coded576 : CodedAt Tryz.prog (fidOf fids) pf codeS (87, 576) := codedAt_of (a := ac576) rfl Tryz.func87 (by kernel_rfl) (by kernel_rfl)
theorem coded597 : CodedAt Tryz.prog (fidOf fids) pf codeS (121, 597) := codedAt_of (a := ac597) rfl Tryz.func121 (by kernel_rfl) (by kernel_rfl)
theorem coded598 : CodedAt Tryz.prog (fidOf fids) pf codeS (122, 598) := codedAt_of (a := ac598) rfl Tryz.func122 (by kernel_rfl) (by kernel_rfl)
theorem coded605 : CodedAt Tryz.prog (fidOf fids) pf codeS (103, 605) := codedAt_of (a := ac605) rfl Tryz.func103 (by kernel_rfl) (by kernel_rfl)
theorem coded606 : CodedAt Tryz.prog (fidOf fids) pf codeS (106, 606) := codedAt_of (a := ac606) rfl Tryz.func106 (by kernel_rfl) (by kernel_rfl)
theorem coded607 : CodedAt Tryz.prog (fidOf fids) pf codeS (108, 607) := codedAt_of (a := ac607) rfl Tryz.func108 (by kernel_rfl) (by kernel_rfl)
theorem coded608 : CodedAt Tryz.prog (fidOf fids) pf codeS (113, 608) := codedAt_of (a := ac608) rfl Tryz.func113 (by kernel_rfl) (by kernel_rfl)
theorem coded609 : CodedAt Tryz.prog (fidOf fids) pf codeS (114, 609) := codedAt_of (a := ac609) rfl Tryz.func114 (by kernel_rfl) (by kernel_rfl)
theorem coded624 : CodedAt Tryz.prog (fidOf fids) pf codeS (149, 624) := codedAt_of (a := ac624) rfl Tryz.func149 (by kernel_rfl) (by kernel_rfl)
theorem coded626 : CodedAt Tryz.prog (fidOf fids) pf codeS (136, 626) := codedAt_of (a := ac626) rfl Tryz.func136 (by kernel_rfl) (by kernel_rfl)
theorem coded627 : CodedAt Tryz.prog (fidOf fids) pf codeS (137, 627) := codedAt_of (a := ac627) rfl Tryz.func137 (by kernel_rfl) (by kernel_rfl)
theorem coded628 : CodedAt Tryz.prog (fidOf fids) pf codeS (138, 628) := codedAt_of (a := ac628) rfl Tryz.func138 (by kernel_rfl) (by kernel_rfl)
theorem coded629 : CodedAt Tryz.prog (fidOf fids) pf codeS (139, 629) := codedAt_of (a := ac629) rfl Tryz.func139 (by kernel_rfl) (by kernel_rfl)
theorem coded630 : CodedAt Tryz.prog (fidOf fids) pf codeS (142, 630) := codedAt_of (a := ac630) rfl Tryz.func142 (by kernel_rfl) (by kernel_rfl)
theorem coded631 : CodedAt Tryz.prog (fidOf fids) pf codeS (143, 631) := codedAt_of (a := ac631) rfl Tryz.func143 (by kernel_rfl) (by kernel_rfl)
theorem coded632 : CodedAt Tryz.prog (fidOf fids) pf codeS (144, 632) := codedAt_of (a := ac632) rfl Tryz.func144 (by kernel_rfl) (by kernel_rfl)
theorem coded633 : CodedAt Tryz.prog (fidOf fids) pf codeS (145, 633) := codedAt_of (a := ac633) rfl Tryz.func145 (by kernel_rfl) (by kernel_rfl)
theorem coded639 : CodedAt Tryz.prog (fidOf fids) pf codeS (163, 639) := codedAt_of (a := ac639) rfl Tryz.func163 (by kernel_rfl) (by kernel_rfl)
theorem coded640 : CodedAt Tryz.prog (fidOf fids) pf codeS (168, 640) := codedAt_of (a := ac640) rfl Tryz.func168 (by kernel_rfl) (by kernel_rfl)
theorem coded641 : CodedAt Tryz.prog (fidOf fids) pf codeS (169, 641) := codedAt_of (a := ac641) rfl Tryz.func169 (by kernel_rfl) (by kernel_rfl)
theorem coded642 : CodedAt Tryz.prog (fidOf fids) pf codeS (170, 642) := codedAt_of (a := ac642) rfl Tryz.func170 (by kernel_rfl) (by kernel_rfl)
theorem coded644 : CodedAt Tryz.prog (fidOf fids) pf codeS (183, 644) := codedAt_of (a := ac644) rfl Tryz.func183 (by kernel_rfl) (by kernel_rfl)
theorem coded645 : CodedAt Tryz.prog (fidOf fids) pf codeS (184, 645) := codedAt_of (a := ac645) rfl Tryz.func184 (by kernel_rfl) (by kernel_rfl)
theorem coded646 : CodedAt Tryz.prog (fidOf fids) pf codeS (185, 646) := codedAt_of (a := ac646) rfl Tryz.func185 (by kernel_rfl) (by kernel_rfl)
theorem coded648 : CodedAt Tryz.prog (fidOf fids) pf codeS (192, 648) := codedAt_of (a := ac648) rfl Tryz.func192 (by kernel_rfl) (by kernel_rfl)
theorem coded649 : CodedAt Tryz.prog (fidOf fids) pf codeS (201, 649) := codedAt_of (a := ac649) rfl Tryz.func201 (by kernel_rfl) (by kernel_rfl)
theorem coded650 : CodedAt Tryz.prog (fidOf fids) pf codeS (202, 650) := codedAt_of (a := ac650) rfl Tryz.func202 (by kernel_rfl) (by kernel_rfl)
theorem coded651 : CodedAt Tryz.prog (fidOf fids) pf codeS (207, 651) := codedAt_of (a := ac651) rfl Tryz.func207 (by kernel_rfl) (by kernel_rfl)
theorem coded652 : CodedAt Tryz.prog (fidOf fids) pf codeS (208, 652) := codedAt_of (a := ac652) rfl Tryz.func208 (by kernel_rfl) (by kernel_rfl)
theorem coded653 : CodedAt Tryz.prog (fidOf fids) pf codeS (209, 653) := codedAt_of (a := ac653) rfl Tryz.func209 (by kernel_rfl) (by kernel_rfl)
theorem coded654 : CodedAt Tryz.prog (fidOf fids) pf codeS (210, 654) := codedAt_of (a := ac654) rfl Tryz.func210 (by kernel_rfl) (by kernel_rfl)
theorem coded655 : CodedAt Tryz.prog (fidOf fids) pf codeS (211, 655) := codedAt_of (a := ac655) rfl Tryz.func211 (by kernel_rfl) (by kernel_rfl)
theorem coded656 : CodedAt Tryz.prog (fidOf fids) pf codeS (212, 656) := codedAt_of (a := ac656) rfl Tryz.func212 (by kernel_rfl) (by kernel_rfl)
theorem coded657 : CodedAt Tryz.prog (fidOf fids) pf codeS (215, 657) := codedAt_of (a := ac657) rfl Tryz.func215 (by kernel_rfl) (by kernel_rfl)
theorem coded658 : CodedAt Tryz.prog (fidOf fids) pf codeS (216, 658) := codedAt_of (a := ac658) rfl Tryz.func216 (by kernel_rfl) (by kernel_rfl)
theorem coded216 : CodedAt Tryz.prog (fidOf fids) pf codeS (150, 216) := bodied_of rfl Tryz.func150 rfl (by kernel_rfl)
theorem clone216 : CloneAt Tryz.prog (fidOf fids) pf 216 (11, 104) := fun g hg => by
  have h := fidOf_mem hg
  have e : g = 150 := by simpa [fids] using h
  subst e
  exact ⟨Tryz.f150, 22, 109, _, _, _, _, _, _, _, _, _, _, _, Tryz.func150, by kernel_rfl, rfl, rfl, rfl, by kernel_rfl, rfl, by kernel_rfl, rfl, rfl, rfl, by kernel_rfl, by kernel_rfl⟩
theorem coded518 : CodedAt Tryz.prog (fidOf fids) pf codeS (152, 518) := bodied_of rfl Tryz.func152 rfl (by kernel_rfl)
theorem clone518 : CloneAt Tryz.prog (fidOf fids) pf 518 (13, 168) := fun g hg => by
  have h := fidOf_mem hg
  have e : g = 152 := by simpa [fids] using h
  subst e
  exact ⟨Tryz.f152, 28, 58, _, _, _, _, _, _, _, _, _, _, _, Tryz.func152, by kernel_rfl, rfl, rfl, rfl, by kernel_rfl, rfl, by kernel_rfl, rfl, rfl, rfl, by kernel_rfl, by kernel_rfl⟩
theorem coded519 : CodedAt Tryz.prog (fidOf fids) pf codeS (153, 519) := bodied_of rfl Tryz.func153 rfl (by kernel_rfl)
theorem clone519 : CloneAt Tryz.prog (fidOf fids) pf 519 (17, 232) := fun g hg => by
  have h := fidOf_mem hg
  have e : g = 153 := by simpa [fids] using h
  subst e
  exact ⟨Tryz.f153, 29, 72, _, _, _, _, _, _, _, _, _, _, _, Tryz.func153, by kernel_rfl, rfl, rfl, rfl, by kernel_rfl, rfl, by kernel_rfl, rfl, rfl, rfl, by kernel_rfl, by kernel_rfl⟩
theorem coded520 : CodedAt Tryz.prog (fidOf fids) pf codeS (154, 520) := bodied_of rfl Tryz.func154 rfl (by kernel_rfl)
theorem clone520 : CloneAt Tryz.prog (fidOf fids) pf 520 (15, 208) := fun g hg => by
  have h := fidOf_mem hg
  have e : g = 154 := by simpa [fids] using h
  subst e
  exact ⟨Tryz.f154, 30, 32, _, _, _, _, _, _, _, _, _, _, _, Tryz.func154, by kernel_rfl, rfl, rfl, rfl, by kernel_rfl, rfl, by kernel_rfl, rfl, rfl, rfl, by kernel_rfl, by kernel_rfl⟩
theorem coded566 : CodedAt Tryz.prog (fidOf fids) pf codeS (175, 566) := bodied_of rfl Tryz.func175 rfl (by kernel_rfl)
theorem clone566 : CloneAt Tryz.prog (fidOf fids) pf 566 (6, 64) := fun g hg => by
  have h := fidOf_mem hg
  have e : g = 175 := by simpa [fids] using h
  subst e
  exact ⟨Tryz.f175, 25, 27, _, _, _, _, _, _, _, _, _, _, _, Tryz.func175, by kernel_rfl, rfl, rfl, rfl, by kernel_rfl, rfl, by kernel_rfl, rfl, rfl, rfl, by kernel_rfl, by kernel_rfl⟩
theorem coded214 : CodedAt Tryz.prog (fidOf fids) pf codeS (63, 214) := bodied_of rfl Tryz.func63 rfl (by kernel_rfl)
theorem clone214 : CloneAt Tryz.prog (fidOf fids) pf 214 (1, 16) := fun g hg => by
  have h := fidOf_mem hg
  have e : g = 63 := by simpa [fids] using h
  subst e
  exact ⟨Tryz.f63, 36, 9, _, _, _, _, _, _, _, _, _, _, _, Tryz.func63, by kernel_rfl, rfl, rfl, rfl, by kernel_rfl, rfl, by kernel_rfl, rfl, rfl, rfl, by kernel_rfl, by kernel_rfl⟩
theorem coded130 : CodedAt Tryz.prog (fidOf fids) pf codeS (116, 130) := bodied_of rfl Tryz.func116 rfl (by kernel_rfl)
theorem clone130 : CloneAt Tryz.prog (fidOf fids) pf 130 (14, 184) := fun g hg => by
  have h := fidOf_mem hg
  have e : g = 116 := by simpa [fids] using h
  subst e
  exact ⟨Tryz.f116, 56, 76, _, _, _, _, _, _, _, _, _, _, _, Tryz.func116, by kernel_rfl, rfl, rfl, rfl, by kernel_rfl, rfl, by kernel_rfl, rfl, rfl, rfl, by kernel_rfl, by kernel_rfl⟩
theorem coded62 : CodedAt Tryz.prog (fidOf fids) pf codeS (115, 62) := bodied_of rfl Tryz.func115 rfl (by kernel_rfl)
theorem clone62 : CloneAt Tryz.prog (fidOf fids) pf 62 (1, 1) := fun g hg => by
  have h := fidOf_mem hg
  have e : g = 115 := by simpa [fids] using h
  subst e
  exact ⟨Tryz.f115, 55, 5, _, _, _, _, _, _, _, _, _, _, _, Tryz.func115, by kernel_rfl, rfl, rfl, rfl, by kernel_rfl, rfl, by kernel_rfl, rfl, rfl, rfl, by kernel_rfl, by kernel_rfl⟩
theorem coded272 : CodedAt Tryz.prog (fidOf fids) pf codeS (147, 272) := bodied_of rfl Tryz.func147 rfl (by kernel_rfl)
theorem coded510 : CodedAt Tryz.prog (fidOf fids) pf codeS (15, 510) := bodied_of rfl Tryz.func15 rfl (by kernel_rfl)
theorem ctxOk0 : CtxOk Tryz.prog (fidOf fids) pf (mkCtx codeS clRS clPS) := ctxOk_of (by
  intro p hp
  simp only [fids, List.mem_cons, List.not_mem_nil, or_false] at hp
  rcases hp with rfl | rfl | rfl | rfl | rfl | rfl | rfl | rfl | rfl | rfl | rfl | rfl | rfl | rfl | rfl | rfl | rfl | rfl | rfl | rfl | rfl | rfl | rfl | rfl | rfl | rfl | rfl | rfl | rfl | rfl | rfl | rfl | rfl | rfl | rfl | rfl | rfl | rfl | rfl | rfl | rfl | rfl | rfl | rfl | rfl | rfl | rfl | rfl | rfl | rfl | rfl | rfl | rfl | rfl | rfl | rfl | rfl | rfl | rfl | rfl | rfl | rfl | rfl | rfl | rfl | rfl | rfl | rfl | rfl | rfl | rfl | rfl | rfl | rfl | rfl | rfl | rfl | rfl | rfl | rfl | rfl | rfl | rfl | rfl | rfl | rfl | rfl | rfl | rfl | rfl | rfl | rfl | rfl | rfl | rfl | rfl | rfl | rfl | rfl | rfl | rfl | rfl | rfl | rfl | rfl | rfl | rfl | rfl | rfl | rfl | rfl | rfl | rfl | rfl | rfl | rfl | rfl | rfl | rfl | rfl | rfl | rfl | rfl | rfl | rfl | rfl | rfl | rfl | rfl | rfl | rfl | rfl | rfl | rfl | rfl | rfl | rfl | rfl | rfl | rfl | rfl | rfl | rfl | rfl | rfl | rfl | rfl | rfl | rfl | rfl | rfl | rfl | rfl | rfl | rfl | rfl | rfl | rfl | rfl | rfl | rfl | rfl | rfl | rfl | rfl | rfl | rfl | rfl | rfl | rfl | rfl | rfl | rfl | rfl
  · exact coded18
  · exact coded26
  · exact coded29
  · exact coded38
  · exact coded45
  · exact coded46
  · exact coded63
  · exact coded73
  · exact coded84
  · exact coded94
  · exact coded95
  · exact coded96
  · exact coded123
  · exact coded124
  · exact coded126
  · exact coded128
  · exact coded129
  · exact coded133
  · exact coded136
  · exact coded138
  · exact coded139
  · exact coded140
  · exact coded141
  · exact coded142
  · exact coded143
  · exact coded148
  · exact coded149
  · exact coded150
  · exact coded151
  · exact coded155
  · exact coded158
  · exact coded162
  · exact coded167
  · exact coded229
  · exact coded250
  · exact coded254
  · exact coded257
  · exact coded262
  · exact coded265
  · exact coded266
  · exact coded267
  · exact coded268
  · exact coded269
  · exact coded270
  · exact coded274
  · exact coded275
  · exact coded287
  · exact coded292
  · exact coded293
  · exact coded298
  · exact coded300
  · exact coded301
  · exact coded307
  · exact coded357
  · exact coded358
  · exact coded371
  · exact coded376
  · exact coded377
  · exact coded378
  · exact coded395
  · exact coded396
  · exact coded404
  · exact coded419
  · exact coded420
  · exact coded421
  · exact coded422
  · exact coded428
  · exact coded429
  · exact coded430
  · exact coded431
  · exact coded434
  · exact coded435
  · exact coded452
  · exact coded454
  · exact coded456
  · exact coded457
  · exact coded459
  · exact coded461
  · exact coded462
  · exact coded464
  · exact coded466
  · exact coded474
  · exact coded480
  · exact coded481
  · exact coded482
  · exact coded483
  · exact coded484
  · exact coded485
  · exact coded486
  · exact coded489
  · exact coded490
  · exact coded491
  · exact coded494
  · exact coded495
  · exact coded497
  · exact coded498
  · exact coded507
  · exact coded508
  · exact coded509
  · exact coded511
  · exact coded512
  · exact coded513
  · exact coded514
  · exact coded515
  · exact coded517
  · exact coded521
  · exact coded522
  · exact coded523
  · exact coded524
  · exact coded525
  · exact coded529
  · exact coded533
  · exact coded534
  · exact coded535
  · exact coded536
  · exact coded537
  · exact coded538
  · exact coded560
  · exact coded562
  · exact coded563
  · exact coded567
  · exact coded568
  · exact coded569
  · exact coded570
  · exact coded571
  · exact coded572
  · exact coded573
  · exact coded574
  · exact coded575
  · exact coded576
  · exact coded597
  · exact coded598
  · exact coded605
  · exact coded606
  · exact coded607
  · exact coded608
  · exact coded609
  · exact coded624
  · exact coded626
  · exact coded627
  · exact coded628
  · exact coded629
  · exact coded630
  · exact coded631
  · exact coded632
  · exact coded633
  · exact coded639
  · exact coded640
  · exact coded641
  · exact coded642
  · exact coded644
  · exact coded645
  · exact coded646
  · exact coded648
  · exact coded649
  · exact coded650
  · exact coded651
  · exact coded652
  · exact coded653
  · exact coded654
  · exact coded655
  · exact coded656
  · exact coded657
  · exact coded658
  · exact coded216
  · exact coded518
  · exact coded519
  · exact coded520
  · exact coded566
  · exact coded214
  · exact coded130
  · exact coded62
  · exact coded272
  · exact coded510) (fun f p h => by
  unfold clRS at h
  split at h
  · cases h
    exact ⟨rfl, clone216⟩
  · cases h
    exact ⟨rfl, clone518⟩
  · cases h
    exact ⟨rfl, clone519⟩
  · cases h
    exact ⟨rfl, clone520⟩
  · cases h
    exact ⟨rfl, clone566⟩
  · cases h
    exact ⟨rfl, clone214⟩
  · cases h
    exact ⟨rfl, clone130⟩
  · cases h) (fun f p h => by
  unfold clPS at h
  split at h
  · cases h
    exact ⟨rfl, clone62⟩
  · cases h)
theorem ctxOk : CtxOk Tryz.prog (fidOf fids) pf CS := extCtx_ok ctxOk0 (fun f h => by
    have e : f = 272 := by simpa [csQ] using h
    subst e
    refine ⟨rfl, fun g hg => ?_, rfl, fun ts v h => ?_⟩
    · exact by
        have h := fidOf_mem hg
        have e : g = 147 := by simpa [fids] using h
        subst e
        exact ⟨_, Tryz.lays213, rfl⟩
    · obtain ⟨p, l, h, _⟩ := h
      cases h)
  (fun f h => by
    have e : f = 551 := by simpa [lnQ] using h
    subst e
    refine ⟨rfl, fun g hg s w => ?_, rfl, fun ts v h => ?_⟩
    · exact by
        have h := fidOf_mem hg
        simp [fids] at h
    · obtain ⟨p, l, h, _⟩ := h
      cases h)
  (fun f h => by
    have e : f = 510 := by simpa [ssQ] using h
    subst e
    refine ⟨rfl, fun g hg => ?_, fun a H v H' h => ?_⟩
    · exact by
        have h := fidOf_mem hg
        have e : g = 15 := by simpa [fids] using h
        subst e
        exact ⟨_, Tryz.ssortP, rfl⟩
    · obtain ⟨p, x, h, _⟩ := h
      cases h)
end Go.Proofs.YtaaolmjbpebclaaGreatDoor
