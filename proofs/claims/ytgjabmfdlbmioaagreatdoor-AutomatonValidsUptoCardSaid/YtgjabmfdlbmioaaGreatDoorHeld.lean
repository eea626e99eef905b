/- The functions of the program, compiled, are the table's. -/
import Derived.Test.YtgjabmfdlbmioaaGreatDoorRows
import Derived.Test.YtgjabmfdlbmioaaGreatDoorMachD
import Derived.Test.YtgjabmfdlbmioaaGreatDoorCodeB
set_option linter.unusedSimpArgs false
set_option linter.unusedVariables false
set_option maxRecDepth 100000
namespace Go.Proofs.YtgjabmfdlbmioaaGreatDoor
open Ago
def fids : List (Nat × Nat) := [(65, 217), (133, 49), (148, 72), (128, 73), (156, 74), (152, 86), (153, 87), (119, 199), (120, 200), (122, 201), (132, 208), (134, 209), (139, 219), (140, 220), (141, 221), (142, 222), (143, 223), (144, 224), (145, 225), (146, 226), (147, 227), (18, 231), (20, 236), (151, 247), (154, 248), (155, 249), (45, 252), (158, 261), (4, 312), (9, 317), (10, 318), (11, 319), (13, 321), (14, 322), (19, 326), (21, 327), (22, 328), (33, 339), (34, 340), (38, 344), (39, 345), (40, 346), (42, 348), (44, 350), (46, 351), (47, 352), (49, 354), (50, 355), (52, 357), (53, 358), (54, 359), (55, 360), (61, 366), (62, 367), (66, 370), (67, 371), (68, 372), (72, 376), (73, 377), (74, 378), (75, 379), (76, 380), (77, 381), (78, 382), (79, 383), (80, 384), (84, 388), (85, 389), (86, 390), (87, 391), (91, 395), (92, 396), (93, 397), (94, 398), (95, 399), (96, 400), (97, 401), (98, 402), (100, 404), (101, 405), (102, 406), (103, 407), (104, 408), (105, 409), (106, 410), (107, 411), (108, 412), (109, 413), (110, 414), (111, 415), (112, 416), (113, 417), (114, 418), (115, 419), (116, 420), (117, 421), (118, 422), (121, 423), (123, 424), (124, 425), (125, 426), (126, 427), (127, 428), (129, 429), (130, 430), (131, 431), (135, 432), (136, 433), (137, 434), (138, 435), (149, 436), (150, 437), (157, 438)]
def pf (f : Nat) : Bool := !([86, 87, 199, 200, 201, 208, 209, 217, 219, 220, 221, 222, 223, 224, 226, 227, 247, 248, 249, 261, 346, 348, 349, 352, 362, 363, 364, 365, 386, 390, 405, 406, 407, 408, 410, 412, 413, 424] : List Nat).contains f
theorem coded49 : CodedAt Tryz.prog (fidOf fids) pf codeB (133, 49) := codedAt_of (a := ac49) rfl Tryz.func133 (by kernel_rfl) (by kernel_rfl)
theorem coded72 : CodedAt Tryz.prog (fidOf fids) pf codeB (148, 72) := codedAt_of (a := ac72) rfl Tryz.func148 (by kernel_rfl) (by kernel_rfl)
theorem coded73 : CodedAt Tryz.prog (fidOf fids) pf codeB (128, 73) := codedAt_of (a := ac73) rfl Tryz.func128 (by kernel_rfl) (by kernel_rfl)
theorem coded74 : CodedAt Tryz.prog (fidOf fids) pf codeB (156, 74) := codedAt_of (a := ac74) rfl Tryz.func156 (by kernel_rfl) (by kernel_rfl)
theorem coded86 : CodedAt Tryz.prog (fidOf fids) pf codeB (152, 86) := codedAt_of (a := ac86) rfl Tryz.func152 (by kernel_rfl) (by kernel_rfl)
theorem coded87 : CodedAt Tryz.prog (fidOf fids) pf codeB (153, 87) := codedAt_of (a := ac87) rfl Tryz.func153 (by kernel_rfl) (by kernel_rfl)
theorem coded199 : CodedAt Tryz.prog (fidOf fids) pf codeB (119, 199) := codedAt_of (a := ac199) rfl Tryz.func119 (by kernel_rfl) (by kernel_rfl)
theorem coded200 : CodedAt Tryz.prog (fidOf fids) pf codeB (120, 200) := codedAt_of (a := ac200) rfl Tryz.func120 (by kernel_rfl) (by kernel_rfl)
theorem coded201 : CodedAt Tryz.prog (fidOf fids) pf codeB (122, 201) := codedAt_of (a := ac201) rfl Tryz.func122 (by kernel_rfl) (by kernel_rfl)
theorem coded208 : CodedAt Tryz.prog (fidOf fids) pf codeB (132, 208) := codedAt_of (a := ac208) rfl Tryz.func132 (by kernel_rfl) (by kernel_rfl)
theorem coded209 : CodedAt Tryz.prog (fidOf fids) pf codeB (134, 209) := codedAt_of (a := ac209) rfl Tryz.func134 (by kernel_rfl) (by kernel_rfl)
theorem coded219 : CodedAt Tryz.prog (fidOf fids) pf codeB (139, 219) := codedAt_of (a := ac219) rfl Tryz.func139 (by kernel_rfl) (by kernel_rfl)
theorem coded220 : CodedAt Tryz.prog (fidOf fids) pf codeB (140, 220) := codedAt_of (a := ac220) rfl Tryz.func140 (by kernel_rfl) (by kernel_rfl)
theorem coded221 : CodedAt Tryz.prog (fidOf fids) pf codeB (141, 221) := codedAt_of (a := ac221) rfl Tryz.func141 (by kernel_rfl) (by kernel_rfl)
theorem coded222 : CodedAt Tryz.prog (fidOf fids) pf codeB (142, 222) := codedAt_of (a := ac222) rfl Tryz.func142 (by kernel_rfl) (by kernel_rfl)
theorem coded223 : CodedAt Tryz.prog (fidOf fids) pf codeB (143, 223) := codedAt_of (a := ac223) rfl Tryz.func143 (by kernel_rfl) (by kernel_rfl)
theorem coded224 : CodedAt Tryz.prog (fidOf fids) pf codeB (144, 224) := codedAt_of (a := ac224) rfl Tryz.func144 (by kernel_rfl) (by kernel_rfl)
theorem coded225 : CodedAt Tryz.prog (fidOf fids) pf codeB (145, 225) := codedAt_of (a := ac225) rfl Tryz.func145 (by kernel_rfl) (by kernel_rfl)
theorem coded226 : CodedAt Tryz.prog (fidOf fids) pf codeB (146, 226) := codedAt_of (a := ac226) rfl Tryz.func146 (by kernel_rfl) (by kernel_rfl)
theorem coded227 : CodedAt Tryz.prog (fidOf fids) pf codeB (147, 227) := codedAt_of (a := ac227) rfl Tryz.func147 (by kernel_rfl) (by kernel_rfl)
theorem coded231 : CodedAt Tryz.prog (fidOf fids) pf codeB (18, 231) := codedAt_of (a := ac231) rfl Tryz.func18 (by kernel_rfl) (by kernel_rfl)
theorem coded236 : CodedAt Tryz.prog (fidOf fids) pf codeB (20, 236) := codedAt_of (a := ac236) rfl Tryz.func20 (by kernel_rfl) (by kernel_rfl)
theorem coded247 : CodedAt Tryz.prog (fidOf fids) pf codeB (151, 247) := codedAt_of (a := ac247) rfl Tryz.func151 (by kernel_rfl) (by kernel_rfl)
theorem coded248 : CodedAt Tryz.prog (fidOf fids) pf codeB (154, 248) := codedAt_of (a := ac248) rfl Tryz.func154 (by kernel_rfl) (by kernel_rfl)
theorem coded249 : CodedAt Tryz.prog (fidOf fids) pf codeB (155, 249) := codedAt_of (a := ac249) rfl Tryz.func155 (by kernel_rfl) (by kernel_rfl)
theorem coded252 : CodedAt Tryz.prog (fidOf fids) pf codeB (45, 252) := codedAt_of (a := ac252) rfl Tryz.func45 (by kernel_rfl) (by kernel_rfl)
theorem coded261 : CodedAt Tryz.prog (fidOf fids) pf codeB (158, 261) := codedAt_of (a := ac261) rfl Tryz.func158 (by kernel_rfl) (by kernel_rfl)
theorem coded312 : CodedAt Tryz.prog (fidOf fids) pf codeB (4, 312) := codedAt_of (a := ac312) rfl Tryz.func4 (by kernel_rfl) (by kernel_rfl)
theorem coded317 : CodedAt Tryz.prog (fidOf fids) pf codeB (9, 317) := codedAt_of (a := ac317) rfl Tryz.func9 (by kernel_rfl) (by kernel_rfl)
theorem coded318 : CodedAt Tryz.prog (fidOf fids) pf codeB (10, 318) := codedAt_of (a := ac318) rfl Tryz.func10 (by kernel_rfl) (by kernel_rfl)
theorem coded319 : CodedAt Tryz.prog (fidOf fids) pf codeB (11, 319) := codedAt_of (a := ac319) rfl Tryz.func11 (by kernel_rfl) (by kernel_rfl)
theorem coded321 : CodedAt Tryz.prog (fidOf fids) pf codeB (13, 321) := codedAt_of (a := ac321) rfl Tryz.func13 (by kernel_rfl) (by kernel_rfl)
theorem coded322 : CodedAt Tryz.prog (fidOf fids) pf codeB (14, 322) := codedAt_of (a := ac322) rfl Tryz.func14 (by kernel_rfl) (by kernel_rfl)
theorem coded326 : CodedAt Tryz.prog (fidOf fids) pf codeB (19, 326) := codedAt_of (a := ac326) rfl Tryz.func19 (by kernel_rfl) (by kernel_rfl)
theorem coded327 : CodedAt Tryz.prog (fidOf fids) pf codeB (21, 327) := codedAt_of (a := ac327) rfl Tryz.func21 (by kernel_rfl) (by kernel_rfl)
theorem coded328 : CodedAt Tryz.prog (fidOf fids) pf codeB (22, 328) := codedAt_of (a := ac328) rfl Tryz.func22 (by kernel_rfl) (by kernel_rfl)
theorem coded339 : CodedAt Tryz.prog (fidOf fids) pf codeB (33, 339) := codedAt_of (a := ac339) rfl Tryz.func33 (by kernel_rfl) (by kernel_rfl)
theorem coded340 : CodedAt Tryz.prog (fidOf fids) pf codeB (34, 340) := codedAt_of (a := ac340) rfl Tryz.func34 (by kernel_rfl) (by kernel_rfl)
theorem coded344 : CodedAt Tryz.prog (fidOf fids) pf codeB (38, 344) := codedAt_of (a := ac344) rfl Tryz.func38 (by kernel_rfl) (by kernel_rfl)
theorem coded345 : CodedAt Tryz.prog (fidOf fids) pf codeB (39, 345) := codedAt_of (a := ac345) rfl Tryz.func39 (by kernel_rfl) (by kernel_rfl)
theorem coded346 : CodedAt Tryz.prog (fidOf fids) pf codeB (40, 346) := codedAt_of (a := ac346) rfl Tryz.func40 (by kernel_rfl) (by kernel_rfl)
theorem coded348 : CodedAt Tryz.prog (fidOf fids) pf codeB (42, 348) := codedAt_of (a := ac348) rfl Tryz.func42 (by kernel_rfl) (by kernel_rfl)
theorem coded350 : CodedAt Tryz.prog (fidOf fids) pf codeB (44, 350) := codedAt_of (a := ac350) rfl Tryz.func44 (by kernel_rfl) (by kernel_rfl)
theorem coded351 : CodedAt Tryz.prog (fidOf fids) pf codeB (46, 351) := codedAt_of (a := ac351) rfl Tryz.func46 (by kernel_rfl) (by kernel_rfl)
theorem coded352 : CodedAt Tryz.prog (fidOf fids) pf codeB (47, 352) := codedAt_of (a := ac352) rfl Tryz.func47 (by kernel_rfl) (by kernel_rfl)
theorem coded354 : CodedAt Tryz.prog (fidOf fids) pf codeB (49, 354) := codedAt_of (a := ac354) rfl Tryz.func49 (by kernel_rfl) (by kernel_rfl)
theorem coded355 : CodedAt Tryz.prog (fidOf fids) pf codeB (50, 355) := codedAt_of (a := ac355) rfl Tryz.func50 (by kernel_rfl) (by kernel_rfl)
theorem coded357 : CodedAt Tryz.prog (fidOf fids) pf codeB (52, 357) := codedAt_of (a := ac357) rfl Tryz.func52 (by kernel_rfl) (by kernel_rfl)
theorem coded358 : CodedAt Tryz.prog (fidOf fids) pf codeB (53, 358) := codedAt_of (a := ac358) rfl Tryz.func53 (by kernel_rfl) (by kernel_rfl)
theorem coded359 : CodedAt Tryz.prog (fidOf fids) pf codeB (54, 359) := codedAt_of (a := ac359) rfl Tryz.func54 (by kernel_rfl) (by kernel_rfl)
theorem coded360 : CodedAt Tryz.prog (fidOf fids) pf codeB (55, 360) := codedAt_of (a := ac360) rfl Tryz.func55 (by kernel_rfl) (by kernel_rfl)
theorem coded366 : CodedAt Tryz.prog (fidOf fids) pf codeB (61, 366) := codedAt_of (a := ac366) rfl Tryz.func61 (by kernel_rfl) (by kernel_rfl)
theorem coded367 : CodedAt Tryz.prog (fidOf fids) pf codeB (62, 367) := codedAt_of (a := ac367) rfl Tryz.func62 (by kernel_rfl) (by kernel_rfl)
theorem coded370 : CodedAt Tryz.prog (fidOf fids) pf codeB (66, 370) := codedAt_of (a := ac370) rfl Tryz.func66 (by kernel_rfl) (by kernel_rfl)
theorem coded371 : CodedAt Tryz.prog (fidOf fids) pf codeB (67, 371) := codedAt_of (a := ac371) rfl Tryz.func67 (by kernel_rfl) (by kernel_rfl)
theorem coded372 : CodedAt Tryz.prog (fidOf fids) pf codeB (68, 372) := codedAt_of (a := ac372) rfl Tryz.func68 (by kernel_rfl) (by kernel_rfl)
theorem coded376 : CodedAt Tryz.prog (fidOf fids) pf codeB (72, 376) := codedAt_of (a := ac376) rfl Tryz.func72 (by kernel_rfl) (by kernel_rfl)
theorem coded377 : CodedAt Tryz.prog (fidOf fids) pf codeB (73, 377) := codedAt_of (a := ac377) rfl Tryz.func73 (by kernel_rfl) (by kernel_rfl)
theorem coded378 : CodedAt Tryz.prog (fidOf fids) pf codeB (74, 378) := codedAt_of (a := ac378) rfl Tryz.func74 (by kernel_rfl) (by kernel_rfl)
theorem coded379 : CodedAt Tryz.prog (fidOf fids) pf codeB (75, 379) := codedAt_of (a := ac379) rfl Tryz.func75 (by kernel_rfl) (by kernel_rfl)
theorem coded380 : CodedAt Tryz.prog (fidOf fids) pf codeB (76, 380) := codedAt_of (a := ac380) rfl Tryz.func76 (by kernel_rfl) (by kernel_rfl)
theorem coded381 : CodedAt Tryz.prog (fidOf fids) pf codeB (77, 381) := codedAt_of (a := ac381) rfl Tryz.func77 (by kernel_rfl) (by kernel_rfl)
theorem coded382 : CodedAt Tryz.prog (fidOf fids) pf codeB (78, 382) := codedAt_of (a := ac382) rfl Tryz.func78 (by kernel_rfl) (by kernel_rfl)
theorem coded383 : CodedAt Tryz.prog (fidOf fids) pf codeB (79, 383) := codedAt_of (a := ac383) rfl Tryz.func79 (by kernel_rfl) (by kernel_rfl)
theorem coded384 : CodedAt Tryz.prog (fidOf fids) pf codeB (80, 384) := codedAt_of (a := ac384) rfl Tryz.func80 (by kernel_rfl) (by kernel_rfl)
theorem coded388 : CodedAt Tryz.prog (fidOf fids) pf codeB (84, 388) := codedAt_of (a := ac388) rfl Tryz.func84 (by kernel_rfl) (by kernel_rfl)
theorem coded389 : CodedAt Tryz.prog (fidOf fids) pf codeB (85, 389) := codedAt_of (a := ac389) rfl Tryz.func85 (by kernel_rfl) (by kernel_rfl)
theorem coded390 : CodedAt Tryz.prog (fidOf fids) pf codeB (86, 390) := codedAt_of (a := ac390) rfl Tryz.func86 (by kernel_rfl) (by kernel_rfl)
theorem coded391 : CodedAt Tryz.prog (fidOf fids) pf codeB (87, 391) := codedAt_of (a := ac391) rfl Tryz.func87 (by kernel_rfl) (by kernel_rfl)
theorem coded395 : CodedAt Tryz.prog (fidOf fids) pf codeB (91, 395) := codedAt_of (a := ac395) rfl Tryz.func91 (by kernel_rfl) (by kernel_rfl)
theorem coded396 : CodedAt Tryz.prog (fidOf fids) pf codeB (92, 396) := codedAt_of (a := ac396) rfl Tryz.func92 (by kernel_rfl) (by kernel_rfl)
theorem coded397 : CodedAt Tryz.prog (fidOf fids) pf codeB (93, 397) := codedAt_of (a := ac397) rfl Tryz.func93 (by kernel_rfl) (by kernel_rfl)
theorem coded398 : CodedAt Tryz.prog (fidOf fids) pf codeB (94, 398) := codedAt_of (a := ac398) rfl Tryz.func94 (by kernel_rfl) (by kernel_rfl)
theorem coded399 : CodedAt Tryz.prog (fidOf fids) pf codeB (95, 399) := codedAt_of (a := ac399) rfl Tryz.func95 (by kernel_rfl) (by kernel_rfl)
theorem coded400 : CodedAt Tryz.prog (fidOf fids) pf codeB (96, 400) := codedAt_of (a := ac400) rfl Tryz.func96 (by kernel_rfl) (by kernel_rfl)
theorem coded401 : CodedAt Tryz.prog (fidOf fids) pf codeB (97, 401) := codedAt_of (a := ac401) rfl Tryz.func97 (by kernel_rfl) (by kernel_rfl)
theorem coded402 : CodedAt Tryz.prog (fidOf fids) pf codeB (98, 402) := codedAt_of (a := ac402) rfl Tryz.func98 (by kernel_rfl) (by kernel_rfl)
theorem coded404 : CodedAt Tryz.prog (fidOf fids) pf codeB (100, 404) := codedAt_of (a := ac404) rfl Tryz.func100 (by kernel_rfl) (by kernel_rfl)
theorem coded405 : CodedAt Tryz.prog (fidOf fids) pf codeB (101, 405) := codedAt_of (a := ac405) rfl Tryz.func101 (by kernel_rfl) (by kernel_rfl)
theorem coded406 : CodedAt Tryz.prog (fidOf fids) pf codeB (102, 406) := codedAt_of (a := ac406) rfl Tryz.func102 (by kernel_rfl) (by kernel_rfl)
theorem coded407 : CodedAt Tryz.prog (fidOf fids) pf codeB (103, 407) := codedAt_of (a := ac407) rfl Tryz.func103 (by kernel_rfl) (by kernel_rfl)
theorem coded408 : CodedAt Tryz.prog (fidOf fids) pf codeB (104, 408) := codedAt_of (a := ac408) rfl Tryz.func104 (by kernel_rfl) (by kernel_rfl)
theorem coded409 : CodedAt Tryz.prog (fidOf fids) pf codeB (105, 409) := codedAt_of (a := ac409) rfl Tryz.func105 (by kernel_rfl) (by kernel_rfl)
theorem coded410 : CodedAt Tryz.prog (fidOf fids) pf codeB (106, 410) := codedAt_of (a := ac410) rfl Tryz.func106 (by kernel_rfl) (by kernel_rfl)
theorem coded411 : CodedAt Tryz.prog (fidOf fids) pf codeB (107, 411) := codedAt_of (a := ac411) rfl Tryz.func107 (by kernel_rfl) (by kernel_rfl)
theorem coded412 : CodedAt Tryz.prog (fidOf fids) pf codeB (108, 412) := codedAt_of (a := ac412) rfl Tryz.func108 (by kernel_rfl) (by kernel_rfl)
theorem coded413 : CodedAt Tryz.prog (fidOf fids) pf codeB (109, 413) := codedAt_of (a := ac413) rfl Tryz.func109 (by kernel_rfl) (by kernel_rfl)
theorem coded414 : CodedAt Tryz.prog (fidOf fids) pf codeB (110, 414) := codedAt_of (a := ac414) rfl Tryz.func110 (by kernel_rfl) (by kernel_rfl)
theorem coded415 : CodedAt Tryz.prog (fidOf fids) pf codeB (111, 415) := codedAt_of (a := ac415) rfl Tryz.func111 (by kernel_rfl) (by kernel_rfl)
theorem coded416 : CodedAt Tryz.prog (fidOf fids) pf codeB (112, 416) := codedAt_of (a := ac416) rfl Tryz.func112 (by kernel_rfl) (by kernel_rfl)
theorem coded417 : CodedAt Tryz.prog (fidOf fids) pf codeB (113, 417) := codedAt_of (a := ac417) rfl Tryz.func113 (by kernel_rfl) (by kernel_rfl)
theorem coded418 : CodedAt Tryz.prog (fidOf fids) pf codeB (114, 418) := codedAt_of (a := ac418) rfl Tryz.func114 (by kernel_rfl) (by kernel_rfl)
theorem coded419 : CodedAt Tryz.prog (fidOf fids) pf codeB (115, 419) := codedAt_of (a := ac419) rfl Tryz.func115 (by kernel_rfl) (by kernel_rfl)
theorem coded420 : CodedAt Tryz.prog (fidOf fids) pf codeB (116, 420) := codedAt_of (a := ac420) rfl Tryz.func116 (by kernel_rfl) (by kernel_rfl)
theorem coded421 : CodedAt Tryz.prog (fidOf fids) pf codeB (117, 421) := codedAt_of (a := ac421) rfl Tryz.func117 (by kernel_rfl) (by kernel_rfl)
theorem coded422 : CodedAt Tryz.prog (fidOf fids) pf codeB (118, 422) := codedAt_of (a := ac422) rfl Tryz.func118 (by kernel_rfl) (by kernel_rfl)
theorem coded423 : CodedAt Tryz.prog (fidOf fids) pf codeB (121, 423) := codedAt_of (a := ac423) rfl Tryz.func121 (by kernel_rfl) (by kernel_rfl)
theorem coded424 : CodedAt Tryz.prog (fidOf fids) pf codeB (123, 424) := codedAt_of (a := ac424) rfl Tryz.func123 (by kernel_rfl) (by kernel_rfl)
theorem coded425 : CodedAt Tryz.prog (fidOf fids) pf codeB (124, 425) := codedAt_of (a := ac425) rfl Tryz.func124 (by kernel_rfl) (by kernel_rfl)
theorem coded426 : CodedAt Tryz.prog (fidOf fids) pf codeB (125, 426) := codedAt_of (a := ac426) rfl Tryz.func125 (by kernel_rfl) (by kernel_rfl)
theorem coded427 : CodedAt Tryz.prog (fidOf fids) pf codeB (126, 427) := codedAt_of (a := ac427) rfl Tryz.func126 (by kernel_rfl) (by kernel_rfl)
theorem coded428 : CodedAt Tryz.prog (fidOf fids) pf codeB (127, 428) := codedAt_of (a := ac428) rfl Tryz.func127 (by kernel_rfl) (by kernel_rfl)
theorem coded429 : CodedAt Tryz.prog (fidOf fids) pf codeB (129, 429) := codedAt_of (a := ac429) rfl Tryz.func129 (by kernel_rfl) (by kernel_rfl)
theorem coded430 : CodedAt Tryz.prog (fidOf fids) pf codeB (130, 430) := codedAt_of (a := ac430) rfl Tryz.func130 (by kernel_rfl) (by kernel_rfl)
theorem coded431 : CodedAt Tryz.prog (fidOf fids) pf codeB (131, 431) := codedAt_of (a := ac431) rfl Tryz.func131 (by kernel_rfl) (by kernel_rfl)
theorem coded432 : CodedAt Tryz.prog (fidOf fids) pf codeB (135, 432) := codedAt_of (a := ac432) rfl Tryz.func135 (by kernel_rfl) (by kernel_rfl)
theorem coded433 : CodedAt Tryz.prog (fidOf fids) pf codeB (136, 433) := codedAt_of (a := ac433) rfl Tryz.func136 (by kernel_rfl) (by kernel_rfl)
theorem coded434 : CodedAt Tryz.prog (fidOf fids) pf codeB (137, 434) := codedAt_of (a := ac434) rfl Tryz.func137 (by kernel_rfl) (by kernel_rfl)
theorem coded435 : CodedAt Tryz.prog (fidOf fids) pf codeB (138, 435) := codedAt_of (a := ac435) rfl Tryz.func138 (by kernel_rfl) (by kernel_rfl)
theorem coded436 : CodedAt Tryz.prog (fidOf fids) pf codeB (149, 436) := codedAt_of (a := ac436) rfl Tryz.func149 (by kernel_rfl) (by kernel_rfl)
theorem coded437 : CodedAt Tryz.prog (fidOf fids) pf codeB (150, 437) := codedAt_of (a := ac437) rfl Tryz.func150 (by kernel_rfl) (by kernel_rfl)
theorem coded438 : CodedAt Tryz.prog (fidOf fids) pf codeB (157, 438) := codedAt_of (a := ac438) rfl Tryz.func157 (by kernel_rfl) (by kernel_rfl)
theorem coded217 : CodedAt Tryz.prog (fidOf fids) pf codeB (65, 217) := bodied_of rfl Tryz.func65 rfl (by kernel_rfl)
theorem clone217 : CloneAt Tryz.prog (fidOf fids) pf 217 (3, 24) := fun g hg => by
  have h := fidOf_mem hg
  have e : g = 65 := by simpa [fids] using h
  subst e
  exact ⟨Tryz.f65, 48, 53, _, _, _, _, _, _, _, _, _, _, _, Tryz.func65, by kernel_rfl, rfl, rfl, rfl, by kernel_rfl, rfl, by kernel_rfl, rfl, rfl, rfl, by kernel_rfl, by kernel_rfl⟩
theorem ctxOk : CtxOk Tryz.prog (fidOf fids) pf CB := ctxOk_of (by
  intro p hp
  simp only [fids, List.mem_cons, List.not_mem_nil, or_false] at hp
  rcases hp with rfl | rfl | rfl | rfl | rfl | rfl | rfl | rfl | rfl | rfl | rfl | rfl | rfl | rfl | rfl | rfl | rfl | rfl | rfl | rfl | rfl | rfl | rfl | rfl | rfl | rfl | rfl | rfl | rfl | rfl | rfl | rfl | rfl | rfl | rfl | rfl | rfl | rfl | rfl | rfl | rfl | rfl | rfl | rfl | rfl | rfl | rfl | rfl | rfl | rfl | rfl | rfl | rfl | rfl | rfl | rfl | rfl | rfl | rfl | rfl | rfl | rfl | rfl | rfl | rfl | rfl | rfl | rfl | rfl | rfl | rfl | rfl | rfl | rfl | rfl | rfl | rfl | rfl | rfl | rfl | rfl | rfl | rfl | rfl | rfl | rfl | rfl | rfl | rfl | rfl | rfl | rfl | rfl | rfl | rfl | rfl | rfl | rfl | rfl | rfl | rfl | rfl | rfl | rfl | rfl | rfl | rfl | rfl | rfl | rfl | rfl | rfl | rfl
  · exact coded217
  · exact coded49
  · exact coded72
  · exact coded73
  · exact coded74
  · exact coded86
  · exact coded87
  · exact coded199
  · exact coded200
  · exact coded201
  · exact coded208
  · exact coded209
  · exact coded219
  · exact coded220
  · exact coded221
  · exact coded222
  · exact coded223
  · exact coded224
  · exact coded225
  · exact coded226
  · exact coded227
  · exact coded231
  · exact coded236
  · exact coded247
  · exact coded248
  · exact coded249
  · exact coded252
  · exact coded261
  · exact coded312
  · exact coded317
  · exact coded318
  · exact coded319
  · exact coded321
  · exact coded322
  · exact coded326
  · exact coded327
  · exact coded328
  · exact coded339
  · exact coded340
  · exact coded344
  · exact coded345
  · exact coded346
  · exact coded348
  · exact coded350
  · exact coded351
  · exact coded352
  · exact coded354
  · exact coded355
  · exact coded357
  · exact coded358
  · exact coded359
  · exact coded360
  · exact coded366
  · exact coded367
  · exact coded370
  · exact coded371
  · exact coded372
  · exact coded376
  · exact coded377
  · exact coded378
  · exact coded379
  · exact coded380
  · exact coded381
  · exact coded382
  · exact coded383
  · exact coded384
  · exact coded388
  · exact coded389
  · exact coded390
  · exact coded391
  · exact coded395
  · exact coded396
  · exact coded397
  · exact coded398
  · exact coded399
  · exact coded400
  · exact coded401
  · exact coded402
  · exact coded404
  · exact coded405
  · exact coded406
  · exact coded407
  · exact coded408
  · exact coded409
  · exact coded410
  · exact coded411
  · exact coded412
  · exact coded413
  · exact coded414
  · exact coded415
  · exact coded416
  · exact coded417
  · exact coded418
  · exact coded419
  · exact coded420
  · exact coded421
  · exact coded422
  · exact coded423
  · exact coded424
  · exact coded425
  · exact coded426
  · exact coded427
  · exact coded428
  · exact coded429
  · exact coded430
  · exact coded431
  · exact coded432
  · exact coded433
  · exact coded434
  · exact coded435
  · exact coded436
  · exact coded437
  · exact coded438) (fun f p h => by simp [clRA] at h) (fun f p h => by
  unfold clPA at h
  split at h
  · cases h
    exact ⟨rfl, clone217⟩
  · cases h)
end Go.Proofs.YtgjabmfdlbmioaaGreatDoor
