/- The functions of the program, compiled, are the table's. -/
import Derived.Test.YtndeonfobpmddaaGreatDoorRows
import Derived.Test.YtndeonfobpmddaaGreatDoorMachD
import Derived.Test.YtndeonfobpmddaaGreatDoorMachE
import Derived.Test.YtndeonfobpmddaaGreatDoorCodeB
set_option linter.unusedSimpArgs false
set_option linter.unusedVariables false
set_option maxRecDepth 100000
namespace Go.Proofs.YtndeonfobpmddaaGreatDoor
open Ago
def fids:List (Nat × Nat):=[(106, 49), (119, 72), (88, 73), (127, 74), (123, 86), (124, 87), (92, 199), (93, 200), (95, 201), (105, 208), (107, 209), (110, 219), (111, 220), (112, 221), (113, 222), (114, 223), (115, 224), (116, 225), (117, 226), (118, 227), (14, 231), (122, 247), (125, 248), (126, 249), (28, 252), (129, 261), (3, 314), (4, 316), (5, 317), (11, 318), (58, 319), (6, 321), (57, 322), (16, 326), (21, 328), (7, 334), (8, 335), (9, 336), (10, 337), (19, 339), (62, 340), (12, 342), (13, 343), (20, 344), (77, 345), (79, 346), (78, 348), (26, 350), (33, 351), (38, 352), (15, 354), (17, 355), (18, 356), (82, 357), (35, 358), (36, 359), (81, 360), (22, 363), (23, 364), (24, 365), (37, 366), (97, 367), (27, 370), (29, 371), (30, 372), (31, 373), (32, 374), (34, 375), (100, 376), (43, 377), (44, 378), (45, 379), (46, 380), (47, 381), (48, 382), (49, 383), (99, 384), (50, 388), (51, 389), (40, 390), (41, 391), (42, 392), (39, 395), (54, 396), (55, 397), (56, 398), (59, 399), (60, 400), (61, 401), (63, 402), (53, 403), (52, 404), (68, 405), (69, 406), (70, 407), (71, 408), (72, 409), (73, 410), (74, 411), (75, 412), (76, 413), (80, 414), (83, 415), (84, 416), (85, 417), (86, 418), (64, 419), (65, 420), (66, 421), (67, 422), (94, 423), (96, 424), (98, 425), (101, 426), (102, 427), (87, 428), (89, 429), (90, 430), (91, 431), (108, 432), (109, 433), (103, 434), (104, 435), (120, 436), (121, 437), (128, 438), (25, 217)]
def pf (f:Nat):Bool:=!([86, 87, 199, 200, 201, 208, 209, 219, 220, 221, 222, 223, 224, 226, 227, 247, 248, 249, 261, 346, 348, 352, 364, 390, 405, 406, 407, 408, 410, 412, 413, 424]:List Nat).contains f
abbrev CX (p:Nat × Nat):Prop:=CodedAt Tryz.prog (fidOf fids) pf codeB p
theorem upB {f:Nat} {ts:List AV} {v:AV} (h:PRun CA f ts v):PRun CB f ts v:=bs_ext (C:=CA) (C':=CB) (fun f fn h=>by
  show codeB f=some fn
  have h:codeA f=some fn:=h
  unfold codeB
  rw[h]) (fun _ _ _ _ _ h=>h) (fun _ _ _ h=>h) h
theorem coded49:CX (106, 49):=codedAt_of (a:=ac49) rfl Tryz.func106 (by kernel_rfl) (by kernel_rfl)
theorem coded72:CX (119, 72):=codedAt_of (a:=ac72) rfl Tryz.func119 (by kernel_rfl) (by kernel_rfl)
theorem coded73:CX (88, 73):=codedAt_of (a:=ac73) rfl Tryz.func88 (by kernel_rfl) (by kernel_rfl)
theorem coded74:CX (127, 74):=codedAt_of (a:=ac74) rfl Tryz.func127 (by kernel_rfl) (by kernel_rfl)
theorem coded86:CX (123, 86):=codedAt_of (a:=ac86) rfl Tryz.func123 (by kernel_rfl) (by kernel_rfl)
theorem coded87:CX (124, 87):=codedAt_of (a:=ac87) rfl Tryz.func124 (by kernel_rfl) (by kernel_rfl)
theorem coded199:CX (92, 199):=codedAt_of (a:=ac199) rfl Tryz.func92 (by kernel_rfl) (by kernel_rfl)
theorem coded200:CX (93, 200):=codedAt_of (a:=ac200) rfl Tryz.func93 (by kernel_rfl) (by kernel_rfl)
theorem coded201:CX (95, 201):=codedAt_of (a:=ac201) rfl Tryz.func95 (by kernel_rfl) (by kernel_rfl)
theorem coded208:CX (105, 208):=codedAt_of (a:=ac208) rfl Tryz.func105 (by kernel_rfl) (by kernel_rfl)
theorem coded209:CX (107, 209):=codedAt_of (a:=ac209) rfl Tryz.func107 (by kernel_rfl) (by kernel_rfl)
theorem coded219:CX (110, 219):=codedAt_of (a:=ac219) rfl Tryz.func110 (by kernel_rfl) (by kernel_rfl)
theorem coded220:CX (111, 220):=codedAt_of (a:=ac220) rfl Tryz.func111 (by kernel_rfl) (by kernel_rfl)
theorem coded221:CX (112, 221):=codedAt_of (a:=ac221) rfl Tryz.func112 (by kernel_rfl) (by kernel_rfl)
theorem coded222:CX (113, 222):=codedAt_of (a:=ac222) rfl Tryz.func113 (by kernel_rfl) (by kernel_rfl)
theorem coded223:CX (114, 223):=codedAt_of (a:=ac223) rfl Tryz.func114 (by kernel_rfl) (by kernel_rfl)
theorem coded224:CX (115, 224):=codedAt_of (a:=ac224) rfl Tryz.func115 (by kernel_rfl) (by kernel_rfl)
theorem coded225:CX (116, 225):=codedAt_of (a:=ac225) rfl Tryz.func116 (by kernel_rfl) (by kernel_rfl)
theorem coded226:CX (117, 226):=codedAt_of (a:=ac226) rfl Tryz.func117 (by kernel_rfl) (by kernel_rfl)
theorem coded227:CX (118, 227):=codedAt_of (a:=ac227) rfl Tryz.func118 (by kernel_rfl) (by kernel_rfl)
theorem coded231:CX (14, 231):=codedAt_of (a:=ac231) rfl Tryz.func14 (by kernel_rfl) (by kernel_rfl)
theorem coded247:CX (122, 247):=codedAt_of (a:=ac247) rfl Tryz.func122 (by kernel_rfl) (by kernel_rfl)
theorem coded248:CX (125, 248):=codedAt_of (a:=ac248) rfl Tryz.func125 (by kernel_rfl) (by kernel_rfl)
theorem coded249:CX (126, 249):=codedAt_of (a:=ac249) rfl Tryz.func126 (by kernel_rfl) (by kernel_rfl)
theorem coded252:CX (28, 252):=codedAt_of (a:=ac252) rfl Tryz.func28 (by kernel_rfl) (by kernel_rfl)
theorem coded261:CX (129, 261):=codedAt_of (a:=ac261) rfl Tryz.func129 (by kernel_rfl) (by kernel_rfl)
theorem coded314:CX (3, 314):=codedAt_of (a:=ac314) rfl Tryz.func3 (by kernel_rfl) (by kernel_rfl)
theorem coded316:CX (4, 316):=codedAt_of (a:=ac316) rfl Tryz.func4 (by kernel_rfl) (by kernel_rfl)
theorem coded317:CX (5, 317):=codedAt_of (a:=ac317) rfl Tryz.func5 (by kernel_rfl) (by kernel_rfl)
theorem coded318:CX (11, 318):=codedAt_of (a:=ac318) rfl Tryz.func11 (by kernel_rfl) (by kernel_rfl)
theorem coded319:CX (58, 319):=codedAt_of (a:=ac319) rfl Tryz.func58 (by kernel_rfl) (by kernel_rfl)
theorem coded321:CX (6, 321):=codedAt_of (a:=ac321) rfl Tryz.func6 (by kernel_rfl) (by kernel_rfl)
theorem coded322:CX (57, 322):=codedAt_of (a:=ac322) rfl Tryz.func57 (by kernel_rfl) (by kernel_rfl)
theorem coded326:CX (16, 326):=codedAt_of (a:=ac326) rfl Tryz.func16 (by kernel_rfl) (by kernel_rfl)
theorem coded328:CX (21, 328):=codedAt_of (a:=ac328) rfl Tryz.func21 (by kernel_rfl) (by kernel_rfl)
theorem coded334:CX (7, 334):=codedAt_of (a:=ac334) rfl Tryz.func7 (by kernel_rfl) (by kernel_rfl)
theorem coded335:CX (8, 335):=codedAt_of (a:=ac335) rfl Tryz.func8 (by kernel_rfl) (by kernel_rfl)
theorem coded336:CX (9, 336):=codedAt_of (a:=ac336) rfl Tryz.func9 (by kernel_rfl) (by kernel_rfl)
theorem coded337:CX (10, 337):=codedAt_of (a:=ac337) rfl Tryz.func10 (by kernel_rfl) (by kernel_rfl)
theorem coded339:CX (19, 339):=codedAt_of (a:=ac339) rfl Tryz.func19 (by kernel_rfl) (by kernel_rfl)
theorem coded340:CX (62, 340):=codedAt_of (a:=ac340) rfl Tryz.func62 (by kernel_rfl) (by kernel_rfl)
theorem coded342:CX (12, 342):=codedAt_of (a:=ac342) rfl Tryz.func12 (by kernel_rfl) (by kernel_rfl)
theorem coded343:CX (13, 343):=codedAt_of (a:=ac343) rfl Tryz.func13 (by kernel_rfl) (by kernel_rfl)
theorem coded344:CX (20, 344):=codedAt_of (a:=ac344) rfl Tryz.func20 (by kernel_rfl) (by kernel_rfl)
theorem coded345:CX (77, 345):=codedAt_of (a:=ac345) rfl Tryz.func77 (by kernel_rfl) (by kernel_rfl)
theorem coded346:CX (79, 346):=codedAt_of (a:=ac346) rfl Tryz.func79 (by kernel_rfl) (by kernel_rfl)
theorem coded348:CX (78, 348):=codedAt_of (a:=ac348) rfl Tryz.func78 (by kernel_rfl) (by kernel_rfl)
theorem coded350:CX (26, 350):=codedAt_of (a:=ac350) rfl Tryz.func26 (by kernel_rfl) (by kernel_rfl)
theorem coded351:CX (33, 351):=codedAt_of (a:=ac351) rfl Tryz.func33 (by kernel_rfl) (by kernel_rfl)
theorem coded352:CX (38, 352):=codedAt_of (a:=ac352) rfl Tryz.func38 (by kernel_rfl) (by kernel_rfl)
theorem coded354:CX (15, 354):=codedAt_of (a:=ac354) rfl Tryz.func15 (by kernel_rfl) (by kernel_rfl)
theorem coded355:CX (17, 355):=codedAt_of (a:=ac355) rfl Tryz.func17 (by kernel_rfl) (by kernel_rfl)
theorem coded356:CX (18, 356):=codedAt_of (a:=ac356) rfl Tryz.func18 (by kernel_rfl) (by kernel_rfl)
theorem coded357:CX (82, 357):=codedAt_of (a:=ac357) rfl Tryz.func82 (by kernel_rfl) (by kernel_rfl)
theorem coded358:CX (35, 358):=codedAt_of (a:=ac358) rfl Tryz.func35 (by kernel_rfl) (by kernel_rfl)
theorem coded359:CX (36, 359):=codedAt_of (a:=ac359) rfl Tryz.func36 (by kernel_rfl) (by kernel_rfl)
theorem coded360:CX (81, 360):=codedAt_of (a:=ac360) rfl Tryz.func81 (by kernel_rfl) (by kernel_rfl)
theorem coded363:CX (22, 363):=codedAt_of (a:=ac363) rfl Tryz.func22 (by kernel_rfl) (by kernel_rfl)
theorem coded364:CX (23, 364):=codedAt_of (a:=ac364) rfl Tryz.func23 (by kernel_rfl) (by kernel_rfl)
theorem coded365:CX (24, 365):=codedAt_of (a:=ac365) rfl Tryz.func24 (by kernel_rfl) (by kernel_rfl)
theorem coded366:CX (37, 366):=codedAt_of (a:=ac366) rfl Tryz.func37 (by kernel_rfl) (by kernel_rfl)
theorem coded367:CX (97, 367):=codedAt_of (a:=ac367) rfl Tryz.func97 (by kernel_rfl) (by kernel_rfl)
theorem coded370:CX (27, 370):=codedAt_of (a:=ac370) rfl Tryz.func27 (by kernel_rfl) (by kernel_rfl)
theorem coded371:CX (29, 371):=codedAt_of (a:=ac371) rfl Tryz.func29 (by kernel_rfl) (by kernel_rfl)
theorem coded372:CX (30, 372):=codedAt_of (a:=ac372) rfl Tryz.func30 (by kernel_rfl) (by kernel_rfl)
theorem coded373:CX (31, 373):=codedAt_of (a:=ac373) rfl Tryz.func31 (by kernel_rfl) (by kernel_rfl)
theorem coded374:CX (32, 374):=codedAt_of (a:=ac374) rfl Tryz.func32 (by kernel_rfl) (by kernel_rfl)
theorem coded375:CX (34, 375):=codedAt_of (a:=ac375) rfl Tryz.func34 (by kernel_rfl) (by kernel_rfl)
theorem coded376:CX (100, 376):=codedAt_of (a:=ac376) rfl Tryz.func100 (by kernel_rfl) (by kernel_rfl)
theorem coded377:CX (43, 377):=codedAt_of (a:=ac377) rfl Tryz.func43 (by kernel_rfl) (by kernel_rfl)
theorem coded378:CX (44, 378):=codedAt_of (a:=ac378) rfl Tryz.func44 (by kernel_rfl) (by kernel_rfl)
theorem coded379:CX (45, 379):=codedAt_of (a:=ac379) rfl Tryz.func45 (by kernel_rfl) (by kernel_rfl)
theorem coded380:CX (46, 380):=codedAt_of (a:=ac380) rfl Tryz.func46 (by kernel_rfl) (by kernel_rfl)
theorem coded381:CX (47, 381):=codedAt_of (a:=ac381) rfl Tryz.func47 (by kernel_rfl) (by kernel_rfl)
theorem coded382:CX (48, 382):=codedAt_of (a:=ac382) rfl Tryz.func48 (by kernel_rfl) (by kernel_rfl)
theorem coded383:CX (49, 383):=codedAt_of (a:=ac383) rfl Tryz.func49 (by kernel_rfl) (by kernel_rfl)
theorem coded384:CX (99, 384):=codedAt_of (a:=ac384) rfl Tryz.func99 (by kernel_rfl) (by kernel_rfl)
theorem coded388:CX (50, 388):=codedAt_of (a:=ac388) rfl Tryz.func50 (by kernel_rfl) (by kernel_rfl)
theorem coded389:CX (51, 389):=codedAt_of (a:=ac389) rfl Tryz.func51 (by kernel_rfl) (by kernel_rfl)
theorem coded390:CX (40, 390):=codedAt_of (a:=ac390) rfl Tryz.func40 (by kernel_rfl) (by kernel_rfl)
theorem coded391:CX (41, 391):=codedAt_of (a:=ac391) rfl Tryz.func41 (by kernel_rfl) (by kernel_rfl)
theorem coded392:CX (42, 392):=codedAt_of (a:=ac392) rfl Tryz.func42 (by kernel_rfl) (by kernel_rfl)
theorem coded395:CX (39, 395):=codedAt_of (a:=ac395) rfl Tryz.func39 (by kernel_rfl) (by kernel_rfl)
theorem coded396:CX (54, 396):=codedAt_of (a:=ac396) rfl Tryz.func54 (by kernel_rfl) (by kernel_rfl)
theorem coded397:CX (55, 397):=codedAt_of (a:=ac397) rfl Tryz.func55 (by kernel_rfl) (by kernel_rfl)
theorem coded398:CX (56, 398):=codedAt_of (a:=ac398) rfl Tryz.func56 (by kernel_rfl) (by kernel_rfl)
theorem coded399:CX (59, 399):=codedAt_of (a:=ac399) rfl Tryz.func59 (by kernel_rfl) (by kernel_rfl)
theorem coded400:CX (60, 400):=codedAt_of (a:=ac400) rfl Tryz.func60 (by kernel_rfl) (by kernel_rfl)
theorem coded401:CX (61, 401):=codedAt_of (a:=ac401) rfl Tryz.func61 (by kernel_rfl) (by kernel_rfl)
theorem coded402:CX (63, 402):=codedAt_of (a:=ac402) rfl Tryz.func63 (by kernel_rfl) (by kernel_rfl)
theorem coded403:CX (53, 403):=codedAt_of (a:=ac403) rfl Tryz.func53 (by kernel_rfl) (by kernel_rfl)
theorem coded404:CX (52, 404):=codedAt_of (a:=ac404) rfl Tryz.func52 (by kernel_rfl) (by kernel_rfl)
theorem coded405:CX (68, 405):=codedAt_of (a:=ac405) rfl Tryz.func68 (by kernel_rfl) (by kernel_rfl)
theorem coded406:CX (69, 406):=codedAt_of (a:=ac406) rfl Tryz.func69 (by kernel_rfl) (by kernel_rfl)
theorem coded407:CX (70, 407):=codedAt_of (a:=ac407) rfl Tryz.func70 (by kernel_rfl) (by kernel_rfl)
theorem coded408:CX (71, 408):=codedAt_of (a:=ac408) rfl Tryz.func71 (by kernel_rfl) (by kernel_rfl)
theorem coded409:CX (72, 409):=codedAt_of (a:=ac409) rfl Tryz.func72 (by kernel_rfl) (by kernel_rfl)
theorem coded410:CX (73, 410):=codedAt_of (a:=ac410) rfl Tryz.func73 (by kernel_rfl) (by kernel_rfl)
theorem coded411:CX (74, 411):=codedAt_of (a:=ac411) rfl Tryz.func74 (by kernel_rfl) (by kernel_rfl)
theorem coded412:CX (75, 412):=codedAt_of (a:=ac412) rfl Tryz.func75 (by kernel_rfl) (by kernel_rfl)
theorem coded413:CX (76, 413):=codedAt_of (a:=ac413) rfl Tryz.func76 (by kernel_rfl) (by kernel_rfl)
theorem coded414:CX (80, 414):=codedAt_of (a:=ac414) rfl Tryz.func80 (by kernel_rfl) (by kernel_rfl)
theorem coded415:CX (83, 415):=codedAt_of (a:=ac415) rfl Tryz.func83 (by kernel_rfl) (by kernel_rfl)
theorem coded416:CX (84, 416):=codedAt_of (a:=ac416) rfl Tryz.func84 (by kernel_rfl) (by kernel_rfl)
theorem coded417:CX (85, 417):=codedAt_of (a:=ac417) rfl Tryz.func85 (by kernel_rfl) (by kernel_rfl)
theorem coded418:CX (86, 418):=codedAt_of (a:=ac418) rfl Tryz.func86 (by kernel_rfl) (by kernel_rfl)
theorem coded419:CX (64, 419):=codedAt_of (a:=ac419) rfl Tryz.func64 (by kernel_rfl) (by kernel_rfl)
theorem coded420:CX (65, 420):=codedAt_of (a:=ac420) rfl Tryz.func65 (by kernel_rfl) (by kernel_rfl)
theorem coded421:CX (66, 421):=codedAt_of (a:=ac421) rfl Tryz.func66 (by kernel_rfl) (by kernel_rfl)
theorem coded422:CX (67, 422):=codedAt_of (a:=ac422) rfl Tryz.func67 (by kernel_rfl) (by kernel_rfl)
theorem coded423:CX (94, 423):=codedAt_of (a:=ac423) rfl Tryz.func94 (by kernel_rfl) (by kernel_rfl)
theorem coded424:CX (96, 424):=codedAt_of (a:=ac424) rfl Tryz.func96 (by kernel_rfl) (by kernel_rfl)
theorem coded425:CX (98, 425):=codedAt_of (a:=ac425) rfl Tryz.func98 (by kernel_rfl) (by kernel_rfl)
theorem coded426:CX (101, 426):=codedAt_of (a:=ac426) rfl Tryz.func101 (by kernel_rfl) (by kernel_rfl)
theorem coded427:CX (102, 427):=codedAt_of (a:=ac427) rfl Tryz.func102 (by kernel_rfl) (by kernel_rfl)
theorem coded428:CX (87, 428):=codedAt_of (a:=ac428) rfl Tryz.func87 (by kernel_rfl) (by kernel_rfl)
theorem coded429:CX (89, 429):=codedAt_of (a:=ac429) rfl Tryz.func89 (by kernel_rfl) (by kernel_rfl)
theorem coded430:CX (90, 430):=codedAt_of (a:=ac430) rfl Tryz.func90 (by kernel_rfl) (by kernel_rfl)
theorem coded431:CX (91, 431):=codedAt_of (a:=ac431) rfl Tryz.func91 (by kernel_rfl) (by kernel_rfl)
theorem coded432:CX (108, 432):=codedAt_of (a:=ac432) rfl Tryz.func108 (by kernel_rfl) (by kernel_rfl)
theorem coded433:CX (109, 433):=codedAt_of (a:=ac433) rfl Tryz.func109 (by kernel_rfl) (by kernel_rfl)
theorem coded434:CX (103, 434):=codedAt_of (a:=ac434) rfl Tryz.func103 (by kernel_rfl) (by kernel_rfl)
theorem coded435:CX (104, 435):=codedAt_of (a:=ac435) rfl Tryz.func104 (by kernel_rfl) (by kernel_rfl)
theorem coded436:CX (120, 436):=codedAt_of (a:=ac436) rfl Tryz.func120 (by kernel_rfl) (by kernel_rfl)
theorem coded437:CX (121, 437):=codedAt_of (a:=ac437) rfl Tryz.func121 (by kernel_rfl) (by kernel_rfl)
theorem coded438:CX (128, 438):=codedAt_of (a:=ac438) rfl Tryz.func128 (by kernel_rfl) (by kernel_rfl)
theorem coded217:CX (25, 217):=bodied_of rfl Tryz.func25 rfl (by kernel_rfl)
theorem clone217:CloneAt Tryz.prog (fidOf fids) pf 217 (3, 24):=fun g hg=>by
  have h:=fidOf_mem hg
  have e:g=25:=by simpa [fids] using h
  subst e
  exact ⟨Tryz.f25, 30, 34, _, _, _, _, _, _, _, _, _, _, _, Tryz.func25, by kernel_rfl, rfl, rfl, rfl, by kernel_rfl, rfl, by kernel_rfl, rfl, rfl, rfl, by kernel_rfl, by kernel_rfl⟩
theorem ctxOk:CtxOk Tryz.prog (fidOf fids) pf CB:=ctxOk_of (by
  intro p hp
  simp only[fids, List.mem_cons, List.not_mem_nil, or_false] at hp
  rcases hp with rfl | rfl | rfl | rfl | rfl | rfl | rfl | rfl | rfl | rfl | rfl | rfl | rfl | rfl | rfl | rfl | rfl | rfl | rfl | rfl | rfl | rfl | rfl | rfl | rfl | rfl | rfl | rfl | rfl | rfl | rfl | rfl | rfl | rfl | rfl | rfl | rfl | rfl | rfl | rfl | rfl | rfl | rfl | rfl | rfl | rfl | rfl | rfl | rfl | rfl | rfl | rfl | rfl | rfl | rfl | rfl | rfl | rfl | rfl | rfl | rfl | rfl | rfl | rfl | rfl | rfl | rfl | rfl | rfl | rfl | rfl | rfl | rfl | rfl | rfl | rfl | rfl | rfl | rfl | rfl | rfl | rfl | rfl | rfl | rfl | rfl | rfl | rfl | rfl | rfl | rfl | rfl | rfl | rfl | rfl | rfl | rfl | rfl | rfl | rfl | rfl | rfl | rfl | rfl | rfl | rfl | rfl | rfl | rfl | rfl | rfl | rfl | rfl | rfl | rfl | rfl | rfl | rfl | rfl | rfl | rfl | rfl | rfl | rfl | rfl | rfl | rfl
  · exact coded49
  · exact coded72
  · exact coded73
  · exact coded74
  · exact coded86
  · exact coded87
  · exact coded199
  · exact coded200
  · exact coded201
  · exact coded208
  · exact coded209
  · exact coded219
  · exact coded220
  · exact coded221
  · exact coded222
  · exact coded223
  · exact coded224
  · exact coded225
  · exact coded226
  · exact coded227
  · exact coded231
  · exact coded247
  · exact coded248
  · exact coded249
  · exact coded252
  · exact coded261
  · exact coded314
  · exact coded316
  · exact coded317
  · exact coded318
  · exact coded319
  · exact coded321
  · exact coded322
  · exact coded326
  · exact coded328
  · exact coded334
  · exact coded335
  · exact coded336
  · exact coded337
  · exact coded339
  · exact coded340
  · exact coded342
  · exact coded343
  · exact coded344
  · exact coded345
  · exact coded346
  · exact coded348
  · exact coded350
  · exact coded351
  · exact coded352
  · exact coded354
  · exact coded355
  · exact coded356
  · exact coded357
  · exact coded358
  · exact coded359
  · exact coded360
  · exact coded363
  · exact coded364
  · exact coded365
  · exact coded366
  · exact coded367
  · exact coded370
  · exact coded371
  · exact coded372
  · exact coded373
  · exact coded374
  · exact coded375
  · exact coded376
  · exact coded377
  · exact coded378
  · exact coded379
  · exact coded380
  · exact coded381
  · exact coded382
  · exact coded383
  · exact coded384
  · exact coded388
  · exact coded389
  · exact coded390
  · exact coded391
  · exact coded392
  · exact coded395
  · exact coded396
  · exact coded397
  · exact coded398
  · exact coded399
  · exact coded400
  · exact coded401
  · exact coded402
  · exact coded403
  · exact coded404
  · exact coded405
  · exact coded406
  · exact coded407
  · exact coded408
  · exact coded409
  · exact coded410
  · exact coded411
  · exact coded412
  · exact coded413
  · exact coded414
  · exact coded415
  · exact coded416
  · exact coded417
  · exact coded418
  · exact coded419
  · exact coded420
  · exact coded421
  · exact coded422
  · exact coded423
  · exact coded424
  · exact coded425
  · exact coded426
  · exact coded427
  · exact coded428
  · exact coded429
  · exact coded430
  · exact coded431
  · exact coded432
  · exact coded433
  · exact coded434
  · exact coded435
  · exact coded436
  · exact coded437
  · exact coded438
  · exact coded217) (fun f p h=>by simp [clRB] at h) (fun f p h=>by
  unfold clPB at h
  split at h
  · cases h
    exact ⟨rfl, clone217⟩
  · cases h)
end Go.Proofs.YtndeonfobpmddaaGreatDoor
