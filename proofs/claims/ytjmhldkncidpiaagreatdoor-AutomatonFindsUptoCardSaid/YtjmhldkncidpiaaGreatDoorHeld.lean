/- The functions of the program, compiled, are the table's. -/
import Derived.Test.YtjmhldkncidpiaaGreatDoorRows
import Derived.Test.YtjmhldkncidpiaaGreatDoorMachD
import Derived.Test.YtjmhldkncidpiaaGreatDoorMachE
import Derived.Test.YtjmhldkncidpiaaGreatDoorCodeB
set_option linter.unusedSimpArgs false
set_option linter.unusedVariables false
set_option maxRecDepth 100000
namespace Go.Proofs.YtjmhldkncidpiaaGreatDoor
open Ago
def fids:List (Nat × Nat):=[(87, 49), (104, 72), (105, 73), (117, 74), (113, 86), (114, 87), (74, 199), (75, 200), (77, 201), (86, 208), (88, 209), (95, 219), (96, 220), (97, 221), (98, 222), (99, 223), (100, 224), (101, 225), (102, 226), (103, 227), (15, 231), (112, 247), (115, 248), (116, 249), (49, 252), (121, 261), (3, 313), (4, 317), (5, 318), (42, 319), (14, 321), (41, 322), (17, 326), (6, 328), (7, 329), (8, 330), (9, 331), (10, 332), (11, 333), (12, 339), (46, 340), (13, 344), (61, 345), (63, 346), (62, 348), (22, 350), (24, 351), (16, 352), (18, 353), (29, 354), (37, 355), (66, 357), (19, 358), (20, 359), (65, 360), (21, 366), (79, 367), (23, 369), (48, 370), (50, 371), (51, 372), (82, 376), (25, 377), (26, 378), (27, 379), (28, 380), (30, 381), (31, 382), (32, 383), (81, 384), (33, 388), (34, 389), (72, 390), (73, 391), (35, 394), (71, 395), (36, 396), (39, 397), (40, 398), (43, 399), (44, 400), (45, 401), (47, 402), (85, 404), (52, 405), (53, 406), (54, 407), (55, 408), (56, 409), (57, 410), (58, 411), (59, 412), (60, 413), (64, 414), (67, 415), (68, 416), (69, 417), (70, 418), (91, 419), (92, 420), (93, 421), (94, 422), (76, 423), (78, 424), (80, 425), (83, 426), (84, 427), (108, 428), (109, 429), (110, 430), (111, 431), (89, 432), (90, 433), (119, 434), (120, 435), (106, 436), (107, 437), (118, 438), (38, 217)]
def pf (f:Nat):Bool:=!([86, 87, 199, 200, 201, 208, 209,217,219, 220, 221, 222, 223, 224, 226, 227, 247, 248, 249, 261, 346, 348, 352, 390, 405, 406, 407, 408, 410, 412, 413, 424]:List Nat).contains f
abbrev CX (p:Nat × Nat):Prop:=CodedAt Tryz.prog (fidOf fids) pf codeB p
theorem upB {f:Nat} {ts:List AV} {v:AV} (h:PRun CA f ts v):PRun CB f ts v:=bs_ext (C:=CA) (C':=CB) (fun f fn h=>by
  show codeB f=some fn
  have h:codeA f=some fn:=h
  unfold codeB
  rw[h]) (fun _ _ _ _ _ h=>h) (fun _ _ _ h=>h) h
theorem coded49:CX (87, 49):=codedAt_of (a:=ac49) rfl Tryz.func87 (by kernel_rfl) (by kernel_rfl)
theorem coded72:CX (104, 72):=codedAt_of (a:=ac72) rfl Tryz.func104 (by kernel_rfl) (by kernel_rfl)
theorem coded73:CX (105, 73):=codedAt_of (a:=ac73) rfl Tryz.func105 (by kernel_rfl) (by kernel_rfl)
theorem coded74:CX (117, 74):=codedAt_of (a:=ac74) rfl Tryz.func117 (by kernel_rfl) (by kernel_rfl)
theorem coded86:CX (113, 86):=codedAt_of (a:=ac86) rfl Tryz.func113 (by kernel_rfl) (by kernel_rfl)
theorem coded87:CX (114, 87):=codedAt_of (a:=ac87) rfl Tryz.func114 (by kernel_rfl) (by kernel_rfl)
theorem coded199:CX (74, 199):=codedAt_of (a:=ac199) rfl Tryz.func74 (by kernel_rfl) (by kernel_rfl)
theorem coded200:CX (75, 200):=codedAt_of (a:=ac200) rfl Tryz.func75 (by kernel_rfl) (by kernel_rfl)
theorem coded201:CX (77, 201):=codedAt_of (a:=ac201) rfl Tryz.func77 (by kernel_rfl) (by kernel_rfl)
theorem coded208:CX (86, 208):=codedAt_of (a:=ac208) rfl Tryz.func86 (by kernel_rfl) (by kernel_rfl)
theorem coded209:CX (88, 209):=codedAt_of (a:=ac209) rfl Tryz.func88 (by kernel_rfl) (by kernel_rfl)
theorem coded219:CX (95, 219):=codedAt_of (a:=ac219) rfl Tryz.func95 (by kernel_rfl) (by kernel_rfl)
theorem coded220:CX (96, 220):=codedAt_of (a:=ac220) rfl Tryz.func96 (by kernel_rfl) (by kernel_rfl)
theorem coded221:CX (97, 221):=codedAt_of (a:=ac221) rfl Tryz.func97 (by kernel_rfl) (by kernel_rfl)
theorem coded222:CX (98, 222):=codedAt_of (a:=ac222) rfl Tryz.func98 (by kernel_rfl) (by kernel_rfl)
theorem coded223:CX (99, 223):=codedAt_of (a:=ac223) rfl Tryz.func99 (by kernel_rfl) (by kernel_rfl)
theorem coded224:CX (100, 224):=codedAt_of (a:=ac224) rfl Tryz.func100 (by kernel_rfl) (by kernel_rfl)
theorem coded225:CX (101, 225):=codedAt_of (a:=ac225) rfl Tryz.func101 (by kernel_rfl) (by kernel_rfl)
theorem coded226:CX (102, 226):=codedAt_of (a:=ac226) rfl Tryz.func102 (by kernel_rfl) (by kernel_rfl)
theorem coded227:CX (103, 227):=codedAt_of (a:=ac227) rfl Tryz.func103 (by kernel_rfl) (by kernel_rfl)
theorem coded231:CX (15, 231):=codedAt_of (a:=ac231) rfl Tryz.func15 (by kernel_rfl) (by kernel_rfl)
theorem coded247:CX (112, 247):=codedAt_of (a:=ac247) rfl Tryz.func112 (by kernel_rfl) (by kernel_rfl)
theorem coded248:CX (115, 248):=codedAt_of (a:=ac248) rfl Tryz.func115 (by kernel_rfl) (by kernel_rfl)
theorem coded249:CX (116, 249):=codedAt_of (a:=ac249) rfl Tryz.func116 (by kernel_rfl) (by kernel_rfl)
theorem coded252:CX (49, 252):=codedAt_of (a:=ac252) rfl Tryz.func49 (by kernel_rfl) (by kernel_rfl)
theorem coded261:CX (121, 261):=codedAt_of (a:=ac261) rfl Tryz.func121 (by kernel_rfl) (by kernel_rfl)
theorem coded313:CX (3, 313):=codedAt_of (a:=ac313) rfl Tryz.func3 (by kernel_rfl) (by kernel_rfl)
theorem coded317:CX (4, 317):=codedAt_of (a:=ac317) rfl Tryz.func4 (by kernel_rfl) (by kernel_rfl)
theorem coded318:CX (5, 318):=codedAt_of (a:=ac318) rfl Tryz.func5 (by kernel_rfl) (by kernel_rfl)
theorem coded319:CX (42, 319):=codedAt_of (a:=ac319) rfl Tryz.func42 (by kernel_rfl) (by kernel_rfl)
theorem coded321:CX (14, 321):=codedAt_of (a:=ac321) rfl Tryz.func14 (by kernel_rfl) (by kernel_rfl)
theorem coded322:CX (41, 322):=codedAt_of (a:=ac322) rfl Tryz.func41 (by kernel_rfl) (by kernel_rfl)
theorem coded326:CX (17, 326):=codedAt_of (a:=ac326) rfl Tryz.func17 (by kernel_rfl) (by kernel_rfl)
theorem coded328:CX (6, 328):=codedAt_of (a:=ac328) rfl Tryz.func6 (by kernel_rfl) (by kernel_rfl)
theorem coded329:CX (7, 329):=codedAt_of (a:=ac329) rfl Tryz.func7 (by kernel_rfl) (by kernel_rfl)
theorem coded330:CX (8, 330):=codedAt_of (a:=ac330) rfl Tryz.func8 (by kernel_rfl) (by kernel_rfl)
theorem coded331:CX (9, 331):=codedAt_of (a:=ac331) rfl Tryz.func9 (by kernel_rfl) (by kernel_rfl)
theorem coded332:CX (10, 332):=codedAt_of (a:=ac332) rfl Tryz.func10 (by kernel_rfl) (by kernel_rfl)
theorem coded333:CX (11, 333):=codedAt_of (a:=ac333) rfl Tryz.func11 (by kernel_rfl) (by kernel_rfl)
theorem coded339:CX (12, 339):=codedAt_of (a:=ac339) rfl Tryz.func12 (by kernel_rfl) (by kernel_rfl)
theorem coded340:CX (46, 340):=codedAt_of (a:=ac340) rfl Tryz.func46 (by kernel_rfl) (by kernel_rfl)
theorem coded344:CX (13, 344):=codedAt_of (a:=ac344) rfl Tryz.func13 (by kernel_rfl) (by kernel_rfl)
theorem coded345:CX (61, 345):=codedAt_of (a:=ac345) rfl Tryz.func61 (by kernel_rfl) (by kernel_rfl)
theorem coded346:CX (63, 346):=codedAt_of (a:=ac346) rfl Tryz.func63 (by kernel_rfl) (by kernel_rfl)
theorem coded348:CX (62, 348):=codedAt_of (a:=ac348) rfl Tryz.func62 (by kernel_rfl) (by kernel_rfl)
theorem coded350:CX (22, 350):=codedAt_of (a:=ac350) rfl Tryz.func22 (by kernel_rfl) (by kernel_rfl)
theorem coded351:CX (24, 351):=codedAt_of (a:=ac351) rfl Tryz.func24 (by kernel_rfl) (by kernel_rfl)
theorem coded352:CX (16, 352):=codedAt_of (a:=ac352) rfl Tryz.func16 (by kernel_rfl) (by kernel_rfl)
theorem coded353:CX (18, 353):=codedAt_of (a:=ac353) rfl Tryz.func18 (by kernel_rfl) (by kernel_rfl)
theorem coded354:CX (29, 354):=codedAt_of (a:=ac354) rfl Tryz.func29 (by kernel_rfl) (by kernel_rfl)
theorem coded355:CX (37, 355):=codedAt_of (a:=ac355) rfl Tryz.func37 (by kernel_rfl) (by kernel_rfl)
theorem coded357:CX (66, 357):=codedAt_of (a:=ac357) rfl Tryz.func66 (by kernel_rfl) (by kernel_rfl)
theorem coded358:CX (19, 358):=codedAt_of (a:=ac358) rfl Tryz.func19 (by kernel_rfl) (by kernel_rfl)
theorem coded359:CX (20, 359):=codedAt_of (a:=ac359) rfl Tryz.func20 (by kernel_rfl) (by kernel_rfl)
theorem coded360:CX (65, 360):=codedAt_of (a:=ac360) rfl Tryz.func65 (by kernel_rfl) (by kernel_rfl)
theorem coded366:CX (21, 366):=codedAt_of (a:=ac366) rfl Tryz.func21 (by kernel_rfl) (by kernel_rfl)
theorem coded367:CX (79, 367):=codedAt_of (a:=ac367) rfl Tryz.func79 (by kernel_rfl) (by kernel_rfl)
theorem coded369:CX (23, 369):=codedAt_of (a:=ac369) rfl Tryz.func23 (by kernel_rfl) (by kernel_rfl)
theorem coded370:CX (48, 370):=codedAt_of (a:=ac370) rfl Tryz.func48 (by kernel_rfl) (by kernel_rfl)
theorem coded371:CX (50, 371):=codedAt_of (a:=ac371) rfl Tryz.func50 (by kernel_rfl) (by kernel_rfl)
theorem coded372:CX (51, 372):=codedAt_of (a:=ac372) rfl Tryz.func51 (by kernel_rfl) (by kernel_rfl)
theorem coded376:CX (82, 376):=codedAt_of (a:=ac376) rfl Tryz.func82 (by kernel_rfl) (by kernel_rfl)
theorem coded377:CX (25, 377):=codedAt_of (a:=ac377) rfl Tryz.func25 (by kernel_rfl) (by kernel_rfl)
theorem coded378:CX (26, 378):=codedAt_of (a:=ac378) rfl Tryz.func26 (by kernel_rfl) (by kernel_rfl)
theorem coded379:CX (27, 379):=codedAt_of (a:=ac379) rfl Tryz.func27 (by kernel_rfl) (by kernel_rfl)
theorem coded380:CX (28, 380):=codedAt_of (a:=ac380) rfl Tryz.func28 (by kernel_rfl) (by kernel_rfl)
theorem coded381:CX (30, 381):=codedAt_of (a:=ac381) rfl Tryz.func30 (by kernel_rfl) (by kernel_rfl)
theorem coded382:CX (31, 382):=codedAt_of (a:=ac382) rfl Tryz.func31 (by kernel_rfl) (by kernel_rfl)
theorem coded383:CX (32, 383):=codedAt_of (a:=ac383) rfl Tryz.func32 (by kernel_rfl) (by kernel_rfl)
theorem coded384:CX (81, 384):=codedAt_of (a:=ac384) rfl Tryz.func81 (by kernel_rfl) (by kernel_rfl)
theorem coded388:CX (33, 388):=codedAt_of (a:=ac388) rfl Tryz.func33 (by kernel_rfl) (by kernel_rfl)
theorem coded389:CX (34, 389):=codedAt_of (a:=ac389) rfl Tryz.func34 (by kernel_rfl) (by kernel_rfl)
theorem coded390:CX (72, 390):=codedAt_of (a:=ac390) rfl Tryz.func72 (by kernel_rfl) (by kernel_rfl)
theorem coded391:CX (73, 391):=codedAt_of (a:=ac391) rfl Tryz.func73 (by kernel_rfl) (by kernel_rfl)
theorem coded394:CX (35, 394):=codedAt_of (a:=ac394) rfl Tryz.func35 (by kernel_rfl) (by kernel_rfl)
theorem coded395:CX (71, 395):=codedAt_of (a:=ac395) rfl Tryz.func71 (by kernel_rfl) (by kernel_rfl)
theorem coded396:CX (36, 396):=codedAt_of (a:=ac396) rfl Tryz.func36 (by kernel_rfl) (by kernel_rfl)
theorem coded397:CX (39, 397):=codedAt_of (a:=ac397) rfl Tryz.func39 (by kernel_rfl) (by kernel_rfl)
theorem coded398:CX (40, 398):=codedAt_of (a:=ac398) rfl Tryz.func40 (by kernel_rfl) (by kernel_rfl)
theorem coded399:CX (43, 399):=codedAt_of (a:=ac399) rfl Tryz.func43 (by kernel_rfl) (by kernel_rfl)
theorem coded400:CX (44, 400):=codedAt_of (a:=ac400) rfl Tryz.func44 (by kernel_rfl) (by kernel_rfl)
theorem coded401:CX (45, 401):=codedAt_of (a:=ac401) rfl Tryz.func45 (by kernel_rfl) (by kernel_rfl)
theorem coded402:CX (47, 402):=codedAt_of (a:=ac402) rfl Tryz.func47 (by kernel_rfl) (by kernel_rfl)
theorem coded404:CX (85, 404):=codedAt_of (a:=ac404) rfl Tryz.func85 (by kernel_rfl) (by kernel_rfl)
theorem coded405:CX (52, 405):=codedAt_of (a:=ac405) rfl Tryz.func52 (by kernel_rfl) (by kernel_rfl)
theorem coded406:CX (53, 406):=codedAt_of (a:=ac406) rfl Tryz.func53 (by kernel_rfl) (by kernel_rfl)
theorem coded407:CX (54, 407):=codedAt_of (a:=ac407) rfl Tryz.func54 (by kernel_rfl) (by kernel_rfl)
theorem coded408:CX (55, 408):=codedAt_of (a:=ac408) rfl Tryz.func55 (by kernel_rfl) (by kernel_rfl)
theorem coded409:CX (56, 409):=codedAt_of (a:=ac409) rfl Tryz.func56 (by kernel_rfl) (by kernel_rfl)
theorem coded410:CX (57, 410):=codedAt_of (a:=ac410) rfl Tryz.func57 (by kernel_rfl) (by kernel_rfl)
theorem coded411:CX (58, 411):=codedAt_of (a:=ac411) rfl Tryz.func58 (by kernel_rfl) (by kernel_rfl)
theorem coded412:CX (59, 412):=codedAt_of (a:=ac412) rfl Tryz.func59 (by kernel_rfl) (by kernel_rfl)
theorem coded413:CX (60, 413):=codedAt_of (a:=ac413) rfl Tryz.func60 (by kernel_rfl) (by kernel_rfl)
theorem coded414:CX (64, 414):=codedAt_of (a:=ac414) rfl Tryz.func64 (by kernel_rfl) (by kernel_rfl)
theorem coded415:CX (67, 415):=codedAt_of (a:=ac415) rfl Tryz.func67 (by kernel_rfl) (by kernel_rfl)
theorem coded416:CX (68, 416):=codedAt_of (a:=ac416) rfl Tryz.func68 (by kernel_rfl) (by kernel_rfl)
theorem coded417:CX (69, 417):=codedAt_of (a:=ac417) rfl Tryz.func69 (by kernel_rfl) (by kernel_rfl)
theorem coded418:CX (70, 418):=codedAt_of (a:=ac418) rfl Tryz.func70 (by kernel_rfl) (by kernel_rfl)
theorem coded419:CX (91, 419):=codedAt_of (a:=ac419) rfl Tryz.func91 (by kernel_rfl) (by kernel_rfl)
theorem coded420:CX (92, 420):=codedAt_of (a:=ac420) rfl Tryz.func92 (by kernel_rfl) (by kernel_rfl)
theorem coded421:CX (93, 421):=codedAt_of (a:=ac421) rfl Tryz.func93 (by kernel_rfl) (by kernel_rfl)
theorem coded422:CX (94, 422):=codedAt_of (a:=ac422) rfl Tryz.func94 (by kernel_rfl) (by kernel_rfl)
theorem coded423:CX (76, 423):=codedAt_of (a:=ac423) rfl Tryz.func76 (by kernel_rfl) (by kernel_rfl)
theorem coded424:CX (78, 424):=codedAt_of (a:=ac424) rfl Tryz.func78 (by kernel_rfl) (by kernel_rfl)
theorem coded425:CX (80, 425):=codedAt_of (a:=ac425) rfl Tryz.func80 (by kernel_rfl) (by kernel_rfl)
theorem coded426:CX (83, 426):=codedAt_of (a:=ac426) rfl Tryz.func83 (by kernel_rfl) (by kernel_rfl)
theorem coded427:CX (84, 427):=codedAt_of (a:=ac427) rfl Tryz.func84 (by kernel_rfl) (by kernel_rfl)
theorem coded428:CX (108, 428):=codedAt_of (a:=ac428) rfl Tryz.func108 (by kernel_rfl) (by kernel_rfl)
theorem coded429:CX (109, 429):=codedAt_of (a:=ac429) rfl Tryz.func109 (by kernel_rfl) (by kernel_rfl)
theorem coded430:CX (110, 430):=codedAt_of (a:=ac430) rfl Tryz.func110 (by kernel_rfl) (by kernel_rfl)
theorem coded431:CX (111, 431):=codedAt_of (a:=ac431) rfl Tryz.func111 (by kernel_rfl) (by kernel_rfl)
theorem coded432:CX (89, 432):=codedAt_of (a:=ac432) rfl Tryz.func89 (by kernel_rfl) (by kernel_rfl)
theorem coded433:CX (90, 433):=codedAt_of (a:=ac433) rfl Tryz.func90 (by kernel_rfl) (by kernel_rfl)
theorem coded434:CX (119, 434):=codedAt_of (a:=ac434) rfl Tryz.func119 (by kernel_rfl) (by kernel_rfl)
theorem coded435:CX (120, 435):=codedAt_of (a:=ac435) rfl Tryz.func120 (by kernel_rfl) (by kernel_rfl)
theorem coded436:CX (106, 436):=codedAt_of (a:=ac436) rfl Tryz.func106 (by kernel_rfl) (by kernel_rfl)
theorem coded437:CX (107, 437):=codedAt_of (a:=ac437) rfl Tryz.func107 (by kernel_rfl) (by kernel_rfl)
theorem coded438:CX (118, 438):=codedAt_of (a:=ac438) rfl Tryz.func118 (by kernel_rfl) (by kernel_rfl)
theorem coded217:CX (38, 217):=bodied_of rfl Tryz.func38 rfl (by kernel_rfl)
theorem clone217:CloneAt Tryz.prog (fidOf fids) pf 217 (3, 24):=fun g hg=>by
  have h:=fidOf_mem hg
  have e:g=38:=by simpa [fids] using h
  subst e
  exact ⟨Tryz.f38, 32, 43, _, _, _, _, _, _, _, _, _, _, _, Tryz.func38, by kernel_rfl, rfl, rfl, rfl, by kernel_rfl, rfl, by kernel_rfl, rfl, rfl, rfl, by kernel_rfl, by kernel_rfl⟩
theorem ctxOk:CtxOk Tryz.prog (fidOf fids) pf CB:=ctxOk_of (by
  intro p hp
  simp only[fids, List.mem_cons, List.not_mem_nil, or_false] at hp
  rcases hp with rfl | rfl | rfl | rfl | rfl | rfl | rfl | rfl | rfl | rfl | rfl | rfl | rfl | rfl | rfl | rfl | rfl | rfl | rfl | rfl | rfl | rfl | rfl | rfl | rfl | rfl | rfl | rfl | rfl | rfl | rfl | rfl | rfl | rfl | rfl | rfl | rfl | rfl | rfl | rfl | rfl | rfl | rfl | rfl | rfl | rfl | rfl | rfl | rfl | rfl | rfl | rfl | rfl | rfl | rfl | rfl | rfl | rfl | rfl | rfl | rfl | rfl | rfl | rfl | rfl | rfl | rfl | rfl | rfl | rfl | rfl | rfl | rfl | rfl | rfl | rfl | rfl | rfl | rfl | rfl | rfl | rfl | rfl | rfl | rfl | rfl | rfl | rfl | rfl | rfl | rfl | rfl | rfl | rfl | rfl | rfl | rfl | rfl | rfl | rfl | rfl | rfl | rfl | rfl | rfl | rfl | rfl | rfl | rfl | rfl | rfl | rfl | rfl | rfl | rfl | rfl | rfl | rfl | rfl
  · exact coded49
  · exact coded72
  · exact coded73
  · exact coded74
  · exact coded86
  · exact coded87
  · exact coded199
  · exact coded200
  · exact coded201
  · exact coded208
  · exact coded209
  · exact coded219
  · exact coded220
  · exact coded221
  · exact coded222
  · exact coded223
  · exact coded224
  · exact coded225
  · exact coded226
  · exact coded227
  · exact coded231
  · exact coded247
  · exact coded248
  · exact coded249
  · exact coded252
  · exact coded261
  · exact coded313
  · exact coded317
  · exact coded318
  · exact coded319
  · exact coded321
  · exact coded322
  · exact coded326
  · exact coded328
  · exact coded329
  · exact coded330
  · exact coded331
  · exact coded332
  · exact coded333
  · exact coded339
  · exact coded340
  · exact coded344
  · exact coded345
  · exact coded346
  · exact coded348
  · exact coded350
  · exact coded351
  · exact coded352
  · exact coded353
  · exact coded354
  · exact coded355
  · exact coded357
  · exact coded358
  · exact coded359
  · exact coded360
  · exact coded366
  · exact coded367
  · exact coded369
  · exact coded370
  · exact coded371
  · exact coded372
  · exact coded376
  · exact coded377
  · exact coded378
  · exact coded379
  · exact coded380
  · exact coded381
  · exact coded382
  · exact coded383
  · exact coded384
  · exact coded388
  · exact coded389
  · exact coded390
  · exact coded391
  · exact coded394
  · exact coded395
  · exact coded396
  · exact coded397
  · exact coded398
  · exact coded399
  · exact coded400
  · exact coded401
  · exact coded402
  · exact coded404
  · exact coded405
  · exact coded406
  · exact coded407
  · exact coded408
  · exact coded409
  · exact coded410
  · exact coded411
  · exact coded412
  · exact coded413
  · exact coded414
  · exact coded415
  · exact coded416
  · exact coded417
  · exact coded418
  · exact coded419
  · exact coded420
  · exact coded421
  · exact coded422
  · exact coded423
  · exact coded424
  · exact coded425
  · exact coded426
  · exact coded427
  · exact coded428
  · exact coded429
  · exact coded430
  · exact coded431
  · exact coded432
  · exact coded433
  · exact coded434
  · exact coded435
  · exact coded436
  · exact coded437
  · exact coded438
  · exact coded217) (fun f p h=>by simp [clRB] at h) (fun f p h=>by
  unfold clPB at h
  split at h
  · cases h
    exact ⟨rfl, clone217⟩
  · cases h)
end Go.Proofs.YtjmhldkncidpiaaGreatDoor
