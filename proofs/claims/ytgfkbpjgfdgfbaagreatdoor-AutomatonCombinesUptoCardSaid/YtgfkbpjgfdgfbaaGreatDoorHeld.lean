/- The functions of the program, compiled, are the table's. -/
import Derived.Test.YtgfkbpjgfdgfbaaGreatDoorRows
import Derived.Test.YtgfkbpjgfdgfbaaGreatDoorMachD
import Derived.Test.YtgfkbpjgfdgfbaaGreatDoorMachE
import Derived.Test.YtgfkbpjgfdgfbaaGreatDoorMachH
import Derived.Test.YtgfkbpjgfdgfbaaGreatDoorCodeB
import Derived.Test.YtgfkbpjgfdgfbaaGreatDoorShelf
set_option linter.unusedSimpArgs false
set_option linter.unusedVariables false
set_option maxRecDepth 100000
namespace Go.Proofs.YtgfkbpjgfdgfbaaGreatDoor
open Ago
instance tabI:TabC ():=tabOf Tryz.prog
def fids:List (Nat × Nat):=[(97, 49), (115, 72), (102, 73), (125, 74), (121, 86), (122, 87), (82, 199), (83, 200), (85, 201), (96, 208), (98, 209), (106, 219), (107, 220), (108, 221), (109, 222), (110, 223), (111, 224), (112, 225), (113, 226), (114, 227), (24, 231), (120, 247), (123, 248), (124, 249), (41, 252), (127, 261), (3, 311), (4, 317), (5, 318), (6, 319), (7, 320), (8, 321), (9, 322), (10, 323), (11, 324), (12, 325), (28, 326), (15, 328), (13, 339), (60, 340), (14, 344), (16, 345), (17, 346), (18, 347), (19, 348), (20, 349), (46, 350), (48, 351), (25, 352), (34, 354), (27, 355), (52, 356), (76, 357), (21, 358), (22, 359), (75, 360), (23, 366), (26, 367), (29, 368), (40, 370), (45, 372), (64, 373), (47, 374), (51, 375), (89, 376), (30, 377), (31, 378), (32, 379), (33, 380), (35, 381), (36, 382), (37, 383), (88, 384), (38, 388), (39, 389), (42, 390), (43, 391), (49, 392), (50, 393), (53, 396), (55, 397), (56, 398), (57, 399), (58, 400), (59, 401), (61, 402), (63, 403), (65, 405), (66, 406), (67, 407), (68, 408), (69, 409), (70, 410), (71, 411), (72, 412), (73, 413), (74, 414), (77, 415), (78, 416), (79, 417), (80, 418), (84, 423), (86, 424), (87, 425), (90, 426), (91, 427), (99, 432), (100, 433), (116, 436), (117, 437), (126, 438), (54, 217), (44, 371)]
def pf (f:Nat):Bool:=!([86, 87, 199, 200, 201, 208, 209, 219, 220, 221, 222, 223, 224, 226, 227, 247, 248, 249, 261, 346, 348, 349, 352, 390, 405, 406, 407, 408, 410, 412, 413, 424]:List Nat).contains f
abbrev CX (p:Nat × Nat):Prop:=CodedAt Tryz.prog (fidOf fids) pf codeB p
theorem upB {f:Nat} {ts:List AV} {v:AV} (h:PRun CA f ts v):PRun CB f ts v:=bs_ext (C:=CA) (C':=CB) (fun f fn h=>by
  show codeB f=some fn
  have h:codeA f=some fn:=h
  unfold codeB
  rw[h]) (fun _ _ _ _ _ h=>h) (fun _ _ _ h=>h) h
theorem coded49:CX (97, 49):=codedAt_of (a:=ac49) rfl Tryz.func97 (by kernel_rfl) (by kernel_rfl)
theorem coded72:CX (115, 72):=codedAt_of (a:=ac72) rfl Tryz.func115 (by kernel_rfl) (by kernel_rfl)
theorem coded73:CX (102, 73):=codedAt_of (a:=ac73) rfl Tryz.func102 (by kernel_rfl) (by kernel_rfl)
theorem coded74:CX (125, 74):=codedAt_of (a:=ac74) rfl Tryz.func125 (by kernel_rfl) (by kernel_rfl)
theorem coded86:CX (121, 86):=codedAt_of (a:=ac86) rfl Tryz.func121 (by kernel_rfl) (by kernel_rfl)
theorem coded87:CX (122, 87):=codedAt_of (a:=ac87) rfl Tryz.func122 (by kernel_rfl) (by kernel_rfl)
theorem coded199:CX (82, 199):=codedAt_of (a:=ac199) rfl Tryz.func82 (by kernel_rfl) (by kernel_rfl)
theorem coded200:CX (83, 200):=codedAt_of (a:=ac200) rfl Tryz.func83 (by kernel_rfl) (by kernel_rfl)
theorem coded201:CX (85, 201):=codedAt_of (a:=ac201) rfl Tryz.func85 (by kernel_rfl) (by kernel_rfl)
theorem coded208:CX (96, 208):=codedAt_of (a:=ac208) rfl Tryz.func96 (by kernel_rfl) (by kernel_rfl)
theorem coded209:CX (98, 209):=codedAt_of (a:=ac209) rfl Tryz.func98 (by kernel_rfl) (by kernel_rfl)
theorem coded219:CX (106, 219):=codedAt_of (a:=ac219) rfl Tryz.func106 (by kernel_rfl) (by kernel_rfl)
theorem coded220:CX (107, 220):=codedAt_of (a:=ac220) rfl Tryz.func107 (by kernel_rfl) (by kernel_rfl)
theorem coded221:CX (108, 221):=codedAt_of (a:=ac221) rfl Tryz.func108 (by kernel_rfl) (by kernel_rfl)
theorem coded222:CX (109, 222):=codedAt_of (a:=ac222) rfl Tryz.func109 (by kernel_rfl) (by kernel_rfl)
theorem coded223:CX (110, 223):=codedAt_of (a:=ac223) rfl Tryz.func110 (by kernel_rfl) (by kernel_rfl)
theorem coded224:CX (111, 224):=codedAt_of (a:=ac224) rfl Tryz.func111 (by kernel_rfl) (by kernel_rfl)
theorem coded225:CX (112, 225):=codedAt_of (a:=ac225) rfl Tryz.func112 (by kernel_rfl) (by kernel_rfl)
theorem coded226:CX (113, 226):=codedAt_of (a:=ac226) rfl Tryz.func113 (by kernel_rfl) (by kernel_rfl)
theorem coded227:CX (114, 227):=codedAt_of (a:=ac227) rfl Tryz.func114 (by kernel_rfl) (by kernel_rfl)
theorem coded231:CX (24, 231):=codedAt_of (a:=ac231) rfl Tryz.func24 (by kernel_rfl) (by kernel_rfl)
theorem coded247:CX (120, 247):=codedAt_of (a:=ac247) rfl Tryz.func120 (by kernel_rfl) (by kernel_rfl)
theorem coded248:CX (123, 248):=codedAt_of (a:=ac248) rfl Tryz.func123 (by kernel_rfl) (by kernel_rfl)
theorem coded249:CX (124, 249):=codedAt_of (a:=ac249) rfl Tryz.func124 (by kernel_rfl) (by kernel_rfl)
theorem coded252:CX (41, 252):=codedAt_of (a:=ac252) rfl Tryz.func41 (by kernel_rfl) (by kernel_rfl)
theorem coded261:CX (127, 261):=codedAt_of (a:=ac261) rfl Tryz.func127 (by kernel_rfl) (by kernel_rfl)
theorem coded311:CX (3, 311):=codedAt_of (a:=ac311) rfl Tryz.func3 (by kernel_rfl) (by kernel_rfl)
theorem coded317:CX (4, 317):=codedAt_of (a:=ac317) rfl Tryz.func4 (by kernel_rfl) (by kernel_rfl)
theorem coded318:CX (5, 318):=codedAt_of (a:=ac318) rfl Tryz.func5 (by kernel_rfl) (by kernel_rfl)
theorem coded319:CX (6, 319):=codedAt_of (a:=ac319) rfl Tryz.func6 (by kernel_rfl) (by kernel_rfl)
theorem coded320:CX (7, 320):=codedAt_of (a:=ac320) rfl Tryz.func7 (by kernel_rfl) (by kernel_rfl)
theorem coded321:CX (8, 321):=codedAt_of (a:=ac321) rfl Tryz.func8 (by kernel_rfl) (by kernel_rfl)
theorem coded322:CX (9, 322):=codedAt_of (a:=ac322) rfl Tryz.func9 (by kernel_rfl) (by kernel_rfl)
theorem coded323:CX (10, 323):=codedAt_of (a:=ac323) rfl Tryz.func10 (by kernel_rfl) (by kernel_rfl)
theorem coded324:CX (11, 324):=codedAt_of (a:=ac324) rfl Tryz.func11 (by kernel_rfl) (by kernel_rfl)
theorem coded325:CX (12, 325):=codedAt_of (a:=ac325) rfl Tryz.func12 (by kernel_rfl) (by kernel_rfl)
theorem coded326:CX (28, 326):=codedAt_of (a:=ac326) rfl Tryz.func28 (by kernel_rfl) (by kernel_rfl)
theorem coded328:CX (15, 328):=codedAt_of (a:=ac328) rfl Tryz.func15 (by kernel_rfl) (by kernel_rfl)
theorem coded339:CX (13, 339):=codedAt_of (a:=ac339) rfl Tryz.func13 (by kernel_rfl) (by kernel_rfl)
theorem coded340:CX (60, 340):=codedAt_of (a:=ac340) rfl Tryz.func60 (by kernel_rfl) (by kernel_rfl)
theorem coded344:CX (14, 344):=codedAt_of (a:=ac344) rfl Tryz.func14 (by kernel_rfl) (by kernel_rfl)
theorem coded345:CX (16, 345):=codedAt_of (a:=ac345) rfl Tryz.func16 (by kernel_rfl) (by kernel_rfl)
theorem coded346:CX (17, 346):=codedAt_of (a:=ac346) rfl Tryz.func17 (by kernel_rfl) (by kernel_rfl)
theorem coded347:CX (18, 347):=codedAt_of (a:=ac347) rfl Tryz.func18 (by kernel_rfl) (by kernel_rfl)
theorem coded348:CX (19, 348):=codedAt_of (a:=ac348) rfl Tryz.func19 (by kernel_rfl) (by kernel_rfl)
theorem coded349:CX (20, 349):=codedAt_of (a:=ac349) rfl Tryz.func20 (by kernel_rfl) (by kernel_rfl)
theorem coded350:CX (46, 350):=codedAt_of (a:=ac350) rfl Tryz.func46 (by kernel_rfl) (by kernel_rfl)
theorem coded351:CX (48, 351):=codedAt_of (a:=ac351) rfl Tryz.func48 (by kernel_rfl) (by kernel_rfl)
theorem coded352:CX (25, 352):=codedAt_of (a:=ac352) rfl Tryz.func25 (by kernel_rfl) (by kernel_rfl)
theorem coded354:CX (34, 354):=codedAt_of (a:=ac354) rfl Tryz.func34 (by kernel_rfl) (by kernel_rfl)
theorem coded355:CX (27, 355):=codedAt_of (a:=ac355) rfl Tryz.func27 (by kernel_rfl) (by kernel_rfl)
theorem coded356:CX (52, 356):=codedAt_of (a:=ac356) rfl Tryz.func52 (by kernel_rfl) (by kernel_rfl)
theorem coded357:CX (76, 357):=codedAt_of (a:=ac357) rfl Tryz.func76 (by kernel_rfl) (by kernel_rfl)
theorem coded358:CX (21, 358):=codedAt_of (a:=ac358) rfl Tryz.func21 (by kernel_rfl) (by kernel_rfl)
theorem coded359:CX (22, 359):=codedAt_of (a:=ac359) rfl Tryz.func22 (by kernel_rfl) (by kernel_rfl)
theorem coded360:CX (75, 360):=codedAt_of (a:=ac360) rfl Tryz.func75 (by kernel_rfl) (by kernel_rfl)
theorem coded366:CX (23, 366):=codedAt_of (a:=ac366) rfl Tryz.func23 (by kernel_rfl) (by kernel_rfl)
theorem coded367:CX (26, 367):=codedAt_of (a:=ac367) rfl Tryz.func26 (by kernel_rfl) (by kernel_rfl)
theorem coded368:CX (29, 368):=codedAt_of (a:=ac368) rfl Tryz.func29 (by kernel_rfl) (by kernel_rfl)
theorem coded370:CX (40, 370):=codedAt_of (a:=ac370) rfl Tryz.func40 (by kernel_rfl) (by kernel_rfl)
theorem coded372:CX (45, 372):=codedAt_of (a:=ac372) rfl Tryz.func45 (by kernel_rfl) (by kernel_rfl)
theorem coded373:CX (64, 373):=codedAt_of (a:=ac373) rfl Tryz.func64 (by kernel_rfl) (by kernel_rfl)
theorem coded374:CX (47, 374):=codedAt_of (a:=ac374) rfl Tryz.func47 (by kernel_rfl) (by kernel_rfl)
theorem coded375:CX (51, 375):=codedAt_of (a:=ac375) rfl Tryz.func51 (by kernel_rfl) (by kernel_rfl)
theorem coded376:CX (89, 376):=codedAt_of (a:=ac376) rfl Tryz.func89 (by kernel_rfl) (by kernel_rfl)
theorem coded377:CX (30, 377):=codedAt_of (a:=ac377) rfl Tryz.func30 (by kernel_rfl) (by kernel_rfl)
theorem coded378:CX (31, 378):=codedAt_of (a:=ac378) rfl Tryz.func31 (by kernel_rfl) (by kernel_rfl)
theorem coded379:CX (32, 379):=codedAt_of (a:=ac379) rfl Tryz.func32 (by kernel_rfl) (by kernel_rfl)
theorem coded380:CX (33, 380):=codedAt_of (a:=ac380) rfl Tryz.func33 (by kernel_rfl) (by kernel_rfl)
theorem coded381:CX (35, 381):=codedAt_of (a:=ac381) rfl Tryz.func35 (by kernel_rfl) (by kernel_rfl)
theorem coded382:CX (36, 382):=codedAt_of (a:=ac382) rfl Tryz.func36 (by kernel_rfl) (by kernel_rfl)
theorem coded383:CX (37, 383):=codedAt_of (a:=ac383) rfl Tryz.func37 (by kernel_rfl) (by kernel_rfl)
theorem coded384:CX (88, 384):=codedAt_of (a:=ac384) rfl Tryz.func88 (by kernel_rfl) (by kernel_rfl)
theorem coded388:CX (38, 388):=codedAt_of (a:=ac388) rfl Tryz.func38 (by kernel_rfl) (by kernel_rfl)
theorem coded389:CX (39, 389):=codedAt_of (a:=ac389) rfl Tryz.func39 (by kernel_rfl) (by kernel_rfl)
theorem coded390:CX (42, 390):=codedAt_of (a:=ac390) rfl Tryz.func42 (by kernel_rfl) (by kernel_rfl)
theorem coded391:CX (43, 391):=codedAt_of (a:=ac391) rfl Tryz.func43 (by kernel_rfl) (by kernel_rfl)
theorem coded392:CX (49, 392):=codedAt_of (a:=ac392) rfl Tryz.func49 (by kernel_rfl) (by kernel_rfl)
theorem coded393:CX (50, 393):=codedAt_of (a:=ac393) rfl Tryz.func50 (by kernel_rfl) (by kernel_rfl)
theorem coded396:CX (53, 396):=codedAt_of (a:=ac396) rfl Tryz.func53 (by kernel_rfl) (by kernel_rfl)
theorem coded397:CX (55, 397):=codedAt_of (a:=ac397) rfl Tryz.func55 (by kernel_rfl) (by kernel_rfl)
theorem coded398:CX (56, 398):=codedAt_of (a:=ac398) rfl Tryz.func56 (by kernel_rfl) (by kernel_rfl)
theorem coded399:CX (57, 399):=codedAt_of (a:=ac399) rfl Tryz.func57 (by kernel_rfl) (by kernel_rfl)
theorem coded400:CX (58, 400):=codedAt_of (a:=ac400) rfl Tryz.func58 (by kernel_rfl) (by kernel_rfl)
theorem coded401:CX (59, 401):=codedAt_of (a:=ac401) rfl Tryz.func59 (by kernel_rfl) (by kernel_rfl)
theorem coded402:CX (61, 402):=codedAt_of (a:=ac402) rfl Tryz.func61 (by kernel_rfl) (by kernel_rfl)
theorem coded403:CX (63, 403):=codedAt_of (a:=ac403) rfl Tryz.func63 (by kernel_rfl) (by kernel_rfl)
theorem coded405:CX (65, 405):=codedAt_of (a:=ac405) rfl Tryz.func65 (by kernel_rfl) (by kernel_rfl)
theorem coded406:CX (66, 406):=codedAt_of (a:=ac406) rfl Tryz.func66 (by kernel_rfl) (by kernel_rfl)
theorem coded407:CX (67, 407):=codedAt_of (a:=ac407) rfl Tryz.func67 (by kernel_rfl) (by kernel_rfl)
theorem coded408:CX (68, 408):=codedAt_of (a:=ac408) rfl Tryz.func68 (by kernel_rfl) (by kernel_rfl)
theorem coded409:CX (69, 409):=codedAt_of (a:=ac409) rfl Tryz.func69 (by kernel_rfl) (by kernel_rfl)
theorem coded410:CX (70, 410):=codedAt_of (a:=ac410) rfl Tryz.func70 (by kernel_rfl) (by kernel_rfl)
theorem coded411:CX (71, 411):=codedAt_of (a:=ac411) rfl Tryz.func71 (by kernel_rfl) (by kernel_rfl)
theorem coded412:CX (72, 412):=codedAt_of (a:=ac412) rfl Tryz.func72 (by kernel_rfl) (by kernel_rfl)
theorem coded413:CX (73, 413):=codedAt_of (a:=ac413) rfl Tryz.func73 (by kernel_rfl) (by kernel_rfl)
theorem coded414:CX (74, 414):=codedAt_of (a:=ac414) rfl Tryz.func74 (by kernel_rfl) (by kernel_rfl)
theorem coded415:CX (77, 415):=codedAt_of (a:=ac415) rfl Tryz.func77 (by kernel_rfl) (by kernel_rfl)
theorem coded416:CX (78, 416):=codedAt_of (a:=ac416) rfl Tryz.func78 (by kernel_rfl) (by kernel_rfl)
theorem coded417:CX (79, 417):=codedAt_of (a:=ac417) rfl Tryz.func79 (by kernel_rfl) (by kernel_rfl)
theorem coded418:CX (80, 418):=codedAt_of (a:=ac418) rfl Tryz.func80 (by kernel_rfl) (by kernel_rfl)
theorem coded423:CX (84, 423):=codedAt_of (a:=ac423) rfl Tryz.func84 (by kernel_rfl) (by kernel_rfl)
theorem coded424:CX (86, 424):=codedAt_of (a:=ac424) rfl Tryz.func86 (by kernel_rfl) (by kernel_rfl)
theorem coded425:CX (87, 425):=codedAt_of (a:=ac425) rfl Tryz.func87 (by kernel_rfl) (by kernel_rfl)
theorem coded426:CX (90, 426):=codedAt_of (a:=ac426) rfl Tryz.func90 (by kernel_rfl) (by kernel_rfl)
theorem coded427:CX (91, 427):=codedAt_of (a:=ac427) rfl Tryz.func91 (by kernel_rfl) (by kernel_rfl)
theorem coded432:CX (99, 432):=codedAt_of (a:=ac432) rfl Tryz.func99 (by kernel_rfl) (by kernel_rfl)
theorem coded433:CX (100, 433):=codedAt_of (a:=ac433) rfl Tryz.func100 (by kernel_rfl) (by kernel_rfl)
theorem coded436:CX (116, 436):=codedAt_of (a:=ac436) rfl Tryz.func116 (by kernel_rfl) (by kernel_rfl)
theorem coded437:CX (117, 437):=codedAt_of (a:=ac437) rfl Tryz.func117 (by kernel_rfl) (by kernel_rfl)
theorem coded438:CX (126, 438):=codedAt_of (a:=ac438) rfl Tryz.func126 (by kernel_rfl) (by kernel_rfl)
theorem coded217:CX (54, 217):=bodied_of rfl Tryz.func54 rfl (by kernel_rfl)
theorem clone217:CloneAt Tryz.prog (fidOf fids) pf 217 (3, 24):=fun g hg=>by
  have h:=fidOf_mem hg
  have e:g=54:=by simpa [fids] using h
  subst e
  exact ⟨Tryz.f54, 33, 42, _, _, _, _, _, _, _, _, _, _, _, Tryz.func54, by kernel_rfl, rfl, rfl, rfl, by kernel_rfl, rfl, by kernel_rfl, rfl, rfl, rfl, by kernel_rfl, by kernel_rfl⟩
theorem coded371:CX (44, 371):=bodied_of rfl Tryz.func44 rfl (by kernel_rfl)
theorem ctxOk0:CtxOk Tryz.prog (fidOf fids) pf (mkCtx codeB clRB clPB):=ctxOk_of (by
  intro p hp
  simp only[fids, List.mem_cons, List.not_mem_nil, or_false] at hp
  rcases hp with rfl | rfl | rfl | rfl | rfl | rfl | rfl | rfl | rfl | rfl | rfl | rfl | rfl | rfl | rfl | rfl | rfl | rfl | rfl | rfl | rfl | rfl | rfl | rfl | rfl | rfl | rfl | rfl | rfl | rfl | rfl | rfl | rfl | rfl | rfl | rfl | rfl | rfl | rfl | rfl | rfl | rfl | rfl | rfl | rfl | rfl | rfl | rfl | rfl | rfl | rfl | rfl | rfl | rfl | rfl | rfl | rfl | rfl | rfl | rfl | rfl | rfl | rfl | rfl | rfl | rfl | rfl | rfl | rfl | rfl | rfl | rfl | rfl | rfl | rfl | rfl | rfl | rfl | rfl | rfl | rfl | rfl | rfl | rfl | rfl | rfl | rfl | rfl | rfl | rfl | rfl | rfl | rfl | rfl | rfl | rfl | rfl | rfl | rfl | rfl | rfl | rfl | rfl | rfl | rfl | rfl | rfl | rfl | rfl | rfl | rfl | rfl | rfl
  · exact coded49
  · exact coded72
  · exact coded73
  · exact coded74
  · exact coded86
  · exact coded87
  · exact coded199
  · exact coded200
  · exact coded201
  · exact coded208
  · exact coded209
  · exact coded219
  · exact coded220
  · exact coded221
  · exact coded222
  · exact coded223
  · exact coded224
  · exact coded225
  · exact coded226
  · exact coded227
  · exact coded231
  · exact coded247
  · exact coded248
  · exact coded249
  · exact coded252
  · exact coded261
  · exact coded311
  · exact coded317
  · exact coded318
  · exact coded319
  · exact coded320
  · exact coded321
  · exact coded322
  · exact coded323
  · exact coded324
  · exact coded325
  · exact coded326
  · exact coded328
  · exact coded339
  · exact coded340
  · exact coded344
  · exact coded345
  · exact coded346
  · exact coded347
  · exact coded348
  · exact coded349
  · exact coded350
  · exact coded351
  · exact coded352
  · exact coded354
  · exact coded355
  · exact coded356
  · exact coded357
  · exact coded358
  · exact coded359
  · exact coded360
  · exact coded366
  · exact coded367
  · exact coded368
  · exact coded370
  · exact coded372
  · exact coded373
  · exact coded374
  · exact coded375
  · exact coded376
  · exact coded377
  · exact coded378
  · exact coded379
  · exact coded380
  · exact coded381
  · exact coded382
  · exact coded383
  · exact coded384
  · exact coded388
  · exact coded389
  · exact coded390
  · exact coded391
  · exact coded392
  · exact coded393
  · exact coded396
  · exact coded397
  · exact coded398
  · exact coded399
  · exact coded400
  · exact coded401
  · exact coded402
  · exact coded403
  · exact coded405
  · exact coded406
  · exact coded407
  · exact coded408
  · exact coded409
  · exact coded410
  · exact coded411
  · exact coded412
  · exact coded413
  · exact coded414
  · exact coded415
  · exact coded416
  · exact coded417
  · exact coded418
  · exact coded423
  · exact coded424
  · exact coded425
  · exact coded426
  · exact coded427
  · exact coded432
  · exact coded433
  · exact coded436
  · exact coded437
  · exact coded438
  · exact coded217
  · exact coded371) (fun f p h=>by simp [clRB] at h) (fun f p h=>by
  unfold clPB at h
  split at h
  · cases h
    exact ⟨rfl, clone217⟩
  · cases h)
theorem ctxOk:CtxOk Tryz.prog (fidOf fids) pf CB:=funCtx_ok ctxOk0 (fun f F h=>by
  unfold ppA at h
  split at h
  · cases h
    exact ⟨rfl, itoa_at (fun g hg=>by
      have h:=fidOf_mem hg
      have e:g=44:=by simpa [fids] using h
      subst e
      exact ⟨_, Tryz.laysM171, rfl⟩), fun ts v h=>by
      obtain ⟨p, l, h, _⟩:=h
      cases h⟩
  · cases h)
end Go.Proofs.YtgfkbpjgfdgfbaaGreatDoor
