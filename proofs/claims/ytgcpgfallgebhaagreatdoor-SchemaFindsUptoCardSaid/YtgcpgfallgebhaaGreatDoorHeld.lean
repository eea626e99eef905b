/- The functions of the program,compiled: those of the table,and the others as they are compiled. -/
import Derived.Test.YtgcpgfallgebhaaGreatDoorRows
import Derived.Test.YtgcpgfallgebhaaGreatDoorMachD
import Derived.Test.YtgcpgfallgebhaaGreatDoorMachH
import Derived.Test.YtgcpgfallgebhaaGreatDoorMachE
import Derived.Test.YtgcpgfallgebhaaGreatDoorCode
import Derived.Test.YtgcpgfallgebhaaGreatDoorShelf
set_option linter.unusedSimpArgs false
set_option linter.unusedVariables false
set_option maxRecDepth 100000
namespace Go.Proofs.YtgcpgfallgebhaaGreatDoor
open Ago
def fids : List (Nat × Nat) := [(79,18),(93,19),(21,24),(49,26),(76,29),(119,38),(127,39),(40,42),(74,45),(19,46),(147,57),(148,58),(187,59),(61,60),(38,63),(220,73),(166,78),(165,79),(167,80),(168,81),(202,82),(87,83),(60,84),(188,90),(189,91),(190,92),(124,93),(84,94),(85,95),(86,96),(102,123),(98,124),(43,126),(129,128),(130,129),(65,133),(149,136),(151,138),(105,139),(106,140),(107,141),(108,142),(169,143),(158,148),(134,149),(135,150),(136,151),(178,155),(157,158),(175,162),(195,167),(80,229),(120,250),(72,254),(142,257),(143,262),(111,265),(112,266),(113,267),(114,268),(115,269),(116,270),(140,274),(141,275),(163,287),(184,292),(185,293),(152,298),(133,300),(201,301),(209,307),(91,340),(78,357),(81,358),(126,360),(177,371),(118,376),(121,377),(122,378),(146,384),(196,395),(144,396),(206,404),(213,419),(214,420),(215,421),(216,422),(219,428),(221,429),(222,430),(223,431),(230,434),(231,435),(4,443),(5,453),(6,454),(7,455),(8,456),(9,457),(10,458),(11,459),(12,460),(13,461),(24,462),(25,464),(26,466),(15,474),(14,480),(18,481),(16,485),(17,486),(20,487),(22,488),(23,489),(27,490),(28,491),(30,492),(31,493),(32,494),(42,495),(44,497),(45,498),(34,507),(33,508),(37,509),(52,512),(35,513),(36,514),(39,515),(41,516),(47,517),(53,521),(54,522),(55,523),(56,524),(64,525),(77,529),(66,533),(67,534),(68,535),(69,536),(70,537),(71,538),(57,560),(58,562),(59,563),(62,564),(63,565),(75,567),(96,568),(97,569),(99,570),(100,571),(101,572),(103,573),(104,574),(109,575),(110,576),(82,597),(83,598),(88,599),(89,600),(90,601),(92,602),(94,603),(95,604),(128,605),(131,606),(132,607),(137,608),(138,609),(123,624),(125,625),(153,626),(154,627),(155,628),(156,629),(159,630),(160,631),(161,632),(162,633),(145,638),(176,639),(181,640),(182,641),(183,642),(198,644),(199,645),(200,646),(208,648),(217,649),(218,650),(224,651),(225,652),(226,653),(227,654),(228,655),(229,656),(232,657),(233,658),(46,216),(48,518),(50,519),(51,520),(73,566),(29,214),(139,130),(117,62),(164,272)]
def pf (f : Nat) : Bool := !([130,133,143,214,216,265,267,268,269,270,274,275,287,292,293,298,300,301,307,485,491,518,519,520,533,566,568,575,576,605,608,609,627,630,631,632,633,640,641,642,646] : List Nat).contains f
/-- Every loop keeps all slots. -/
def setL (n : Nat) : ACode → ACode
  | .seq a b => .seq (setL n a) (setL n b)
  | .cond x a b => .cond x (setL n a) (setL n b)
  | .block id b => .block id (setL n b)
  | .scope b => .scope (setL n b)
  | .loop _ b => .loop (List.range n) (setL n b)
  | c => c
theorem setL_strip (n : Nat) : ∀ c : ACode,c.strip = (setL n c).strip
  | .seq a b => by simp only [setL,ACode.strip,setL_strip n a,setL_strip n b]
  | .cond x a b => by simp only [setL,ACode.strip,setL_strip n a,setL_strip n b]
  | .block id b => by simp only [setL,ACode.strip,setL_strip n b]
  | .scope b => by simp only [setL,ACode.strip,setL_strip n b]
  | .loop l b => by simp only [setL,ACode.strip,setL_strip n b]
  | .skip => rfl
  | .ops l => rfl
  | .draw k l => rfl
  | .exit i => rfl
  | .ret => rfl
noncomputable def cmpl (gf : Func) : Option AFn := (compFn Tryz.prog (fidOf fids) pf gf).map fun x => { x with body := setL x.nt x.body }
noncomputable def codeR : Nat → Option AFn
  | 46 => cmpl Tryz.f19
  | 63 => cmpl Tryz.f38
  | 73 => cmpl Tryz.f220
  | 84 => cmpl Tryz.f60
  | 94 => cmpl Tryz.f84
  | 95 => cmpl Tryz.f85
  | 96 => cmpl Tryz.f86
  | 123 => cmpl Tryz.f102
  | 124 => cmpl Tryz.f98
  | 126 => cmpl Tryz.f43
  | 128 => cmpl Tryz.f129
  | 129 => cmpl Tryz.f130
  | 133 => cmpl Tryz.f65
  | 136 => cmpl Tryz.f149
  | 138 => cmpl Tryz.f151
  | 139 => cmpl Tryz.f105
  | 140 => cmpl Tryz.f106
  | 141 => cmpl Tryz.f107
  | 142 => cmpl Tryz.f108
  | 143 => cmpl Tryz.f169
  | 148 => cmpl Tryz.f158
  | 149 => cmpl Tryz.f134
  | 150 => cmpl Tryz.f135
  | 151 => cmpl Tryz.f136
  | 155 => cmpl Tryz.f178
  | 158 => cmpl Tryz.f157
  | 162 => cmpl Tryz.f175
  | 167 => cmpl Tryz.f195
  | 229 => cmpl Tryz.f80
  | 250 => cmpl Tryz.f120
  | 254 => cmpl Tryz.f72
  | 257 => cmpl Tryz.f142
  | 262 => cmpl Tryz.f143
  | 265 => cmpl Tryz.f111
  | 266 => cmpl Tryz.f112
  | 267 => cmpl Tryz.f113
  | 268 => cmpl Tryz.f114
  | 269 => cmpl Tryz.f115
  | 270 => cmpl Tryz.f116
  | 274 => cmpl Tryz.f140
  | 275 => cmpl Tryz.f141
  | 287 => cmpl Tryz.f163
  | 292 => cmpl Tryz.f184
  | 293 => cmpl Tryz.f185
  | 298 => cmpl Tryz.f152
  | 300 => cmpl Tryz.f133
  | 301 => cmpl Tryz.f201
  | 307 => cmpl Tryz.f209
  | 358 => cmpl Tryz.f81
  | 371 => cmpl Tryz.f177
  | 377 => cmpl Tryz.f121
  | 378 => cmpl Tryz.f122
  | 395 => cmpl Tryz.f196
  | 396 => cmpl Tryz.f144
  | 404 => cmpl Tryz.f206
  | 419 => cmpl Tryz.f213
  | 420 => cmpl Tryz.f214
  | 421 => cmpl Tryz.f215
  | 422 => cmpl Tryz.f216
  | 428 => cmpl Tryz.f219
  | 429 => cmpl Tryz.f221
  | 430 => cmpl Tryz.f222
  | 431 => cmpl Tryz.f223
  | 434 => cmpl Tryz.f230
  | 435 => cmpl Tryz.f231
  | 454 => cmpl Tryz.f6
  | 456 => cmpl Tryz.f8
  | 462 => cmpl Tryz.f24
  | 464 => cmpl Tryz.f25
  | 466 => cmpl Tryz.f26
  | 481 => cmpl Tryz.f18
  | 485 => cmpl Tryz.f16
  | 486 => cmpl Tryz.f17
  | 489 => cmpl Tryz.f23
  | 495 => cmpl Tryz.f42
  | 497 => cmpl Tryz.f44
  | 498 => cmpl Tryz.f45
  | 509 => cmpl Tryz.f37
  | 513 => cmpl Tryz.f35
  | 525 => cmpl Tryz.f64
  | 533 => cmpl Tryz.f66
  | 534 => cmpl Tryz.f67
  | 535 => cmpl Tryz.f68
  | 536 => cmpl Tryz.f69
  | 537 => cmpl Tryz.f70
  | 538 => cmpl Tryz.f71
  | 562 => cmpl Tryz.f58
  | 563 => cmpl Tryz.f59
  | 568 => cmpl Tryz.f96
  | 569 => cmpl Tryz.f97
  | 570 => cmpl Tryz.f99
  | 571 => cmpl Tryz.f100
  | 572 => cmpl Tryz.f101
  | 573 => cmpl Tryz.f103
  | 574 => cmpl Tryz.f104
  | 575 => cmpl Tryz.f109
  | 576 => cmpl Tryz.f110
  | 597 => cmpl Tryz.f82
  | 598 => cmpl Tryz.f83
  | 605 => cmpl Tryz.f128
  | 606 => cmpl Tryz.f131
  | 607 => cmpl Tryz.f132
  | 608 => cmpl Tryz.f137
  | 609 => cmpl Tryz.f138
  | 624 => cmpl Tryz.f123
  | 626 => cmpl Tryz.f153
  | 627 => cmpl Tryz.f154
  | 628 => cmpl Tryz.f155
  | 629 => cmpl Tryz.f156
  | 630 => cmpl Tryz.f159
  | 631 => cmpl Tryz.f160
  | 632 => cmpl Tryz.f161
  | 633 => cmpl Tryz.f162
  | 639 => cmpl Tryz.f176
  | 640 => cmpl Tryz.f181
  | 641 => cmpl Tryz.f182
  | 642 => cmpl Tryz.f183
  | 644 => cmpl Tryz.f198
  | 645 => cmpl Tryz.f199
  | 646 => cmpl Tryz.f200
  | 648 => cmpl Tryz.f208
  | 649 => cmpl Tryz.f217
  | 650 => cmpl Tryz.f218
  | 651 => cmpl Tryz.f224
  | 652 => cmpl Tryz.f225
  | 653 => cmpl Tryz.f226
  | 654 => cmpl Tryz.f227
  | 655 => cmpl Tryz.f228
  | 656 => cmpl Tryz.f229
  | 657 => cmpl Tryz.f232
  | 658 => cmpl Tryz.f233
  | _ => none
noncomputable def codeF (f : Nat) : Option AFn := match codeS f with
  | some a => some a
  | none => codeR f
noncomputable def CF : Ctx := extCtx (mkCtx codeF clRS clPS) csQ lnQ ssQ
theorem fitsF : Fits CF codeF clRS clPS := fits_ext (fits_mk _ _ _)
theorem upF {f : Nat} {ts : List AV} {v : AV} (h : PRun CS f ts v) : PRun CF f ts v := bs_ext (C := CS) (C' := CF) (fun f fn h => by
  show codeF f = some fn
  have h : codeS f = some fn := h
  unfold codeF
  rw [h]) (fun _ _ _ _ _ h => h) (fun _ _ _ h => h) h
abbrev CA (p : Nat × Nat) : Prop := CodedAt Tryz.prog (fidOf fids) pf codeF p
theorem codedR {g f : Nat} {gf : Func} {c : Code} (hc : codeF f = cmpl gf) (hg : Tryz.prog.funcs[g]? = some gf) (hb : gf.body = some c) (hn : (gf.name == "runtime.NumGoroutine") = false) : CA (g,f) :=
  ⟨⟨gf,c,hg,hb,hn⟩,fun a ha => by
    rw [hc] at ha
    obtain ⟨x,hx,rfl⟩ := Option.map_eq_some_iff.1 ha
    exact ⟨gf,x,hg,hx,rfl,rfl,setL_strip _ _⟩⟩
theorem coded18 : CA (79,18) := codedAt_of (a := ac18) rfl Tryz.func79 (by kernel_rfl) (by kernel_rfl)
theorem coded19 : CA (93,19) := codedAt_of (a := ac19) rfl Tryz.func93 (by kernel_rfl) (by kernel_rfl)
theorem coded24 : CA (21,24) := codedAt_of (a := ac24) rfl Tryz.func21 (by kernel_rfl) (by kernel_rfl)
theorem coded26 : CA (49,26) := codedAt_of (a := ac26) rfl Tryz.func49 (by kernel_rfl) (by kernel_rfl)
theorem coded29 : CA (76,29) := codedAt_of (a := ac29) rfl Tryz.func76 (by kernel_rfl) (by kernel_rfl)
theorem coded38 : CA (119,38) := codedAt_of (a := ac38) rfl Tryz.func119 (by kernel_rfl) (by kernel_rfl)
theorem coded39 : CA (127,39) := codedAt_of (a := ac39) rfl Tryz.func127 (by kernel_rfl) (by kernel_rfl)
theorem coded42 : CA (40,42) := codedAt_of (a := ac42) rfl Tryz.func40 (by kernel_rfl) (by kernel_rfl)
theorem coded45 : CA (74,45) := codedAt_of (a := ac45) rfl Tryz.func74 (by kernel_rfl) (by kernel_rfl)
theorem coded57 : CA (147,57) := codedAt_of (a := ac57) rfl Tryz.func147 (by kernel_rfl) (by kernel_rfl)
theorem coded58 : CA (148,58) := codedAt_of (a := ac58) rfl Tryz.func148 (by kernel_rfl) (by kernel_rfl)
theorem coded59 : CA (187,59) := codedAt_of (a := ac59) rfl Tryz.func187 (by kernel_rfl) (by kernel_rfl)
theorem coded60 : CA (61,60) := codedAt_of (a := ac60) rfl Tryz.func61 (by kernel_rfl) (by kernel_rfl)
theorem coded78 : CA (166,78) := codedAt_of (a := ac78) rfl Tryz.func166 (by kernel_rfl) (by kernel_rfl)
theorem coded79 : CA (165,79) := codedAt_of (a := ac79) rfl Tryz.func165 (by kernel_rfl) (by kernel_rfl)
theorem coded80 : CA (167,80) := codedAt_of (a := ac80) rfl Tryz.func167 (by kernel_rfl) (by kernel_rfl)
theorem coded81 : CA (168,81) := codedAt_of (a := ac81) rfl Tryz.func168 (by kernel_rfl) (by kernel_rfl)
theorem coded82 : CA (202,82) := codedAt_of (a := ac82) rfl Tryz.func202 (by kernel_rfl) (by kernel_rfl)
theorem coded83 : CA (87,83) := codedAt_of (a := ac83) rfl Tryz.func87 (by kernel_rfl) (by kernel_rfl)
theorem coded90 : CA (188,90) := codedAt_of (a := ac90) rfl Tryz.func188 (by kernel_rfl) (by kernel_rfl)
theorem coded91 : CA (189,91) := codedAt_of (a := ac91) rfl Tryz.func189 (by kernel_rfl) (by kernel_rfl)
theorem coded92 : CA (190,92) := codedAt_of (a := ac92) rfl Tryz.func190 (by kernel_rfl) (by kernel_rfl)
theorem coded93 : CA (124,93) := codedAt_of (a := ac93) rfl Tryz.func124 (by kernel_rfl) (by kernel_rfl)
theorem coded340 : CA (91,340) := codedAt_of (a := ac340) rfl Tryz.func91 (by kernel_rfl) (by kernel_rfl)
theorem coded357 : CA (78,357) := codedAt_of (a := ac357) rfl Tryz.func78 (by kernel_rfl) (by kernel_rfl)
theorem coded360 : CA (126,360) := codedAt_of (a := ac360) rfl Tryz.func126 (by kernel_rfl) (by kernel_rfl)
theorem coded376 : CA (118,376) := codedAt_of (a := ac376) rfl Tryz.func118 (by kernel_rfl) (by kernel_rfl)
theorem coded384 : CA (146,384) := codedAt_of (a := ac384) rfl Tryz.func146 (by kernel_rfl) (by kernel_rfl)
theorem coded443 : CA (4,443) := codedAt_of (a := ac443) rfl Tryz.func4 (by kernel_rfl) (by kernel_rfl)
theorem coded453 : CA (5,453) := codedAt_of (a := ac453) rfl Tryz.func5 (by kernel_rfl) (by kernel_rfl)
theorem coded455 : CA (7,455) := codedAt_of (a := ac455) rfl Tryz.func7 (by kernel_rfl) (by kernel_rfl)
theorem coded457 : CA (9,457) := codedAt_of (a := ac457) rfl Tryz.func9 (by kernel_rfl) (by kernel_rfl)
theorem coded458 : CA (10,458) := codedAt_of (a := ac458) rfl Tryz.func10 (by kernel_rfl) (by kernel_rfl)
theorem coded459 : CA (11,459) := codedAt_of (a := ac459) rfl Tryz.func11 (by kernel_rfl) (by kernel_rfl)
theorem coded460 : CA (12,460) := codedAt_of (a := ac460) rfl Tryz.func12 (by kernel_rfl) (by kernel_rfl)
theorem coded461 : CA (13,461) := codedAt_of (a := ac461) rfl Tryz.func13 (by kernel_rfl) (by kernel_rfl)
theorem coded474 : CA (15,474) := codedAt_of (a := ac474) rfl Tryz.func15 (by kernel_rfl) (by kernel_rfl)
theorem coded480 : CA (14,480) := codedAt_of (a := ac480) rfl Tryz.func14 (by kernel_rfl) (by kernel_rfl)
theorem coded487 : CA (20,487) := codedAt_of (a := ac487) rfl Tryz.func20 (by kernel_rfl) (by kernel_rfl)
theorem coded488 : CA (22,488) := codedAt_of (a := ac488) rfl Tryz.func22 (by kernel_rfl) (by kernel_rfl)
theorem coded490 : CA (27,490) := codedAt_of (a := ac490) rfl Tryz.func27 (by kernel_rfl) (by kernel_rfl)
theorem coded491 : CA (28,491) := codedAt_of (a := ac491) rfl Tryz.func28 (by kernel_rfl) (by kernel_rfl)
theorem coded492 : CA (30,492) := codedAt_of (a := ac492) rfl Tryz.func30 (by kernel_rfl) (by kernel_rfl)
theorem coded493 : CA (31,493) := codedAt_of (a := ac493) rfl Tryz.func31 (by kernel_rfl) (by kernel_rfl)
theorem coded494 : CA (32,494) := codedAt_of (a := ac494) rfl Tryz.func32 (by kernel_rfl) (by kernel_rfl)
theorem coded507 : CA (34,507) := codedAt_of (a := ac507) rfl Tryz.func34 (by kernel_rfl) (by kernel_rfl)
theorem coded508 : CA (33,508) := codedAt_of (a := ac508) rfl Tryz.func33 (by kernel_rfl) (by kernel_rfl)
theorem coded512 : CA (52,512) := codedAt_of (a := ac512) rfl Tryz.func52 (by kernel_rfl) (by kernel_rfl)
theorem coded514 : CA (36,514) := codedAt_of (a := ac514) rfl Tryz.func36 (by kernel_rfl) (by kernel_rfl)
theorem coded515 : CA (39,515) := codedAt_of (a := ac515) rfl Tryz.func39 (by kernel_rfl) (by kernel_rfl)
theorem coded516 : CA (41,516) := codedAt_of (a := ac516) rfl Tryz.func41 (by kernel_rfl) (by kernel_rfl)
theorem coded517 : CA (47,517) := codedAt_of (a := ac517) rfl Tryz.func47 (by kernel_rfl) (by kernel_rfl)
theorem coded521 : CA (53,521) := codedAt_of (a := ac521) rfl Tryz.func53 (by kernel_rfl) (by kernel_rfl)
theorem coded522 : CA (54,522) := codedAt_of (a := ac522) rfl Tryz.func54 (by kernel_rfl) (by kernel_rfl)
theorem coded523 : CA (55,523) := codedAt_of (a := ac523) rfl Tryz.func55 (by kernel_rfl) (by kernel_rfl)
theorem coded524 : CA (56,524) := codedAt_of (a := ac524) rfl Tryz.func56 (by kernel_rfl) (by kernel_rfl)
theorem coded529 : CA (77,529) := codedAt_of (a := ac529) rfl Tryz.func77 (by kernel_rfl) (by kernel_rfl)
theorem coded560 : CA (57,560) := codedAt_of (a := ac560) rfl Tryz.func57 (by kernel_rfl) (by kernel_rfl)
theorem coded564 : CA (62,564) := codedAt_of (a := ac564) rfl Tryz.func62 (by kernel_rfl) (by kernel_rfl)
theorem coded565 : CA (63,565) := codedAt_of (a := ac565) rfl Tryz.func63 (by kernel_rfl) (by kernel_rfl)
theorem coded567 : CA (75,567) := codedAt_of (a := ac567) rfl Tryz.func75 (by kernel_rfl) (by kernel_rfl)
theorem coded599 : CA (88,599) := codedAt_of (a := ac599) rfl Tryz.func88 (by kernel_rfl) (by kernel_rfl)
theorem coded600 : CA (89,600) := codedAt_of (a := ac600) rfl Tryz.func89 (by kernel_rfl) (by kernel_rfl)
theorem coded601 : CA (90,601) := codedAt_of (a := ac601) rfl Tryz.func90 (by kernel_rfl) (by kernel_rfl)
theorem coded602 : CA (92,602) := codedAt_of (a := ac602) rfl Tryz.func92 (by kernel_rfl) (by kernel_rfl)
theorem coded603 : CA (94,603) := codedAt_of (a := ac603) rfl Tryz.func94 (by kernel_rfl) (by kernel_rfl)
theorem coded604 : CA (95,604) := codedAt_of (a := ac604) rfl Tryz.func95 (by kernel_rfl) (by kernel_rfl)
theorem coded625 : CA (125,625) := codedAt_of (a := ac625) rfl Tryz.func125 (by kernel_rfl) (by kernel_rfl)
theorem coded638 : CA (145,638) := codedAt_of (a := ac638) rfl Tryz.func145 (by kernel_rfl) (by kernel_rfl)
theorem coded46 : CA (19,46) := codedR rfl Tryz.func19 rfl (by kernel_rfl)
theorem coded63 : CA (38,63) := codedR rfl Tryz.func38 rfl (by kernel_rfl)
theorem coded73 : CA (220,73) := codedR rfl Tryz.func220 rfl (by kernel_rfl)
theorem coded84 : CA (60,84) := codedR rfl Tryz.func60 rfl (by kernel_rfl)
theorem coded94 : CA (84,94) := codedR rfl Tryz.func84 rfl (by kernel_rfl)
theorem coded95 : CA (85,95) := codedR rfl Tryz.func85 rfl (by kernel_rfl)
theorem coded96 : CA (86,96) := codedR rfl Tryz.func86 rfl (by kernel_rfl)
theorem coded123 : CA (102,123) := codedR rfl Tryz.func102 rfl (by kernel_rfl)
theorem coded124 : CA (98,124) := codedR rfl Tryz.func98 rfl (by kernel_rfl)
theorem coded126 : CA (43,126) := codedR rfl Tryz.func43 rfl (by kernel_rfl)
theorem coded128 : CA (129,128) := codedR rfl Tryz.func129 rfl (by kernel_rfl)
theorem coded129 : CA (130,129) := codedR rfl Tryz.func130 rfl (by kernel_rfl)
theorem coded133 : CA (65,133) := codedR rfl Tryz.func65 rfl (by kernel_rfl)
theorem coded136 : CA (149,136) := codedR rfl Tryz.func149 rfl (by kernel_rfl)
theorem coded138 : CA (151,138) := codedR rfl Tryz.func151 rfl (by kernel_rfl)
theorem coded139 : CA (105,139) := codedR rfl Tryz.func105 rfl (by kernel_rfl)
theorem coded140 : CA (106,140) := codedR rfl Tryz.func106 rfl (by kernel_rfl)
theorem coded141 : CA (107,141) := codedR rfl Tryz.func107 rfl (by kernel_rfl)
theorem coded142 : CA (108,142) := codedR rfl Tryz.func108 rfl (by kernel_rfl)
theorem coded143 : CA (169,143) := codedR rfl Tryz.func169 rfl (by kernel_rfl)
theorem coded148 : CA (158,148) := codedR rfl Tryz.func158 rfl (by kernel_rfl)
theorem coded149 : CA (134,149) := codedR rfl Tryz.func134 rfl (by kernel_rfl)
theorem coded150 : CA (135,150) := codedR rfl Tryz.func135 rfl (by kernel_rfl)
theorem coded151 : CA (136,151) := codedR rfl Tryz.func136 rfl (by kernel_rfl)
theorem coded155 : CA (178,155) := codedR rfl Tryz.func178 rfl (by kernel_rfl)
theorem coded158 : CA (157,158) := codedR rfl Tryz.func157 rfl (by kernel_rfl)
theorem coded162 : CA (175,162) := codedR rfl Tryz.func175 rfl (by kernel_rfl)
theorem coded167 : CA (195,167) := codedR rfl Tryz.func195 rfl (by kernel_rfl)
theorem coded229 : CA (80,229) := codedR rfl Tryz.func80 rfl (by kernel_rfl)
theorem coded250 : CA (120,250) := codedR rfl Tryz.func120 rfl (by kernel_rfl)
theorem coded254 : CA (72,254) := codedR rfl Tryz.func72 rfl (by kernel_rfl)
theorem coded257 : CA (142,257) := codedR rfl Tryz.func142 rfl (by kernel_rfl)
theorem coded262 : CA (143,262) := codedR rfl Tryz.func143 rfl (by kernel_rfl)
theorem coded265 : CA (111,265) := codedR rfl Tryz.func111 rfl (by kernel_rfl)
theorem coded266 : CA (112,266) := codedR rfl Tryz.func112 rfl (by kernel_rfl)
theorem coded267 : CA (113,267) := codedR rfl Tryz.func113 rfl (by kernel_rfl)
theorem coded268 : CA (114,268) := codedR rfl Tryz.func114 rfl (by kernel_rfl)
theorem coded269 : CA (115,269) := codedR rfl Tryz.func115 rfl (by kernel_rfl)
theorem coded270 : CA (116,270) := codedR rfl Tryz.func116 rfl (by kernel_rfl)
theorem coded274 : CA (140,274) := codedR rfl Tryz.func140 rfl (by kernel_rfl)
theorem coded275 : CA (141,275) := codedR rfl Tryz.func141 rfl (by kernel_rfl)
theorem coded287 : CA (163,287) := codedR rfl Tryz.func163 rfl (by kernel_rfl)
theorem coded292 : CA (184,292) := codedR rfl Tryz.func184 rfl (by kernel_rfl)
theorem coded293 : CA (185,293) := codedR rfl Tryz.func185 rfl (by kernel_rfl)
theorem coded298 : CA (152,298) := codedR rfl Tryz.func152 rfl (by kernel_rfl)
theorem coded300 : CA (133,300) := codedR rfl Tryz.func133 rfl (by kernel_rfl)
theorem coded301 : CA (201,301) := codedR rfl Tryz.func201 rfl (by kernel_rfl)
theorem coded307 : CA (209,307) := codedR rfl Tryz.func209 rfl (by kernel_rfl)
theorem coded358 : CA (81,358) := codedR rfl Tryz.func81 rfl (by kernel_rfl)
theorem coded371 : CA (177,371) := codedR rfl Tryz.func177 rfl (by kernel_rfl)
theorem coded377 : CA (121,377) := codedR rfl Tryz.func121 rfl (by kernel_rfl)
theorem coded378 : CA (122,378) := codedR rfl Tryz.func122 rfl (by kernel_rfl)
theorem coded395 : CA (196,395) := codedR rfl Tryz.func196 rfl (by kernel_rfl)
theorem coded396 : CA (144,396) := codedR rfl Tryz.func144 rfl (by kernel_rfl)
theorem coded404 : CA (206,404) := codedR rfl Tryz.func206 rfl (by kernel_rfl)
theorem coded419 : CA (213,419) := codedR rfl Tryz.func213 rfl (by kernel_rfl)
theorem coded420 : CA (214,420) := codedR rfl Tryz.func214 rfl (by kernel_rfl)
theorem coded421 : CA (215,421) := codedR rfl Tryz.func215 rfl (by kernel_rfl)
theorem coded422 : CA (216,422) := codedR rfl Tryz.func216 rfl (by kernel_rfl)
theorem coded428 : CA (219,428) := codedR rfl Tryz.func219 rfl (by kernel_rfl)
theorem coded429 : CA (221,429) := codedR rfl Tryz.func221 rfl (by kernel_rfl)
theorem coded430 : CA (222,430) := codedR rfl Tryz.func222 rfl (by kernel_rfl)
theorem coded431 : CA (223,431) := codedR rfl Tryz.func223 rfl (by kernel_rfl)
theorem coded434 : CA (230,434) := codedR rfl Tryz.func230 rfl (by kernel_rfl)
theorem coded435 : CA (231,435) := codedR rfl Tryz.func231 rfl (by kernel_rfl)
theorem coded454 : CA (6,454) := codedR rfl Tryz.func6 rfl (by kernel_rfl)
theorem coded456 : CA (8,456) := codedR rfl Tryz.func8 rfl (by kernel_rfl)
theorem coded462 : CA (24,462) := codedR rfl Tryz.func24 rfl (by kernel_rfl)
theorem coded464 : CA (25,464) := codedR rfl Tryz.func25 rfl (by kernel_rfl)
theorem coded466 : CA (26,466) := codedR rfl Tryz.func26 rfl (by kernel_rfl)
theorem coded481 : CA (18,481) := codedR rfl Tryz.func18 rfl (by kernel_rfl)
theorem coded485 : CA (16,485) := codedR rfl Tryz.func16 rfl (by kernel_rfl)
theorem coded486 : CA (17,486) := codedR rfl Tryz.func17 rfl (by kernel_rfl)
theorem coded489 : CA (23,489) := codedR rfl Tryz.func23 rfl (by kernel_rfl)
theorem coded495 : CA (42,495) := codedR rfl Tryz.func42 rfl (by kernel_rfl)
theorem coded497 : CA (44,497) := codedR rfl Tryz.func44 rfl (by kernel_rfl)
theorem coded498 : CA (45,498) := codedR rfl Tryz.func45 rfl (by kernel_rfl)
theorem coded509 : CA (37,509) := codedR rfl Tryz.func37 rfl (by kernel_rfl)
theorem coded513 : CA (35,513) := codedR rfl Tryz.func35 rfl (by kernel_rfl)
theorem coded525 : CA (64,525) := codedR rfl Tryz.func64 rfl (by kernel_rfl)
theorem coded533 : CA (66,533) := codedR rfl Tryz.func66 rfl (by kernel_rfl)
theorem coded534 : CA (67,534) := codedR rfl Tryz.func67 rfl (by kernel_rfl)
theorem coded535 : CA (68,535) := codedR rfl Tryz.func68 rfl (by kernel_rfl)
theorem coded536 : CA (69,536) := codedR rfl Tryz.func69 rfl (by kernel_rfl)
theorem coded537 : CA (70,537) := codedR rfl Tryz.func70 rfl (by kernel_rfl)
theorem coded538 : CA (71,538) := codedR rfl Tryz.func71 rfl (by kernel_rfl)
theorem coded562 : CA (58,562) := codedR rfl Tryz.func58 rfl (by kernel_rfl)
theorem coded563 : CA (59,563) := codedR rfl Tryz.func59 rfl (by kernel_rfl)
theorem coded568 : CA (96,568) := codedR rfl Tryz.func96 rfl (by kernel_rfl)
theorem coded569 : CA (97,569) := codedR rfl Tryz.func97 rfl (by kernel_rfl)
theorem coded570 : CA (99,570) := codedR rfl Tryz.func99 rfl (by kernel_rfl)
theorem coded571 : CA (100,571) := codedR rfl Tryz.func100 rfl (by kernel_rfl)
theorem coded572 : CA (101,572) := codedR rfl Tryz.func101 rfl (by kernel_rfl)
theorem coded573 : CA (103,573) := codedR rfl Tryz.func103 rfl (by kernel_rfl)
theorem coded574 : CA (104,574) := codedR rfl Tryz.func104 rfl (by kernel_rfl)
theorem coded575 : CA (109,575) := codedR rfl Tryz.func109 rfl (by kernel_rfl)
theorem coded576 : CA (110,576) := codedR rfl Tryz.func110 rfl (by kernel_rfl)
theorem coded597 : CA (82,597) := codedR rfl Tryz.func82 rfl (by kernel_rfl)
theorem coded598 : CA (83,598) := codedR rfl Tryz.func83 rfl (by kernel_rfl)
theorem coded605 : CA (128,605) := codedR rfl Tryz.func128 rfl (by kernel_rfl)
theorem coded606 : CA (131,606) := codedR rfl Tryz.func131 rfl (by kernel_rfl)
theorem coded607 : CA (132,607) := codedR rfl Tryz.func132 rfl (by kernel_rfl)
theorem coded608 : CA (137,608) := codedR rfl Tryz.func137 rfl (by kernel_rfl)
theorem coded609 : CA (138,609) := codedR rfl Tryz.func138 rfl (by kernel_rfl)
theorem coded624 : CA (123,624) := codedR rfl Tryz.func123 rfl (by kernel_rfl)
theorem coded626 : CA (153,626) := codedR rfl Tryz.func153 rfl (by kernel_rfl)
theorem coded627 : CA (154,627) := codedR rfl Tryz.func154 rfl (by kernel_rfl)
theorem coded628 : CA (155,628) := codedR rfl Tryz.func155 rfl (by kernel_rfl)
theorem coded629 : CA (156,629) := codedR rfl Tryz.func156 rfl (by kernel_rfl)
theorem coded630 : CA (159,630) := codedR rfl Tryz.func159 rfl (by kernel_rfl)
theorem coded631 : CA (160,631) := codedR rfl Tryz.func160 rfl (by kernel_rfl)
theorem coded632 : CA (161,632) := codedR rfl Tryz.func161 rfl (by kernel_rfl)
theorem coded633 : CA (162,633) := codedR rfl Tryz.func162 rfl (by kernel_rfl)
theorem coded639 : CA (176,639) := codedR rfl Tryz.func176 rfl (by kernel_rfl)
theorem coded640 : CA (181,640) := codedR rfl Tryz.func181 rfl (by kernel_rfl)
theorem coded641 : CA (182,641) := codedR rfl Tryz.func182 rfl (by kernel_rfl)
theorem coded642 : CA (183,642) := codedR rfl Tryz.func183 rfl (by kernel_rfl)
theorem coded644 : CA (198,644) := codedR rfl Tryz.func198 rfl (by kernel_rfl)
theorem coded645 : CA (199,645) := codedR rfl Tryz.func199 rfl (by kernel_rfl)
theorem coded646 : CA (200,646) := codedR rfl Tryz.func200 rfl (by kernel_rfl)
theorem coded648 : CA (208,648) := codedR rfl Tryz.func208 rfl (by kernel_rfl)
theorem coded649 : CA (217,649) := codedR rfl Tryz.func217 rfl (by kernel_rfl)
theorem coded650 : CA (218,650) := codedR rfl Tryz.func218 rfl (by kernel_rfl)
theorem coded651 : CA (224,651) := codedR rfl Tryz.func224 rfl (by kernel_rfl)
theorem coded652 : CA (225,652) := codedR rfl Tryz.func225 rfl (by kernel_rfl)
theorem coded653 : CA (226,653) := codedR rfl Tryz.func226 rfl (by kernel_rfl)
theorem coded654 : CA (227,654) := codedR rfl Tryz.func227 rfl (by kernel_rfl)
theorem coded655 : CA (228,655) := codedR rfl Tryz.func228 rfl (by kernel_rfl)
theorem coded656 : CA (229,656) := codedR rfl Tryz.func229 rfl (by kernel_rfl)
theorem coded657 : CA (232,657) := codedR rfl Tryz.func232 rfl (by kernel_rfl)
theorem coded658 : CA (233,658) := codedR rfl Tryz.func233 rfl (by kernel_rfl)
theorem coded216 : CA (46,216) := bodied_of rfl Tryz.func46 rfl (by kernel_rfl)
theorem clone216 : CloneAt Tryz.prog (fidOf fids) pf 216 (11,104) := fun g hg => by
  have h := fidOf_mem hg
  have e : g = 46 := by simpa [fids] using h
  subst e
  exact ⟨Tryz.f46,23,102,_,_,_,_,_,_,_,_,_,_,_,Tryz.func46,by kernel_rfl,rfl,rfl,rfl,by kernel_rfl,rfl,by kernel_rfl,rfl,rfl,rfl,by kernel_rfl,by kernel_rfl⟩
theorem coded518 : CA (48,518) := bodied_of rfl Tryz.func48 rfl (by kernel_rfl)
theorem clone518 : CloneAt Tryz.prog (fidOf fids) pf 518 (13,168) := fun g hg => by
  have h := fidOf_mem hg
  have e : g = 48 := by simpa [fids] using h
  subst e
  exact ⟨Tryz.f48,29,65,_,_,_,_,_,_,_,_,_,_,_,Tryz.func48,by kernel_rfl,rfl,rfl,rfl,by kernel_rfl,rfl,by kernel_rfl,rfl,rfl,rfl,by kernel_rfl,by kernel_rfl⟩
theorem coded519 : CA (50,519) := bodied_of rfl Tryz.func50 rfl (by kernel_rfl)
theorem clone519 : CloneAt Tryz.prog (fidOf fids) pf 519 (17,232) := fun g hg => by
  have h := fidOf_mem hg
  have e : g = 50 := by simpa [fids] using h
  subst e
  exact ⟨Tryz.f50,30,91,_,_,_,_,_,_,_,_,_,_,_,Tryz.func50,by kernel_rfl,rfl,rfl,rfl,by kernel_rfl,rfl,by kernel_rfl,rfl,rfl,rfl,by kernel_rfl,by kernel_rfl⟩
theorem coded520 : CA (51,520) := bodied_of rfl Tryz.func51 rfl (by kernel_rfl)
theorem clone520 : CloneAt Tryz.prog (fidOf fids) pf 520 (15,208) := fun g hg => by
  have h := fidOf_mem hg
  have e : g = 51 := by simpa [fids] using h
  subst e
  exact ⟨Tryz.f51,31,33,_,_,_,_,_,_,_,_,_,_,_,Tryz.func51,by kernel_rfl,rfl,rfl,rfl,by kernel_rfl,rfl,by kernel_rfl,rfl,rfl,rfl,by kernel_rfl,by kernel_rfl⟩
theorem coded566 : CA (73,566) := bodied_of rfl Tryz.func73 rfl (by kernel_rfl)
theorem clone566 : CloneAt Tryz.prog (fidOf fids) pf 566 (6,64) := fun g hg => by
  have h := fidOf_mem hg
  have e : g = 73 := by simpa [fids] using h
  subst e
  exact ⟨Tryz.f73,26,28,_,_,_,_,_,_,_,_,_,_,_,Tryz.func73,by kernel_rfl,rfl,rfl,rfl,by kernel_rfl,rfl,by kernel_rfl,rfl,rfl,rfl,by kernel_rfl,by kernel_rfl⟩
theorem coded214 : CA (29,214) := bodied_of rfl Tryz.func29 rfl (by kernel_rfl)
theorem clone214 : CloneAt Tryz.prog (fidOf fids) pf 214 (1,16) := fun g hg => by
  have h := fidOf_mem hg
  have e : g = 29 := by simpa [fids] using h
  subst e
  exact ⟨Tryz.f29,73,9,_,_,_,_,_,_,_,_,_,_,_,Tryz.func29,by kernel_rfl,rfl,rfl,rfl,by kernel_rfl,rfl,by kernel_rfl,rfl,rfl,rfl,by kernel_rfl,by kernel_rfl⟩
theorem coded130 : CA (139,130) := bodied_of rfl Tryz.func139 rfl (by kernel_rfl)
theorem clone130 : CloneAt Tryz.prog (fidOf fids) pf 130 (14,184) := fun g hg => by
  have h := fidOf_mem hg
  have e : g = 139 := by simpa [fids] using h
  subst e
  exact ⟨Tryz.f139,63,95,_,_,_,_,_,_,_,_,_,_,_,Tryz.func139,by kernel_rfl,rfl,rfl,rfl,by kernel_rfl,rfl,by kernel_rfl,rfl,rfl,rfl,by kernel_rfl,by kernel_rfl⟩
theorem coded62 : CA (117,62) := bodied_of rfl Tryz.func117 rfl (by kernel_rfl)
theorem clone62 : CloneAt Tryz.prog (fidOf fids) pf 62 (1,1) := fun g hg => by
  have h := fidOf_mem hg
  have e : g = 117 := by simpa [fids] using h
  subst e
  exact ⟨Tryz.f117,62,5,_,_,_,_,_,_,_,_,_,_,_,Tryz.func117,by kernel_rfl,rfl,rfl,rfl,by kernel_rfl,rfl,by kernel_rfl,rfl,rfl,rfl,by kernel_rfl,by kernel_rfl⟩
theorem coded272 : CA (164,272) := bodied_of rfl Tryz.func164 rfl (by kernel_rfl)
theorem ctxOk0 : CtxOk Tryz.prog (fidOf fids) pf (mkCtx codeF clRS clPS) := ctxOk_of (by
  intro p hp
  simp only [fids,List.mem_cons,List.not_mem_nil,or_false] at hp
  rcases hp with rfl | rfl | rfl | rfl | rfl | rfl | rfl | rfl | rfl | rfl | rfl | rfl | rfl | rfl | rfl | rfl | rfl | rfl | rfl | rfl | rfl | rfl | rfl | rfl | rfl | rfl | rfl | rfl | rfl | rfl | rfl | rfl | rfl | rfl | rfl | rfl | rfl | rfl | rfl | rfl | rfl | rfl | rfl | rfl | rfl | rfl | rfl | rfl | rfl | rfl | rfl | rfl | rfl | rfl | rfl | rfl | rfl | rfl | rfl | rfl | rfl | rfl | rfl | rfl | rfl | rfl | rfl | rfl | rfl | rfl | rfl | rfl | rfl | rfl | rfl | rfl | rfl | rfl | rfl | rfl | rfl | rfl | rfl | rfl | rfl | rfl | rfl | rfl | rfl | rfl | rfl | rfl | rfl | rfl | rfl | rfl | rfl | rfl | rfl | rfl | rfl | rfl | rfl | rfl | rfl | rfl | rfl | rfl | rfl | rfl | rfl | rfl | rfl | rfl | rfl | rfl | rfl | rfl | rfl | rfl | rfl | rfl | rfl | rfl | rfl | rfl | rfl | rfl | rfl | rfl | rfl | rfl | rfl | rfl | rfl | rfl | rfl | rfl | rfl | rfl | rfl | rfl | rfl | rfl | rfl | rfl | rfl | rfl | rfl | rfl | rfl | rfl | rfl | rfl | rfl | rfl | rfl | rfl | rfl | rfl | rfl | rfl | rfl | rfl | rfl | rfl | rfl | rfl | rfl | rfl | rfl | rfl | rfl | rfl | rfl | rfl | rfl | rfl | rfl | rfl | rfl | rfl | rfl | rfl | rfl | rfl | rfl | rfl | rfl | rfl | rfl | rfl | rfl | rfl | rfl | rfl | rfl | rfl | rfl | rfl | rfl | rfl | rfl | rfl | rfl | rfl | rfl | rfl | rfl
  · exact coded18
  · exact coded19
  · exact coded24
  · exact coded26
  · exact coded29
  · exact coded38
  · exact coded39
  · exact coded42
  · exact coded45
  · exact coded46
  · exact coded57
  · exact coded58
  · exact coded59
  · exact coded60
  · exact coded63
  · exact coded73
  · exact coded78
  · exact coded79
  · exact coded80
  · exact coded81
  · exact coded82
  · exact coded83
  · exact coded84
  · exact coded90
  · exact coded91
  · exact coded92
  · exact coded93
  · exact coded94
  · exact coded95
  · exact coded96
  · exact coded123
  · exact coded124
  · exact coded126
  · exact coded128
  · exact coded129
  · exact coded133
  · exact coded136
  · exact coded138
  · exact coded139
  · exact coded140
  · exact coded141
  · exact coded142
  · exact coded143
  · exact coded148
  · exact coded149
  · exact coded150
  · exact coded151
  · exact coded155
  · exact coded158
  · exact coded162
  · exact coded167
  · exact coded229
  · exact coded250
  · exact coded254
  · exact coded257
  · exact coded262
  · exact coded265
  · exact coded266
  · exact coded267
  · exact coded268
  · exact coded269
  · exact coded270
  · exact coded274
  · exact coded275
  · exact coded287
  · exact coded292
  · exact coded293
  · exact coded298
  · exact coded300
  · exact coded301
  · exact coded307
  · exact coded340
  · exact coded357
  · exact coded358
  · exact coded360
  · exact coded371
  · exact coded376
  · exact coded377
  · exact coded378
  · exact coded384
  · exact coded395
  · exact coded396
  · exact coded404
  · exact coded419
  · exact coded420
  · exact coded421
  · exact coded422
  · exact coded428
  · exact coded429
  · exact coded430
  · exact coded431
  · exact coded434
  · exact coded435
  · exact coded443
  · exact coded453
  · exact coded454
  · exact coded455
  · exact coded456
  · exact coded457
  · exact coded458
  · exact coded459
  · exact coded460
  · exact coded461
  · exact coded462
  · exact coded464
  · exact coded466
  · exact coded474
  · exact coded480
  · exact coded481
  · exact coded485
  · exact coded486
  · exact coded487
  · exact coded488
  · exact coded489
  · exact coded490
  · exact coded491
  · exact coded492
  · exact coded493
  · exact coded494
  · exact coded495
  · exact coded497
  · exact coded498
  · exact coded507
  · exact coded508
  · exact coded509
  · exact coded512
  · exact coded513
  · exact coded514
  · exact coded515
  · exact coded516
  · exact coded517
  · exact coded521
  · exact coded522
  · exact coded523
  · exact coded524
  · exact coded525
  · exact coded529
  · exact coded533
  · exact coded534
  · exact coded535
  · exact coded536
  · exact coded537
  · exact coded538
  · exact coded560
  · exact coded562
  · exact coded563
  · exact coded564
  · exact coded565
  · exact coded567
  · exact coded568
  · exact coded569
  · exact coded570
  · exact coded571
  · exact coded572
  · exact coded573
  · exact coded574
  · exact coded575
  · exact coded576
  · exact coded597
  · exact coded598
  · exact coded599
  · exact coded600
  · exact coded601
  · exact coded602
  · exact coded603
  · exact coded604
  · exact coded605
  · exact coded606
  · exact coded607
  · exact coded608
  · exact coded609
  · exact coded624
  · exact coded625
  · exact coded626
  · exact coded627
  · exact coded628
  · exact coded629
  · exact coded630
  · exact coded631
  · exact coded632
  · exact coded633
  · exact coded638
  · exact coded639
  · exact coded640
  · exact coded641
  · exact coded642
  · exact coded644
  · exact coded645
  · exact coded646
  · exact coded648
  · exact coded649
  · exact coded650
  · exact coded651
  · exact coded652
  · exact coded653
  · exact coded654
  · exact coded655
  · exact coded656
  · exact coded657
  · exact coded658
  · exact coded216
  · exact coded518
  · exact coded519
  · exact coded520
  · exact coded566
  · exact coded214
  · exact coded130
  · exact coded62
  · exact coded272) (fun f p h => by
  unfold clRS at h
  split at h
  · cases h
    exact ⟨rfl,clone216⟩
  · cases h
    exact ⟨rfl,clone518⟩
  · cases h
    exact ⟨rfl,clone519⟩
  · cases h
    exact ⟨rfl,clone520⟩
  · cases h
    exact ⟨rfl,clone566⟩
  · cases h
    exact ⟨rfl,clone214⟩
  · cases h
    exact ⟨rfl,clone130⟩
  · cases h) (fun f p h => by
  unfold clPS at h
  split at h
  · cases h
    exact ⟨rfl,clone62⟩
  · cases h)
theorem ctxOk : CtxOk Tryz.prog (fidOf fids) pf CF := extCtx_ok ctxOk0 (fun f h => by
    have e : f = 272 := by simpa [csQ] using h
    subst e
    refine ⟨rfl,fun g hg => ?_,rfl,fun ts v h => ?_⟩
    · exact by
        have h := fidOf_mem hg
        have e : g = 164 := by simpa [fids] using h
        subst e
        exact ⟨_,Tryz.lays213,rfl⟩
    · obtain ⟨p,l,h,_⟩ := h
      cases h)
  (fun f h => by
    have e : f = 551 := by simpa [lnQ] using h
    subst e
    refine ⟨rfl,fun g hg s w => ?_,rfl,fun ts v h => ?_⟩
    · exact by
        have h := fidOf_mem hg
        simp [fids] at h
    · obtain ⟨p,l,h,_⟩ := h
      cases h)
  (fun f h => by simp [ssQ] at h)
end Go.Proofs.YtgcpgfallgebhaaGreatDoor
