/- The functions of the program,compiled: those of the table,and the others as they are compiled. -/
import Derived.Test.YtglenpfcanlbgaaGreatDoorRows
import Derived.Test.YtglenpfcanlbgaaGreatDoorPMachD
import Derived.Test.YtglenpfcanlbgaaGreatDoorPMachH
import Derived.Test.YtglenpfcanlbgaaGreatDoorPMachE
import Derived.Test.YtglenpfcanlbgaaGreatDoorPCodeN
import Derived.Test.YtglenpfcanlbgaaGreatDoorPShelf
set_option linter.unusedSimpArgs false
set_option linter.unusedVariables false
set_option maxRecDepth 100000
namespace Go.Proofs.YtglenpfcanlbgaaGreatDoor
open Ago
def fids:List (Nat × Nat):=[(116,18),(111,19),(29,24),(77,26),(66,29),(129,38),(123,39),(53,42),(104,45),(74,46),(140,57),(141,58),(163,59),(80,60),(100,63),(152,78),(151,79),(153,80),(154,81),(173,82),(105,83),(119,84),(164,90),(165,91),(166,92),(120,93),(135,94),(136,95),(137,96),(132,126),(149,133),(159,139),(160,140),(161,141),(162,142),(176,148),(170,149),(171,150),(172,151),(178,155),(175,158),(130,229),(146,250),(115,254),(145,257),(157,262),(124,265),(125,266),(126,267),(90,268),(127,269),(128,270),(143,274),(144,275),(155,287),(167,292),(168,293),(174,301),(177,307),(109,340),(69,357),(131,358),(122,360),(96,376),(147,377),(148,378),(139,384),(158,396),(21,453),(50,454),(13,455),(24,457),(26,458),(75,459),(31,460),(8,461),(10,467),(27,474),(36,477),(47,480),(73,481),(71,485),(72,486),(28,487),(30,488),(51,490),(101,491),(55,492),(56,493),(19,494),(91,498),(22,500),(52,507),(68,508),(99,509),(83,512),(97,513),(98,514),(45,515),(54,516),(76,517),(84,521),(42,522),(43,523),(44,524),(67,529),(48,545),(49,546),(95,560),(117,562),(118,563),(81,564),(82,565),(65,567),(70,578),(133,597),(134,598),(106,599),(107,600),(108,601),(110,602),(112,603),(113,604),(150,624),(121,625),(138,638),(3,903),(5,909),(6,910),(7,911),(9,912),(15,913),(16,918),(14,925),(17,926),(18,927),(20,928),(23,929),(32,930),(33,931),(34,932),(35,933),(25,934),(37,936),(39,938),(46,939),(57,940),(58,941),(59,942),(60,943),(61,944),(62,945),(63,946),(64,947),(86,949),(87,950),(88,951),(89,952),(92,953),(93,954),(94,955),(114,956),(38,216),(40,518),(78,519),(79,520),(103,566),(102,214),(142,130),(85,948),(41,62),(156,272)]
def pf (f:Nat):Bool:=!([130,133,214,216,265,267,268,269,270,274,275,287,292,293,301,307,485,491,518,519,520,566,927,930,931,932,933,941,943,945,946,947,948,949,950,951,953,954,955,956]:List Nat).contains f
/-- Every loop keeps all slots. -/
def setL (n:Nat):ACode→ACode
  | .seq a b=>.seq (setL n a) (setL n b)
  | .cond x a b=>.cond x (setL n a) (setL n b)
  | .block id b=>.block id (setL n b)
  | .scope b=>.scope (setL n b)
  | .loop _ b=>.loop (List.range n) (setL n b)
  | c=>c
theorem setL_strip (n:Nat) : ∀ c:ACode,c.strip=(setL n c).strip
  | .seq a b=>by simp only[setL,ACode.strip,setL_strip n a,setL_strip n b]
  | .cond x a b=>by simp only[setL,ACode.strip,setL_strip n a,setL_strip n b]
  | .block id b=>by simp only[setL,ACode.strip,setL_strip n b]
  | .scope b=>by simp only[setL,ACode.strip,setL_strip n b]
  | .loop l b=>by simp only[setL,ACode.strip,setL_strip n b]
  | .skip=>rfl
  | .ops l=>rfl
  | .draw k l=>rfl
  | .exit i=>rfl
  | .ret=>rfl
noncomputable def cmpl (gf:Func):Option AFn:=(compFn Tryz.prog (fidOf fids) pf gf).map fun x=>{ x with body:=setL x.nt x.body }
noncomputable def codeR:Nat→Option AFn
  | 26=>cmpl Tryz.f77
  | 45=>cmpl Tryz.f104
  | 46=>cmpl Tryz.f74
  | 63=>cmpl Tryz.f100
  | 84=>cmpl Tryz.f119
  | 94=>cmpl Tryz.f135
  | 95=>cmpl Tryz.f136
  | 96=>cmpl Tryz.f137
  | 126=>cmpl Tryz.f132
  | 133=>cmpl Tryz.f149
  | 139=>cmpl Tryz.f159
  | 140=>cmpl Tryz.f160
  | 141=>cmpl Tryz.f161
  | 142=>cmpl Tryz.f162
  | 148=>cmpl Tryz.f176
  | 149=>cmpl Tryz.f170
  | 150=>cmpl Tryz.f171
  | 151=>cmpl Tryz.f172
  | 155=>cmpl Tryz.f178
  | 158=>cmpl Tryz.f175
  | 229=>cmpl Tryz.f130
  | 250=>cmpl Tryz.f146
  | 254=>cmpl Tryz.f115
  | 257=>cmpl Tryz.f145
  | 262=>cmpl Tryz.f157
  | 265=>cmpl Tryz.f124
  | 266=>cmpl Tryz.f125
  | 267=>cmpl Tryz.f126
  | 268=>cmpl Tryz.f90
  | 269=>cmpl Tryz.f127
  | 270=>cmpl Tryz.f128
  | 274=>cmpl Tryz.f143
  | 275=>cmpl Tryz.f144
  | 287=>cmpl Tryz.f155
  | 292=>cmpl Tryz.f167
  | 293=>cmpl Tryz.f168
  | 301=>cmpl Tryz.f174
  | 307=>cmpl Tryz.f177
  | 358=>cmpl Tryz.f131
  | 377=>cmpl Tryz.f147
  | 378=>cmpl Tryz.f148
  | 396=>cmpl Tryz.f158
  | 454=>cmpl Tryz.f50
  | 457=>cmpl Tryz.f24
  | 459=>cmpl Tryz.f75
  | 477=>cmpl Tryz.f36
  | 481=>cmpl Tryz.f73
  | 485=>cmpl Tryz.f71
  | 486=>cmpl Tryz.f72
  | 490=>cmpl Tryz.f51
  | 491=>cmpl Tryz.f101
  | 498=>cmpl Tryz.f91
  | 509=>cmpl Tryz.f99
  | 513=>cmpl Tryz.f97
  | 514=>cmpl Tryz.f98
  | 517=>cmpl Tryz.f76
  | 562=>cmpl Tryz.f117
  | 563=>cmpl Tryz.f118
  | 597=>cmpl Tryz.f133
  | 598=>cmpl Tryz.f134
  | 624=>cmpl Tryz.f150
  | 910=>cmpl Tryz.f6
  | 913=>cmpl Tryz.f15
  | 918=>cmpl Tryz.f16
  | 925=>cmpl Tryz.f14
  | 929=>cmpl Tryz.f23
  | 930=>cmpl Tryz.f32
  | 931=>cmpl Tryz.f33
  | 932=>cmpl Tryz.f34
  | 933=>cmpl Tryz.f35
  | 934=>cmpl Tryz.f25
  | 936=>cmpl Tryz.f37
  | 940=>cmpl Tryz.f57
  | 941=>cmpl Tryz.f58
  | 942=>cmpl Tryz.f59
  | 943=>cmpl Tryz.f60
  | 944=>cmpl Tryz.f61
  | 945=>cmpl Tryz.f62
  | 946=>cmpl Tryz.f63
  | 947=>cmpl Tryz.f64
  | 949=>cmpl Tryz.f86
  | 950=>cmpl Tryz.f87
  | 951=>cmpl Tryz.f88
  | 952=>cmpl Tryz.f89
  | 953=>cmpl Tryz.f92
  | 954=>cmpl Tryz.f93
  | 955=>cmpl Tryz.f94
  | 956=>cmpl Tryz.f114
  | _=>none
noncomputable def codeF (f:Nat):Option AFn:=match codeU f with
  | some a=>some a
  | none=>codeR f
noncomputable def CF:Ctx:=extCtx (mkCtx codeF clRS clPS) csQ lnQ ssQ
theorem fitsF:Fits CF codeF clRS clPS:=fits_ext (fits_mk _ _ _)
abbrev CA (p:Nat × Nat):Prop:=CodedAt Tryz.prog (fidOf fids) pf codeF p
theorem codedR {g f : Nat} {gf : Func} {c : Code} (hc : codeF f = cmpl gf) (hg : Tryz.prog.funcs[g]? = some gf) (hb : gf.body = some c) (hn : (gf.name == "runtime.NumGoroutine") = false) : CA (g,f) :=
  ⟨⟨gf,c,hg,hb,hn⟩,fun a ha=>by
    rw[hc] at ha
    obtain ⟨x,hx,rfl⟩:=Option.map_eq_some_iff.1 ha
    exact ⟨gf,x,hg,hx,rfl,rfl,setL_strip _ _⟩⟩
theorem coded18:CA (116,18):=codedAt_of (a:=ac18) rfl Tryz.func116 (by kernel_rfl) (by kernel_rfl)
theorem coded19:CA (111,19):=codedAt_of (a:=ac19) rfl Tryz.func111 (by kernel_rfl) (by kernel_rfl)
theorem coded24:CA (29,24):=codedAt_of (a:=ac24) rfl Tryz.func29 (by kernel_rfl) (by kernel_rfl)
theorem coded29:CA (66,29):=codedAt_of (a:=ac29) rfl Tryz.func66 (by kernel_rfl) (by kernel_rfl)
theorem coded38:CA (129,38):=codedAt_of (a:=ac38) rfl Tryz.func129 (by kernel_rfl) (by kernel_rfl)
theorem coded39:CA (123,39):=codedAt_of (a:=ac39) rfl Tryz.func123 (by kernel_rfl) (by kernel_rfl)
theorem coded42:CA (53,42):=codedAt_of (a:=ac42) rfl Tryz.func53 (by kernel_rfl) (by kernel_rfl)
theorem coded57:CA (140,57):=codedAt_of (a:=ac57) rfl Tryz.func140 (by kernel_rfl) (by kernel_rfl)
theorem coded58:CA (141,58):=codedAt_of (a:=ac58) rfl Tryz.func141 (by kernel_rfl) (by kernel_rfl)
theorem coded59:CA (163,59):=codedAt_of (a:=ac59) rfl Tryz.func163 (by kernel_rfl) (by kernel_rfl)
theorem coded60:CA (80,60):=codedAt_of (a:=ac60) rfl Tryz.func80 (by kernel_rfl) (by kernel_rfl)
theorem coded78:CA (152,78):=codedAt_of (a:=ac78) rfl Tryz.func152 (by kernel_rfl) (by kernel_rfl)
theorem coded79:CA (151,79):=codedAt_of (a:=ac79) rfl Tryz.func151 (by kernel_rfl) (by kernel_rfl)
theorem coded80:CA (153,80):=codedAt_of (a:=ac80) rfl Tryz.func153 (by kernel_rfl) (by kernel_rfl)
theorem coded81:CA (154,81):=codedAt_of (a:=ac81) rfl Tryz.func154 (by kernel_rfl) (by kernel_rfl)
theorem coded82:CA (173,82):=codedAt_of (a:=ac82) rfl Tryz.func173 (by kernel_rfl) (by kernel_rfl)
theorem coded83:CA (105,83):=codedAt_of (a:=ac83) rfl Tryz.func105 (by kernel_rfl) (by kernel_rfl)
theorem coded90:CA (164,90):=codedAt_of (a:=ac90) rfl Tryz.func164 (by kernel_rfl) (by kernel_rfl)
theorem coded91:CA (165,91):=codedAt_of (a:=ac91) rfl Tryz.func165 (by kernel_rfl) (by kernel_rfl)
theorem coded92:CA (166,92):=codedAt_of (a:=ac92) rfl Tryz.func166 (by kernel_rfl) (by kernel_rfl)
theorem coded93:CA (120,93):=codedAt_of (a:=ac93) rfl Tryz.func120 (by kernel_rfl) (by kernel_rfl)
theorem coded340:CA (109,340):=codedAt_of (a:=ac340) rfl Tryz.func109 (by kernel_rfl) (by kernel_rfl)
theorem coded357:CA (69,357):=codedAt_of (a:=ac357) rfl Tryz.func69 (by kernel_rfl) (by kernel_rfl)
theorem coded360:CA (122,360):=codedAt_of (a:=ac360) rfl Tryz.func122 (by kernel_rfl) (by kernel_rfl)
theorem coded376:CA (96,376):=codedAt_of (a:=ac376) rfl Tryz.func96 (by kernel_rfl) (by kernel_rfl)
theorem coded384:CA (139,384):=codedAt_of (a:=ac384) rfl Tryz.func139 (by kernel_rfl) (by kernel_rfl)
theorem coded453:CA (21,453):=codedAt_of (a:=ac453) rfl Tryz.func21 (by kernel_rfl) (by kernel_rfl)
theorem coded455:CA (13,455):=codedAt_of (a:=ac455) rfl Tryz.func13 (by kernel_rfl) (by kernel_rfl)
theorem coded458:CA (26,458):=codedAt_of (a:=ac458) rfl Tryz.func26 (by kernel_rfl) (by kernel_rfl)
theorem coded460:CA (31,460):=codedAt_of (a:=ac460) rfl Tryz.func31 (by kernel_rfl) (by kernel_rfl)
theorem coded461:CA (8,461):=codedAt_of (a:=ac461) rfl Tryz.func8 (by kernel_rfl) (by kernel_rfl)
theorem coded467:CA (10,467):=codedAt_of (a:=ac467) rfl Tryz.func10 (by kernel_rfl) (by kernel_rfl)
theorem coded474:CA (27,474):=codedAt_of (a:=ac474) rfl Tryz.func27 (by kernel_rfl) (by kernel_rfl)
theorem coded480:CA (47,480):=codedAt_of (a:=ac480) rfl Tryz.func47 (by kernel_rfl) (by kernel_rfl)
theorem coded487:CA (28,487):=codedAt_of (a:=ac487) rfl Tryz.func28 (by kernel_rfl) (by kernel_rfl)
theorem coded488:CA (30,488):=codedAt_of (a:=ac488) rfl Tryz.func30 (by kernel_rfl) (by kernel_rfl)
theorem coded492:CA (55,492):=codedAt_of (a:=ac492) rfl Tryz.func55 (by kernel_rfl) (by kernel_rfl)
theorem coded493:CA (56,493):=codedAt_of (a:=ac493) rfl Tryz.func56 (by kernel_rfl) (by kernel_rfl)
theorem coded494:CA (19,494):=codedAt_of (a:=ac494) rfl Tryz.func19 (by kernel_rfl) (by kernel_rfl)
theorem coded500:CA (22,500):=codedAt_of (a:=ac500) rfl Tryz.func22 (by kernel_rfl) (by kernel_rfl)
theorem coded507:CA (52,507):=codedAt_of (a:=ac507) rfl Tryz.func52 (by kernel_rfl) (by kernel_rfl)
theorem coded508:CA (68,508):=codedAt_of (a:=ac508) rfl Tryz.func68 (by kernel_rfl) (by kernel_rfl)
theorem coded512:CA (83,512):=codedAt_of (a:=ac512) rfl Tryz.func83 (by kernel_rfl) (by kernel_rfl)
theorem coded515:CA (45,515):=codedAt_of (a:=ac515) rfl Tryz.func45 (by kernel_rfl) (by kernel_rfl)
theorem coded516:CA (54,516):=codedAt_of (a:=ac516) rfl Tryz.func54 (by kernel_rfl) (by kernel_rfl)
theorem coded521:CA (84,521):=codedAt_of (a:=ac521) rfl Tryz.func84 (by kernel_rfl) (by kernel_rfl)
theorem coded522:CA (42,522):=codedAt_of (a:=ac522) rfl Tryz.func42 (by kernel_rfl) (by kernel_rfl)
theorem coded523:CA (43,523):=codedAt_of (a:=ac523) rfl Tryz.func43 (by kernel_rfl) (by kernel_rfl)
theorem coded524:CA (44,524):=codedAt_of (a:=ac524) rfl Tryz.func44 (by kernel_rfl) (by kernel_rfl)
theorem coded529:CA (67,529):=codedAt_of (a:=ac529) rfl Tryz.func67 (by kernel_rfl) (by kernel_rfl)
theorem coded545:CA (48,545):=codedAt_of (a:=ac545) rfl Tryz.func48 (by kernel_rfl) (by kernel_rfl)
theorem coded546:CA (49,546):=codedAt_of (a:=ac546) rfl Tryz.func49 (by kernel_rfl) (by kernel_rfl)
theorem coded560:CA (95,560):=codedAt_of (a:=ac560) rfl Tryz.func95 (by kernel_rfl) (by kernel_rfl)
theorem coded564:CA (81,564):=codedAt_of (a:=ac564) rfl Tryz.func81 (by kernel_rfl) (by kernel_rfl)
theorem coded565:CA (82,565):=codedAt_of (a:=ac565) rfl Tryz.func82 (by kernel_rfl) (by kernel_rfl)
theorem coded567:CA (65,567):=codedAt_of (a:=ac567) rfl Tryz.func65 (by kernel_rfl) (by kernel_rfl)
theorem coded578:CA (70,578):=codedAt_of (a:=ac578) rfl Tryz.func70 (by kernel_rfl) (by kernel_rfl)
theorem coded599:CA (106,599):=codedAt_of (a:=ac599) rfl Tryz.func106 (by kernel_rfl) (by kernel_rfl)
theorem coded600:CA (107,600):=codedAt_of (a:=ac600) rfl Tryz.func107 (by kernel_rfl) (by kernel_rfl)
theorem coded601:CA (108,601):=codedAt_of (a:=ac601) rfl Tryz.func108 (by kernel_rfl) (by kernel_rfl)
theorem coded602:CA (110,602):=codedAt_of (a:=ac602) rfl Tryz.func110 (by kernel_rfl) (by kernel_rfl)
theorem coded603:CA (112,603):=codedAt_of (a:=ac603) rfl Tryz.func112 (by kernel_rfl) (by kernel_rfl)
theorem coded604:CA (113,604):=codedAt_of (a:=ac604) rfl Tryz.func113 (by kernel_rfl) (by kernel_rfl)
theorem coded625:CA (121,625):=codedAt_of (a:=ac625) rfl Tryz.func121 (by kernel_rfl) (by kernel_rfl)
theorem coded638:CA (138,638):=codedAt_of (a:=ac638) rfl Tryz.func138 (by kernel_rfl) (by kernel_rfl)
theorem coded903:CA (3,903):=codedAt_of (a:=ac903) rfl Tryz.func3 (by kernel_rfl) (by kernel_rfl)
theorem coded909:CA (5,909):=codedAt_of (a:=ac909) rfl Tryz.func5 (by kernel_rfl) (by kernel_rfl)
theorem coded911:CA (7,911):=codedAt_of (a:=ac911) rfl Tryz.func7 (by kernel_rfl) (by kernel_rfl)
theorem coded912:CA (9,912):=codedAt_of (a:=ac912) rfl Tryz.func9 (by kernel_rfl) (by kernel_rfl)
theorem coded926:CA (17,926):=codedAt_of (a:=ac926) rfl Tryz.func17 (by kernel_rfl) (by kernel_rfl)
theorem coded927:CA (18,927):=codedAt_of (a:=ac927) rfl Tryz.func18 (by kernel_rfl) (by kernel_rfl)
theorem coded928:CA (20,928):=codedAt_of (a:=ac928) rfl Tryz.func20 (by kernel_rfl) (by kernel_rfl)
theorem coded938:CA (39,938):=codedAt_of (a:=ac938) rfl Tryz.func39 (by kernel_rfl) (by kernel_rfl)
theorem coded939:CA (46,939):=codedAt_of (a:=ac939) rfl Tryz.func46 (by kernel_rfl) (by kernel_rfl)
theorem coded26:CA (77,26):=codedR rfl Tryz.func77 rfl (by kernel_rfl)
theorem coded45:CA (104,45):=codedR rfl Tryz.func104 rfl (by kernel_rfl)
theorem coded46:CA (74,46):=codedR rfl Tryz.func74 rfl (by kernel_rfl)
theorem coded63:CA (100,63):=codedR rfl Tryz.func100 rfl (by kernel_rfl)
theorem coded84:CA (119,84):=codedR rfl Tryz.func119 rfl (by kernel_rfl)
theorem coded94:CA (135,94):=codedR rfl Tryz.func135 rfl (by kernel_rfl)
theorem coded95:CA (136,95):=codedR rfl Tryz.func136 rfl (by kernel_rfl)
theorem coded96:CA (137,96):=codedR rfl Tryz.func137 rfl (by kernel_rfl)
theorem coded126:CA (132,126):=codedR rfl Tryz.func132 rfl (by kernel_rfl)
theorem coded133:CA (149,133):=codedR rfl Tryz.func149 rfl (by kernel_rfl)
theorem coded139:CA (159,139):=codedR rfl Tryz.func159 rfl (by kernel_rfl)
theorem coded140:CA (160,140):=codedR rfl Tryz.func160 rfl (by kernel_rfl)
theorem coded141:CA (161,141):=codedR rfl Tryz.func161 rfl (by kernel_rfl)
theorem coded142:CA (162,142):=codedR rfl Tryz.func162 rfl (by kernel_rfl)
theorem coded148:CA (176,148):=codedR rfl Tryz.func176 rfl (by kernel_rfl)
theorem coded149:CA (170,149):=codedR rfl Tryz.func170 rfl (by kernel_rfl)
theorem coded150:CA (171,150):=codedR rfl Tryz.func171 rfl (by kernel_rfl)
theorem coded151:CA (172,151):=codedR rfl Tryz.func172 rfl (by kernel_rfl)
theorem coded155:CA (178,155):=codedR rfl Tryz.func178 rfl (by kernel_rfl)
theorem coded158:CA (175,158):=codedR rfl Tryz.func175 rfl (by kernel_rfl)
theorem coded229:CA (130,229):=codedR rfl Tryz.func130 rfl (by kernel_rfl)
theorem coded250:CA (146,250):=codedR rfl Tryz.func146 rfl (by kernel_rfl)
theorem coded254:CA (115,254):=codedR rfl Tryz.func115 rfl (by kernel_rfl)
theorem coded257:CA (145,257):=codedR rfl Tryz.func145 rfl (by kernel_rfl)
theorem coded262:CA (157,262):=codedR rfl Tryz.func157 rfl (by kernel_rfl)
theorem coded265:CA (124,265):=codedR rfl Tryz.func124 rfl (by kernel_rfl)
theorem coded266:CA (125,266):=codedR rfl Tryz.func125 rfl (by kernel_rfl)
theorem coded267:CA (126,267):=codedR rfl Tryz.func126 rfl (by kernel_rfl)
theorem coded268:CA (90,268):=codedR rfl Tryz.func90 rfl (by kernel_rfl)
theorem coded269:CA (127,269):=codedR rfl Tryz.func127 rfl (by kernel_rfl)
theorem coded270:CA (128,270):=codedR rfl Tryz.func128 rfl (by kernel_rfl)
theorem coded274:CA (143,274):=codedR rfl Tryz.func143 rfl (by kernel_rfl)
theorem coded275:CA (144,275):=codedR rfl Tryz.func144 rfl (by kernel_rfl)
theorem coded287:CA (155,287):=codedR rfl Tryz.func155 rfl (by kernel_rfl)
theorem coded292:CA (167,292):=codedR rfl Tryz.func167 rfl (by kernel_rfl)
theorem coded293:CA (168,293):=codedR rfl Tryz.func168 rfl (by kernel_rfl)
theorem coded301:CA (174,301):=codedR rfl Tryz.func174 rfl (by kernel_rfl)
theorem coded307:CA (177,307):=codedR rfl Tryz.func177 rfl (by kernel_rfl)
theorem coded358:CA (131,358):=codedR rfl Tryz.func131 rfl (by kernel_rfl)
theorem coded377:CA (147,377):=codedR rfl Tryz.func147 rfl (by kernel_rfl)
theorem coded378:CA (148,378):=codedR rfl Tryz.func148 rfl (by kernel_rfl)
theorem coded396:CA (158,396):=codedR rfl Tryz.func158 rfl (by kernel_rfl)
theorem coded454:CA (50,454):=codedR rfl Tryz.func50 rfl (by kernel_rfl)
theorem coded457:CA (24,457):=codedR rfl Tryz.func24 rfl (by kernel_rfl)
theorem coded459:CA (75,459):=codedR rfl Tryz.func75 rfl (by kernel_rfl)
theorem coded477:CA (36,477):=codedR rfl Tryz.func36 rfl (by kernel_rfl)
theorem coded481:CA (73,481):=codedR rfl Tryz.func73 rfl (by kernel_rfl)
theorem coded485:CA (71,485):=codedR rfl Tryz.func71 rfl (by kernel_rfl)
theorem coded486:CA (72,486):=codedR rfl Tryz.func72 rfl (by kernel_rfl)
theorem coded490:CA (51,490):=codedR rfl Tryz.func51 rfl (by kernel_rfl)
theorem coded491:CA (101,491):=codedR rfl Tryz.func101 rfl (by kernel_rfl)
theorem coded498:CA (91,498):=codedR rfl Tryz.func91 rfl (by kernel_rfl)
theorem coded509:CA (99,509):=codedR rfl Tryz.func99 rfl (by kernel_rfl)
theorem coded513:CA (97,513):=codedR rfl Tryz.func97 rfl (by kernel_rfl)
theorem coded514:CA (98,514):=codedR rfl Tryz.func98 rfl (by kernel_rfl)
theorem coded517:CA (76,517):=codedR rfl Tryz.func76 rfl (by kernel_rfl)
theorem coded562:CA (117,562):=codedR rfl Tryz.func117 rfl (by kernel_rfl)
theorem coded563:CA (118,563):=codedR rfl Tryz.func118 rfl (by kernel_rfl)
theorem coded597:CA (133,597):=codedR rfl Tryz.func133 rfl (by kernel_rfl)
theorem coded598:CA (134,598):=codedR rfl Tryz.func134 rfl (by kernel_rfl)
theorem coded624:CA (150,624):=codedR rfl Tryz.func150 rfl (by kernel_rfl)
theorem coded910:CA (6,910):=codedR rfl Tryz.func6 rfl (by kernel_rfl)
theorem coded913:CA (15,913):=codedR rfl Tryz.func15 rfl (by kernel_rfl)
theorem coded918:CA (16,918):=codedR rfl Tryz.func16 rfl (by kernel_rfl)
theorem coded925:CA (14,925):=codedR rfl Tryz.func14 rfl (by kernel_rfl)
theorem coded929:CA (23,929):=codedR rfl Tryz.func23 rfl (by kernel_rfl)
theorem coded930:CA (32,930):=codedR rfl Tryz.func32 rfl (by kernel_rfl)
theorem coded931:CA (33,931):=codedR rfl Tryz.func33 rfl (by kernel_rfl)
theorem coded932:CA (34,932):=codedR rfl Tryz.func34 rfl (by kernel_rfl)
theorem coded933:CA (35,933):=codedR rfl Tryz.func35 rfl (by kernel_rfl)
theorem coded934:CA (25,934):=codedR rfl Tryz.func25 rfl (by kernel_rfl)
theorem coded936:CA (37,936):=codedR rfl Tryz.func37 rfl (by kernel_rfl)
theorem coded940:CA (57,940):=codedR rfl Tryz.func57 rfl (by kernel_rfl)
theorem coded941:CA (58,941):=codedR rfl Tryz.func58 rfl (by kernel_rfl)
theorem coded942:CA (59,942):=codedR rfl Tryz.func59 rfl (by kernel_rfl)
theorem coded943:CA (60,943):=codedR rfl Tryz.func60 rfl (by kernel_rfl)
theorem coded944:CA (61,944):=codedR rfl Tryz.func61 rfl (by kernel_rfl)
theorem coded945:CA (62,945):=codedR rfl Tryz.func62 rfl (by kernel_rfl)
theorem coded946:CA (63,946):=codedR rfl Tryz.func63 rfl (by kernel_rfl)
theorem coded947:CA (64,947):=codedR rfl Tryz.func64 rfl (by kernel_rfl)
theorem coded949:CA (86,949):=codedR rfl Tryz.func86 rfl (by kernel_rfl)
theorem coded950:CA (87,950):=codedR rfl Tryz.func87 rfl (by kernel_rfl)
theorem coded951:CA (88,951):=codedR rfl Tryz.func88 rfl (by kernel_rfl)
theorem coded952:CA (89,952):=codedR rfl Tryz.func89 rfl (by kernel_rfl)
theorem coded953:CA (92,953):=codedR rfl Tryz.func92 rfl (by kernel_rfl)
theorem coded954:CA (93,954):=codedR rfl Tryz.func93 rfl (by kernel_rfl)
theorem coded955:CA (94,955):=codedR rfl Tryz.func94 rfl (by kernel_rfl)
theorem coded956:CA (114,956):=codedR rfl Tryz.func114 rfl (by kernel_rfl)
theorem coded216:CA (38,216):=bodied_of rfl Tryz.func38 rfl (by kernel_rfl)
theorem clone216:CloneAt Tryz.prog (fidOf fids) pf 216 (11,104):=fun g hg=>by
  have h:=fidOf_mem hg
  have e:g=38:=by simpa [fids] using h
  subst e
  exact ⟨Tryz.f38,23,85,_,_,_,_,_,_,_,_,_,_,_,Tryz.func38,by kernel_rfl,rfl,rfl,rfl,by kernel_rfl,rfl,by kernel_rfl,rfl,rfl,rfl,by kernel_rfl,by kernel_rfl⟩
theorem coded518:CA (40,518):=bodied_of rfl Tryz.func40 rfl (by kernel_rfl)
theorem clone518:CloneAt Tryz.prog (fidOf fids) pf 518 (13,168):=fun g hg=>by
  have h:=fidOf_mem hg
  have e:g=40:=by simpa [fids] using h
  subst e
  exact ⟨Tryz.f40,29,93,_,_,_,_,_,_,_,_,_,_,_,Tryz.func40,by kernel_rfl,rfl,rfl,rfl,by kernel_rfl,rfl,by kernel_rfl,rfl,rfl,rfl,by kernel_rfl,by kernel_rfl⟩
theorem coded519:CA (78,519):=bodied_of rfl Tryz.func78 rfl (by kernel_rfl)
theorem clone519:CloneAt Tryz.prog (fidOf fids) pf 519 (17,232):=fun g hg=>by
  have h:=fidOf_mem hg
  have e:g=78:=by simpa [fids] using h
  subst e
  exact ⟨Tryz.f78,30,96,_,_,_,_,_,_,_,_,_,_,_,Tryz.func78,by kernel_rfl,rfl,rfl,rfl,by kernel_rfl,rfl,by kernel_rfl,rfl,rfl,rfl,by kernel_rfl,by kernel_rfl⟩
theorem coded520:CA (79,520):=bodied_of rfl Tryz.func79 rfl (by kernel_rfl)
theorem clone520:CloneAt Tryz.prog (fidOf fids) pf 520 (15,208):=fun g hg=>by
  have h:=fidOf_mem hg
  have e:g=79:=by simpa [fids] using h
  subst e
  exact ⟨Tryz.f79,31,33,_,_,_,_,_,_,_,_,_,_,_,Tryz.func79,by kernel_rfl,rfl,rfl,rfl,by kernel_rfl,rfl,by kernel_rfl,rfl,rfl,rfl,by kernel_rfl,by kernel_rfl⟩
theorem coded566:CA (103,566):=bodied_of rfl Tryz.func103 rfl (by kernel_rfl)
theorem clone566:CloneAt Tryz.prog (fidOf fids) pf 566 (6,64):=fun g hg=>by
  have h:=fidOf_mem hg
  have e:g=103:=by simpa [fids] using h
  subst e
  exact ⟨Tryz.f103,26,28,_,_,_,_,_,_,_,_,_,_,_,Tryz.func103,by kernel_rfl,rfl,rfl,rfl,by kernel_rfl,rfl,by kernel_rfl,rfl,rfl,rfl,by kernel_rfl,by kernel_rfl⟩
theorem coded214:CA (102,214):=bodied_of rfl Tryz.func102 rfl (by kernel_rfl)
theorem clone214:CloneAt Tryz.prog (fidOf fids) pf 214 (1,16):=fun g hg=>by
  have h:=fidOf_mem hg
  have e:g=102:=by simpa [fids] using h
  subst e
  exact ⟨Tryz.f102,111,9,_,_,_,_,_,_,_,_,_,_,_,Tryz.func102,by kernel_rfl,rfl,rfl,rfl,by kernel_rfl,rfl,by kernel_rfl,rfl,rfl,rfl,by kernel_rfl,by kernel_rfl⟩
theorem coded130:CA (142,130):=bodied_of rfl Tryz.func142 rfl (by kernel_rfl)
theorem clone130:CloneAt Tryz.prog (fidOf fids) pf 130 (14,184):=fun g hg=>by
  have h:=fidOf_mem hg
  have e:g=142:=by simpa [fids] using h
  subst e
  exact ⟨Tryz.f142,91,147,_,_,_,_,_,_,_,_,_,_,_,Tryz.func142,by kernel_rfl,rfl,rfl,rfl,by kernel_rfl,rfl,by kernel_rfl,rfl,rfl,rfl,by kernel_rfl,by kernel_rfl⟩
theorem coded948:CA (85,948):=bodied_of rfl Tryz.func85 rfl (by kernel_rfl)
theorem clone948:CloneAt Tryz.prog (fidOf fids) pf 948 (16,216):=fun g hg=>by
  have h:=fidOf_mem hg
  have e:g=85:=by simpa [fids] using h
  subst e
  exact ⟨Tryz.f85,73,76,_,_,_,_,_,_,_,_,_,_,_,Tryz.func85,by kernel_rfl,rfl,rfl,rfl,by kernel_rfl,rfl,by kernel_rfl,rfl,rfl,rfl,by kernel_rfl,by kernel_rfl⟩
theorem coded62:CA (41,62):=bodied_of rfl Tryz.func41 rfl (by kernel_rfl)
theorem clone62:CloneAt Tryz.prog (fidOf fids) pf 62 (1,1):=fun g hg=>by
  have h:=fidOf_mem hg
  have e:g=41:=by simpa [fids] using h
  subst e
  exact ⟨Tryz.f41,90,5,_,_,_,_,_,_,_,_,_,_,_,Tryz.func41,by kernel_rfl,rfl,rfl,rfl,by kernel_rfl,rfl,by kernel_rfl,rfl,rfl,rfl,by kernel_rfl,by kernel_rfl⟩
theorem coded272:CA (156,272):=bodied_of rfl Tryz.func156 rfl (by kernel_rfl)
theorem ctxOk0:CtxOk Tryz.prog (fidOf fids) pf (mkCtx codeF clRS clPS):=ctxOk_of (by
  intro p hp
  simp only[fids,List.mem_cons,List.not_mem_nil,or_false] at hp
  rcases hp with rfl | rfl | rfl | rfl | rfl | rfl | rfl | rfl | rfl | rfl | rfl | rfl | rfl | rfl | rfl | rfl | rfl | rfl | rfl | rfl | rfl | rfl | rfl | rfl | rfl | rfl | rfl | rfl | rfl | rfl | rfl | rfl | rfl | rfl | rfl | rfl | rfl | rfl | rfl | rfl | rfl | rfl | rfl | rfl | rfl | rfl | rfl | rfl | rfl | rfl | rfl | rfl | rfl | rfl | rfl | rfl | rfl | rfl | rfl | rfl | rfl | rfl | rfl | rfl | rfl | rfl | rfl | rfl | rfl | rfl | rfl | rfl | rfl | rfl | rfl | rfl | rfl | rfl | rfl | rfl | rfl | rfl | rfl | rfl | rfl | rfl | rfl | rfl | rfl | rfl | rfl | rfl | rfl | rfl | rfl | rfl | rfl | rfl | rfl | rfl | rfl | rfl | rfl | rfl | rfl | rfl | rfl | rfl | rfl | rfl | rfl | rfl | rfl | rfl | rfl | rfl | rfl | rfl | rfl | rfl | rfl | rfl | rfl | rfl | rfl | rfl | rfl | rfl | rfl | rfl | rfl | rfl | rfl | rfl | rfl | rfl | rfl | rfl | rfl | rfl | rfl | rfl | rfl | rfl | rfl | rfl | rfl | rfl | rfl | rfl | rfl | rfl | rfl | rfl | rfl | rfl | rfl | rfl | rfl | rfl | rfl | rfl | rfl | rfl | rfl | rfl | rfl | rfl | rfl | rfl | rfl | rfl
  · exact coded18
  · exact coded19
  · exact coded24
  · exact coded26
  · exact coded29
  · exact coded38
  · exact coded39
  · exact coded42
  · exact coded45
  · exact coded46
  · exact coded57
  · exact coded58
  · exact coded59
  · exact coded60
  · exact coded63
  · exact coded78
  · exact coded79
  · exact coded80
  · exact coded81
  · exact coded82
  · exact coded83
  · exact coded84
  · exact coded90
  · exact coded91
  · exact coded92
  · exact coded93
  · exact coded94
  · exact coded95
  · exact coded96
  · exact coded126
  · exact coded133
  · exact coded139
  · exact coded140
  · exact coded141
  · exact coded142
  · exact coded148
  · exact coded149
  · exact coded150
  · exact coded151
  · exact coded155
  · exact coded158
  · exact coded229
  · exact coded250
  · exact coded254
  · exact coded257
  · exact coded262
  · exact coded265
  · exact coded266
  · exact coded267
  · exact coded268
  · exact coded269
  · exact coded270
  · exact coded274
  · exact coded275
  · exact coded287
  · exact coded292
  · exact coded293
  · exact coded301
  · exact coded307
  · exact coded340
  · exact coded357
  · exact coded358
  · exact coded360
  · exact coded376
  · exact coded377
  · exact coded378
  · exact coded384
  · exact coded396
  · exact coded453
  · exact coded454
  · exact coded455
  · exact coded457
  · exact coded458
  · exact coded459
  · exact coded460
  · exact coded461
  · exact coded467
  · exact coded474
  · exact coded477
  · exact coded480
  · exact coded481
  · exact coded485
  · exact coded486
  · exact coded487
  · exact coded488
  · exact coded490
  · exact coded491
  · exact coded492
  · exact coded493
  · exact coded494
  · exact coded498
  · exact coded500
  · exact coded507
  · exact coded508
  · exact coded509
  · exact coded512
  · exact coded513
  · exact coded514
  · exact coded515
  · exact coded516
  · exact coded517
  · exact coded521
  · exact coded522
  · exact coded523
  · exact coded524
  · exact coded529
  · exact coded545
  · exact coded546
  · exact coded560
  · exact coded562
  · exact coded563
  · exact coded564
  · exact coded565
  · exact coded567
  · exact coded578
  · exact coded597
  · exact coded598
  · exact coded599
  · exact coded600
  · exact coded601
  · exact coded602
  · exact coded603
  · exact coded604
  · exact coded624
  · exact coded625
  · exact coded638
  · exact coded903
  · exact coded909
  · exact coded910
  · exact coded911
  · exact coded912
  · exact coded913
  · exact coded918
  · exact coded925
  · exact coded926
  · exact coded927
  · exact coded928
  · exact coded929
  · exact coded930
  · exact coded931
  · exact coded932
  · exact coded933
  · exact coded934
  · exact coded936
  · exact coded938
  · exact coded939
  · exact coded940
  · exact coded941
  · exact coded942
  · exact coded943
  · exact coded944
  · exact coded945
  · exact coded946
  · exact coded947
  · exact coded949
  · exact coded950
  · exact coded951
  · exact coded952
  · exact coded953
  · exact coded954
  · exact coded955
  · exact coded956
  · exact coded216
  · exact coded518
  · exact coded519
  · exact coded520
  · exact coded566
  · exact coded214
  · exact coded130
  · exact coded948
  · exact coded62
  · exact coded272) (fun f p h=>by
  unfold clRS at h
  split at h
  · cases h
    exact ⟨rfl,clone216⟩
  · cases h
    exact ⟨rfl,clone518⟩
  · cases h
    exact ⟨rfl,clone519⟩
  · cases h
    exact ⟨rfl,clone520⟩
  · cases h
    exact ⟨rfl,clone566⟩
  · cases h
    exact ⟨rfl,clone214⟩
  · cases h
    exact ⟨rfl,clone130⟩
  · cases h
    exact ⟨rfl,clone948⟩
  · cases h) (fun f p h=>by
  unfold clPS at h
  split at h
  · cases h
    exact ⟨rfl,clone62⟩
  · cases h)
theorem ctxOk:CtxOk Tryz.prog (fidOf fids) pf CF:=extCtx_ok ctxOk0 (fun f h=>by
    have e:f=272:=by simpa [csQ] using h
    subst e
    refine ⟨rfl,fun g hg=>?_,rfl,fun ts v h=>?_⟩
    · exact by
        have h:=fidOf_mem hg
        have e:g=156:=by simpa [fids] using h
        subst e
        exact ⟨_,Tryz.lays213,rfl⟩
    · obtain ⟨p,l,h,_⟩:=h
      cases h)
  (fun f h=>by
    have e:f=551:=by simpa [lnQ] using h
    subst e
    refine ⟨rfl,fun g hg s w=>?_,rfl,fun ts v h=>?_⟩
    · exact by
        have h:=fidOf_mem hg
        simp [fids] at h
    · obtain ⟨p,l,h,_⟩:=h
      cases h)
  (fun f h=>by simp [ssQ] at h)
end Go.Proofs.YtglenpfcanlbgaaGreatDoor
