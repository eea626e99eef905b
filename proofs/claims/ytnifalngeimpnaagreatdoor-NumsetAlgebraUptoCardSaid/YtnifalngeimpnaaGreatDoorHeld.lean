/- The functions of the program,compiled,are the table's; awake,as it is carried out,holds of the program. -/
import Derived.Test.YtnifalngeimpnaaGreatDoorRows
import Derived.Test.YtnifalngeimpnaaGreatDoorMachD
import Derived.Test.YtnifalngeimpnaaGreatDoorMachH
import Derived.Test.YtnifalngeimpnaaGreatDoorCodeW
import Derived.Test.YtnifalngeimpnaaGreatDoorAwaA
import Derived.Test.YtnifalngeimpnaaGreatDoorRunC
import Derived.Test.YtnifalngeimpnaaGreatDoorShelf
set_option linter.unusedSimpArgs false
set_option linter.unusedVariables false
set_option maxRecDepth 100000
namespace Go.Proofs.YtnifalngeimpnaaGreatDoor
open Ago
def fids:List (Nat × Nat):=[(89,49),(117,72),(118,73),(134,86),(135,87),(31,90),(86,129),(102,136),(82,137),(81,138),(39,140),(127,143),(96,144),(91,145),(97,146),(98,147),(77,148),(58,149),(59,150),(119,152),(123,153),(121,154),(90,155),(76,158),(141,159),(19,229),(23,235),(38,250),(40,251),(122,257),(57,262),(60,263),(61,264),(78,273),(94,285),(95,286),(26,549),(41,579),(42,580),(43,581),(62,610),(63,611),(64,612),(7,670),(8,671),(9,672),(13,673),(14,674),(15,675),(16,676),(17,677),(24,679),(21,683),(20,687),(22,688),(25,689),(27,690),(28,691),(33,692),(34,693),(35,694),(36,695),(37,696),(48,697),(49,698),(50,699),(51,700),(52,701),(53,702),(54,703),(55,704),(56,705),(66,706),(67,707),(68,708),(69,709),(70,710),(71,711),(72,712),(73,713),(74,714),(75,715),(83,716),(84,717),(85,718),(88,719),(99,720),(100,721),(101,722),(109,723),(110,724),(111,725),(112,726),(113,727),(114,728),(115,729),(116,730),(124,731),(125,732),(126,733),(133,734),(136,735),(137,736),(144,737),(87,291),(140,272)]
def pf (f:Nat):Bool:=!([86,87,143,152,691,693,694,696,701,703,713,714,715,719,723,724,725,726,727,728,729,730,734,735,736,737]:List Nat).contains f
abbrev CX (p:Nat × Nat):Prop:=CodedAt Tryz.prog (fidOf fids) pf codeW p
theorem coded49:CX (89,49):=codedAt_of (a:=ac49) rfl Tryz.func89 (by kernel_rfl) (by kernel_rfl)
theorem coded72:CX (117,72):=codedAt_of (a:=ac72) rfl Tryz.func117 (by kernel_rfl) (by kernel_rfl)
theorem coded73:CX (118,73):=codedAt_of (a:=ac73) rfl Tryz.func118 (by kernel_rfl) (by kernel_rfl)
theorem coded86:CX (134,86):=codedAt_of (a:=ac86) rfl Tryz.func134 (by kernel_rfl) (by kernel_rfl)
theorem coded87:CX (135,87):=codedAt_of (a:=ac87) rfl Tryz.func135 (by kernel_rfl) (by kernel_rfl)
theorem coded90:CX (31,90):=codedAt_of (a:=ac90) rfl Tryz.func31 (by kernel_rfl) (by kernel_rfl)
theorem coded129:CX (86,129):=codedAt_of (a:=ac129) rfl Tryz.func86 (by kernel_rfl) (by kernel_rfl)
theorem coded136:CX (102,136):=codedAt_of (a:=ac136) rfl Tryz.func102 (by kernel_rfl) (by kernel_rfl)
theorem coded137:CX (82,137):=codedAt_of (a:=ac137) rfl Tryz.func82 (by kernel_rfl) (by kernel_rfl)
theorem coded138:CX (81,138):=codedAt_of (a:=ac138) rfl Tryz.func81 (by kernel_rfl) (by kernel_rfl)
theorem coded140:CX (39,140):=codedAt_of (a:=ac140) rfl Tryz.func39 (by kernel_rfl) (by kernel_rfl)
theorem coded143:CX (127,143):=codedAt_of (a:=ac143) rfl Tryz.func127 (by kernel_rfl) (by kernel_rfl)
theorem coded144:CX (96,144):=codedAt_of (a:=ac144) rfl Tryz.func96 (by kernel_rfl) (by kernel_rfl)
theorem coded145:CX (91,145):=codedAt_of (a:=ac145) rfl Tryz.func91 (by kernel_rfl) (by kernel_rfl)
theorem coded146:CX (97,146):=codedAt_of (a:=ac146) rfl Tryz.func97 (by kernel_rfl) (by kernel_rfl)
theorem coded147:CX (98,147):=codedAt_of (a:=ac147) rfl Tryz.func98 (by kernel_rfl) (by kernel_rfl)
theorem coded148:CX (77,148):=codedAt_of (a:=ac148) rfl Tryz.func77 (by kernel_rfl) (by kernel_rfl)
theorem coded149:CX (58,149):=codedAt_of (a:=ac149) rfl Tryz.func58 (by kernel_rfl) (by kernel_rfl)
theorem coded150:CX (59,150):=codedAt_of (a:=ac150) rfl Tryz.func59 (by kernel_rfl) (by kernel_rfl)
theorem coded152:CX (119,152):=codedAt_of (a:=ac152) rfl Tryz.func119 (by kernel_rfl) (by kernel_rfl)
theorem coded153:CX (123,153):=codedAt_of (a:=ac153) rfl Tryz.func123 (by kernel_rfl) (by kernel_rfl)
theorem coded154:CX (121,154):=codedAt_of (a:=ac154) rfl Tryz.func121 (by kernel_rfl) (by kernel_rfl)
theorem coded155:CX (90,155):=codedAt_of (a:=ac155) rfl Tryz.func90 (by kernel_rfl) (by kernel_rfl)
theorem coded158:CX (76,158):=codedAt_of (a:=ac158) rfl Tryz.func76 (by kernel_rfl) (by kernel_rfl)
theorem coded159:CX (141,159):=codedAt_of (a:=ac159) rfl Tryz.func141 (by kernel_rfl) (by kernel_rfl)
theorem coded229:CX (19,229):=codedAt_of (a:=ac229) rfl Tryz.func19 (by kernel_rfl) (by kernel_rfl)
theorem coded235:CX (23,235):=codedAt_of (a:=ac235) rfl Tryz.func23 (by kernel_rfl) (by kernel_rfl)
theorem coded250:CX (38,250):=codedAt_of (a:=ac250) rfl Tryz.func38 (by kernel_rfl) (by kernel_rfl)
theorem coded251:CX (40,251):=codedAt_of (a:=ac251) rfl Tryz.func40 (by kernel_rfl) (by kernel_rfl)
theorem coded257:CX (122,257):=codedAt_of (a:=ac257) rfl Tryz.func122 (by kernel_rfl) (by kernel_rfl)
theorem coded262:CX (57,262):=codedAt_of (a:=ac262) rfl Tryz.func57 (by kernel_rfl) (by kernel_rfl)
theorem coded263:CX (60,263):=codedAt_of (a:=ac263) rfl Tryz.func60 (by kernel_rfl) (by kernel_rfl)
theorem coded264:CX (61,264):=codedAt_of (a:=ac264) rfl Tryz.func61 (by kernel_rfl) (by kernel_rfl)
theorem coded273:CX (78,273):=codedAt_of (a:=ac273) rfl Tryz.func78 (by kernel_rfl) (by kernel_rfl)
theorem coded285:CX (94,285):=codedAt_of (a:=ac285) rfl Tryz.func94 (by kernel_rfl) (by kernel_rfl)
theorem coded286:CX (95,286):=codedAt_of (a:=ac286) rfl Tryz.func95 (by kernel_rfl) (by kernel_rfl)
theorem coded549:CX (26,549):=codedAt_of (a:=ac549) rfl Tryz.func26 (by kernel_rfl) (by kernel_rfl)
theorem coded579:CX (41,579):=codedAt_of (a:=ac579) rfl Tryz.func41 (by kernel_rfl) (by kernel_rfl)
theorem coded580:CX (42,580):=codedAt_of (a:=ac580) rfl Tryz.func42 (by kernel_rfl) (by kernel_rfl)
theorem coded581:CX (43,581):=codedAt_of (a:=ac581) rfl Tryz.func43 (by kernel_rfl) (by kernel_rfl)
theorem coded610:CX (62,610):=codedAt_of (a:=ac610) rfl Tryz.func62 (by kernel_rfl) (by kernel_rfl)
theorem coded611:CX (63,611):=codedAt_of (a:=ac611) rfl Tryz.func63 (by kernel_rfl) (by kernel_rfl)
theorem coded612:CX (64,612):=codedAt_of (a:=ac612) rfl Tryz.func64 (by kernel_rfl) (by kernel_rfl)
theorem coded670:CX (7,670):=codedAt_of (a:=ac670) rfl Tryz.func7 (by kernel_rfl) (by kernel_rfl)
theorem coded671:CX (8,671):=codedAt_of (a:=ac671) rfl Tryz.func8 (by kernel_rfl) (by kernel_rfl)
theorem coded672:CX (9,672):=codedAt_of (a:=ac672) rfl Tryz.func9 (by kernel_rfl) (by kernel_rfl)
theorem coded673:CX (13,673):=codedAt_of (a:=ac673) rfl Tryz.func13 (by kernel_rfl) (by kernel_rfl)
theorem coded674:CX (14,674):=codedAt_of (a:=ac674) rfl Tryz.func14 (by kernel_rfl) (by kernel_rfl)
theorem coded675:CX (15,675):=codedAt_of (a:=ac675) rfl Tryz.func15 (by kernel_rfl) (by kernel_rfl)
theorem coded676:CX (16,676):=codedAt_of (a:=ac676) rfl Tryz.func16 (by kernel_rfl) (by kernel_rfl)
theorem coded677:CX (17,677):=codedAt_of (a:=ac677) rfl Tryz.func17 (by kernel_rfl) (by kernel_rfl)
theorem coded679:CX (24,679):=codedAt_of (a:=ac679) rfl Tryz.func24 (by kernel_rfl) (by kernel_rfl)
theorem coded683:CX (21,683):=codedAt_of (a:=ac683) rfl Tryz.func21 (by kernel_rfl) (by kernel_rfl)
theorem coded687:CX (20,687):=codedAt_of (a:=ac687) rfl Tryz.func20 (by kernel_rfl) (by kernel_rfl)
theorem coded688:CX (22,688):=codedAt_of (a:=ac688) rfl Tryz.func22 (by kernel_rfl) (by kernel_rfl)
theorem coded689:CX (25,689):=codedAt_of (a:=ac689) rfl Tryz.func25 (by kernel_rfl) (by kernel_rfl)
theorem coded690:CX (27,690):=codedAt_of (a:=ac690) rfl Tryz.func27 (by kernel_rfl) (by kernel_rfl)
theorem coded691:CX (28,691):=codedAt_of (a:=ac691) rfl Tryz.func28 (by kernel_rfl) (by kernel_rfl)
theorem coded692:CX (33,692):=codedAt_of (a:=ac692) rfl Tryz.func33 (by kernel_rfl) (by kernel_rfl)
theorem coded693:CX (34,693):=codedAt_of (a:=ac693) rfl Tryz.func34 (by kernel_rfl) (by kernel_rfl)
theorem coded694:CX (35,694):=codedAt_of (a:=ac694) rfl Tryz.func35 (by kernel_rfl) (by kernel_rfl)
theorem coded695:CX (36,695):=codedAt_of (a:=ac695) rfl Tryz.func36 (by kernel_rfl) (by kernel_rfl)
theorem coded696:CX (37,696):=codedAt_of (a:=ac696) rfl Tryz.func37 (by kernel_rfl) (by kernel_rfl)
theorem coded697:CX (48,697):=codedAt_of (a:=ac697) rfl Tryz.func48 (by kernel_rfl) (by kernel_rfl)
theorem coded698:CX (49,698):=codedAt_of (a:=ac698) rfl Tryz.func49 (by kernel_rfl) (by kernel_rfl)
theorem coded699:CX (50,699):=codedAt_of (a:=ac699) rfl Tryz.func50 (by kernel_rfl) (by kernel_rfl)
theorem coded700:CX (51,700):=codedAt_of (a:=ac700) rfl Tryz.func51 (by kernel_rfl) (by kernel_rfl)
theorem coded701:CX (52,701):=codedAt_of (a:=ac701) rfl Tryz.func52 (by kernel_rfl) (by kernel_rfl)
theorem coded702:CX (53,702):=codedAt_of (a:=ac702) rfl Tryz.func53 (by kernel_rfl) (by kernel_rfl)
theorem coded703:CX (54,703):=codedAt_of (a:=ac703) rfl Tryz.func54 (by kernel_rfl) (by kernel_rfl)
theorem coded704:CX (55,704):=codedAt_of (a:=ac704) rfl Tryz.func55 (by kernel_rfl) (by kernel_rfl)
theorem coded705:CX (56,705):=codedAt_of (a:=ac705) rfl Tryz.func56 (by kernel_rfl) (by kernel_rfl)
theorem coded706:CX (66,706):=codedAt_of (a:=ac706) rfl Tryz.func66 (by kernel_rfl) (by kernel_rfl)
theorem coded707:CX (67,707):=codedAt_of (a:=ac707) rfl Tryz.func67 (by kernel_rfl) (by kernel_rfl)
theorem coded708:CX (68,708):=codedAt_of (a:=ac708) rfl Tryz.func68 (by kernel_rfl) (by kernel_rfl)
theorem coded709:CX (69,709):=codedAt_of (a:=ac709) rfl Tryz.func69 (by kernel_rfl) (by kernel_rfl)
theorem coded710:CX (70,710):=codedAt_of (a:=ac710) rfl Tryz.func70 (by kernel_rfl) (by kernel_rfl)
theorem coded711:CX (71,711):=codedAt_of (a:=ac711) rfl Tryz.func71 (by kernel_rfl) (by kernel_rfl)
theorem coded712:CX (72,712):=codedAt_of (a:=ac712) rfl Tryz.func72 (by kernel_rfl) (by kernel_rfl)
theorem coded713:CX (73,713):=codedAt_of (a:=ac713) rfl Tryz.func73 (by kernel_rfl) (by kernel_rfl)
theorem coded714:CX (74,714):=codedAt_of (a:=ac714) rfl Tryz.func74 (by kernel_rfl) (by kernel_rfl)
theorem coded715:CX (75,715):=codedAt_of (a:=ac715) rfl Tryz.func75 (by kernel_rfl) (by kernel_rfl)
theorem coded716:CX (83,716):=codedAt_of (a:=ac716) rfl Tryz.func83 (by kernel_rfl) (by kernel_rfl)
theorem coded717:CX (84,717):=codedAt_of (a:=ac717) rfl Tryz.func84 (by kernel_rfl) (by kernel_rfl)
theorem coded718:CX (85,718):=codedAt_of (a:=ac718) rfl Tryz.func85 (by kernel_rfl) (by kernel_rfl)
theorem coded719:CX (88,719):=codedAt_of (a:=ac719) rfl Tryz.func88 (by kernel_rfl) (by kernel_rfl)
theorem coded720:CX (99,720):=codedAt_of (a:=ac720) rfl Tryz.func99 (by kernel_rfl) (by kernel_rfl)
theorem coded721:CX (100,721):=codedAt_of (a:=ac721) rfl Tryz.func100 (by kernel_rfl) (by kernel_rfl)
theorem coded722:CX (101,722):=codedAt_of (a:=ac722) rfl Tryz.func101 (by kernel_rfl) (by kernel_rfl)
theorem coded723:CX (109,723):=codedAt_of (a:=ac723) rfl Tryz.func109 (by kernel_rfl) (by kernel_rfl)
theorem coded724:CX (110,724):=codedAt_of (a:=ac724) rfl Tryz.func110 (by kernel_rfl) (by kernel_rfl)
theorem coded725:CX (111,725):=codedAt_of (a:=ac725) rfl Tryz.func111 (by kernel_rfl) (by kernel_rfl)
theorem coded726:CX (112,726):=codedAt_of (a:=ac726) rfl Tryz.func112 (by kernel_rfl) (by kernel_rfl)
theorem coded727:CX (113,727):=codedAt_of (a:=ac727) rfl Tryz.func113 (by kernel_rfl) (by kernel_rfl)
theorem coded728:CX (114,728):=codedAt_of (a:=ac728) rfl Tryz.func114 (by kernel_rfl) (by kernel_rfl)
theorem coded729:CX (115,729):=codedAt_of (a:=ac729) rfl Tryz.func115 (by kernel_rfl) (by kernel_rfl)
theorem coded730:CX (116,730):=codedAt_of (a:=ac730) rfl Tryz.func116 (by kernel_rfl) (by kernel_rfl)
theorem coded731:CX (124,731):=codedAt_of (a:=ac731) rfl Tryz.func124 (by kernel_rfl) (by kernel_rfl)
theorem coded732:CX (125,732):=codedAt_of (a:=ac732) rfl Tryz.func125 (by kernel_rfl) (by kernel_rfl)
theorem coded733:CX (126,733):=codedAt_of (a:=ac733) rfl Tryz.func126 (by kernel_rfl) (by kernel_rfl)
theorem coded734:CX (133,734):=codedAt_of (a:=ac734) rfl Tryz.func133 (by kernel_rfl) (by kernel_rfl)
theorem coded735:CX (136,735):=codedAt_of (a:=ac735) rfl Tryz.func136 (by kernel_rfl) (by kernel_rfl)
theorem coded736:CX (137,736):=codedAt_of (a:=ac736) rfl Tryz.func137 (by kernel_rfl) (by kernel_rfl)
theorem coded737:CX (144,737):=codedAt_of (a:=ac737) rfl Tryz.func144 (by kernel_rfl) (by kernel_rfl)
theorem coded291:CX (87,291):=bodied_of rfl Tryz.func87 rfl (by kernel_rfl)
theorem coded272:CX (140,272):=bodied_of rfl Tryz.func140 rfl (by kernel_rfl)
theorem codedAll : ∀ p,p∈fids→CX p:=by
  intro p hp
  simp only[fids,List.mem_cons,List.not_mem_nil,or_false] at hp
  rcases hp with rfl | rfl | rfl | rfl | rfl | rfl | rfl | rfl | rfl | rfl | rfl | rfl | rfl | rfl | rfl | rfl | rfl | rfl | rfl | rfl | rfl | rfl | rfl | rfl | rfl | rfl | rfl | rfl | rfl | rfl | rfl | rfl | rfl | rfl | rfl | rfl | rfl | rfl | rfl | rfl | rfl | rfl | rfl | rfl | rfl | rfl | rfl | rfl | rfl | rfl | rfl | rfl | rfl | rfl | rfl | rfl | rfl | rfl | rfl | rfl | rfl | rfl | rfl | rfl | rfl | rfl | rfl | rfl | rfl | rfl | rfl | rfl | rfl | rfl | rfl | rfl | rfl | rfl | rfl | rfl | rfl | rfl | rfl | rfl | rfl | rfl | rfl | rfl | rfl | rfl | rfl | rfl | rfl | rfl | rfl | rfl | rfl | rfl | rfl | rfl | rfl | rfl | rfl | rfl | rfl | rfl
  · exact coded49
  · exact coded72
  · exact coded73
  · exact coded86
  · exact coded87
  · exact coded90
  · exact coded129
  · exact coded136
  · exact coded137
  · exact coded138
  · exact coded140
  · exact coded143
  · exact coded144
  · exact coded145
  · exact coded146
  · exact coded147
  · exact coded148
  · exact coded149
  · exact coded150
  · exact coded152
  · exact coded153
  · exact coded154
  · exact coded155
  · exact coded158
  · exact coded159
  · exact coded229
  · exact coded235
  · exact coded250
  · exact coded251
  · exact coded257
  · exact coded262
  · exact coded263
  · exact coded264
  · exact coded273
  · exact coded285
  · exact coded286
  · exact coded549
  · exact coded579
  · exact coded580
  · exact coded581
  · exact coded610
  · exact coded611
  · exact coded612
  · exact coded670
  · exact coded671
  · exact coded672
  · exact coded673
  · exact coded674
  · exact coded675
  · exact coded676
  · exact coded677
  · exact coded679
  · exact coded683
  · exact coded687
  · exact coded688
  · exact coded689
  · exact coded690
  · exact coded691
  · exact coded692
  · exact coded693
  · exact coded694
  · exact coded695
  · exact coded696
  · exact coded697
  · exact coded698
  · exact coded699
  · exact coded700
  · exact coded701
  · exact coded702
  · exact coded703
  · exact coded704
  · exact coded705
  · exact coded706
  · exact coded707
  · exact coded708
  · exact coded709
  · exact coded710
  · exact coded711
  · exact coded712
  · exact coded713
  · exact coded714
  · exact coded715
  · exact coded716
  · exact coded717
  · exact coded718
  · exact coded719
  · exact coded720
  · exact coded721
  · exact coded722
  · exact coded723
  · exact coded724
  · exact coded725
  · exact coded726
  · exact coded727
  · exact coded728
  · exact coded729
  · exact coded730
  · exact coded731
  · exact coded732
  · exact coded733
  · exact coded734
  · exact coded735
  · exact coded736
  · exact coded737
  · exact coded291
  · exact coded272
theorem repH:FunAt Tryz.prog (fidOf fids) 291 repF:=rep_at (fun g hg=>by
      have h:=fidOf_mem hg
      have e:g=87:=by simpa [fids] using h
      subst e
      exact ⟨_,Tryz.lays105,Tryz.Builder_Extra_105,rfl⟩)
theorem cmpH:FunAt Tryz.prog (fidOf fids) 272 cmpF:=cmp_at (fun g hg=>by
      have h:=fidOf_mem hg
      have e:g=140:=by simpa [fids] using h
      subst e
      exact ⟨_,Tryz.lays213,rfl⟩)
theorem ctxW0:CtxOk Tryz.prog (fidOf fids) pf (mkCtx codeW clRW clPW):=ctxOk_of codedAll (fun f p h=>by cases h) (fun f p h=>by cases h)
theorem ctxW:CtxOk Tryz.prog (fidOf fids) pf CW:=funCtx_ok ctxW0 (fun f F h=>by
  unfold ppW at h
  split at h
  · cases h
    exact ⟨rfl,repH,fun ts v h=>by
      obtain ⟨p,l,h,_⟩:=h
      cases h⟩
  · cases h
    exact ⟨rfl,cmpH,fun ts v h=>by
      obtain ⟨p,l,h,_⟩:=h
      cases h⟩
  · cases h)
theorem awkH:FunAt Tryz.prog (fidOf fids) 671 awkF:=fun ts v h=>by
  unfold awkF at h
  split at h
  · cases h
    exact (sound ctxW nva_34).1
  · cases h
theorem ctxN0:CtxOk Tryz.prog (fidOf fids) pf (mkCtx codeN clRN clPN):=ctxOk_of (fun p hp=>⟨(codedAll p hp).fn,fun a ha=>(codedAll p hp).code a (by
  show codeW _=_
  unfold codeW
  rw[ha])⟩) (fun f p h=>by cases h) (fun f p h=>by cases h)
theorem ctxN:CtxOk Tryz.prog (fidOf fids) pf CN:=funCtx_ok ctxN0 (fun f F h=>by
  unfold ppN at h
  split at h
  · cases h
    exact ⟨rfl,repH,fun ts v h=>by
      obtain ⟨p,l,h,_⟩:=h
      cases h⟩
  · cases h
    exact ⟨rfl,cmpH,fun ts v h=>by
      obtain ⟨p,l,h,_⟩:=h
      cases h⟩
  · cases h
    exact ⟨rfl,awkH,fun ts v h=>by
      obtain ⟨p,l,h,_⟩:=h
      cases h⟩
  · cases h)
theorem ctxOk:CtxOk Tryz.prog (fidOf fids) pf CKN:=sortKCtx_ok ctxN (fun f k h=>by
  unfold soN at h
  split at h
  · cases h
    refine ⟨rfl,fun g hg=>?_,fun a H v H' h=>by
      obtain ⟨p,l,h,_⟩:=h
      cases h⟩
    have h:=fidOf_mem hg
    have e:g=73:=by simpa [fids] using h
    subst e
    exact ⟨_,Tryz.sortP,rfl,Tryz.isAgg71,Tryz.sizeOf71⟩
  · cases h)
end Go.Proofs.YtnifalngeimpnaaGreatDoor
