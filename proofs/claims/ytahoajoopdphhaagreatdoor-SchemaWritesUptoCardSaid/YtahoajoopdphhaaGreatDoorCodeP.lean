/- The functions that the laws q1M,by their numbers; their code is taken from the program itself. -/
import Derived.Test.YtahoajoopdphhaaGreatDoorProg
import Derived.Test.YtahoajoopdphhaaGreatDoorMachE
set_option linter.unusedSimpArgs false
set_option linter.unusedVariables false
namespace Ago
/-! ### Short names for the operations that the tables hold most -/
abbrev xM (d i:Nat):AOper:=⟨some d,.pure .move,[.t i],none⟩
abbrev xC (d:Nat) (v:AV):AOper:=⟨some d,.pure .move,[.c v],none⟩
abbrev xF (k d i:Nat):AOper:=⟨some d,.pure (.faddr k),[.t i],none⟩
abbrev xR (d i:Nat):AOper:=⟨some d,.read (.load none),[.t i],none⟩
abbrev xL (k d i:Nat):AOper:=⟨some d,.read (.load (some k)),[.t i],none⟩
abbrev xP (d:Nat) (p:POp) (a:List Opd):AOper:=⟨some d,.pure p,a,none⟩
abbrev xI (k d i j:Nat):AOper:=⟨some d,.pure (.iaddrS k),[.t i,.t j],none⟩
abbrev xK (d f:Nat) (a:List Opd):AOper:=⟨some d,.pcall f,a,none⟩
abbrev xS (k i j:Nat):AOper:=⟨none,.eff (.store k),[.t i,.t j],none⟩
abbrev xN (d k:Nat) (v:AV):AOper:=⟨some d,.new (.new k [v]),[],none⟩
abbrev xB (k d i:Nat):AOper:=⟨some d,.new (.box k),[.t i],none⟩
abbrev yM (d i g:Nat) (b:Bool):AOper:=⟨some d,.pure .move,[.t i],some (g,b)⟩
abbrev yF (k d i g:Nat) (b:Bool):AOper:=⟨some d,.pure (.faddr k),[.t i],some (g,b)⟩
abbrev yR (d i g:Nat) (b:Bool):AOper:=⟨some d,.read (.load none),[.t i],some (g,b)⟩
abbrev yL (k d i g:Nat) (b:Bool):AOper:=⟨some d,.read (.load (some k)),[.t i],some (g,b)⟩
abbrev yP (d:Nat) (p:POp) (a:List Opd) (g:Nat) (b:Bool):AOper:=⟨some d,.pure p,a,some (g,b)⟩
abbrev yK (d f:Nat) (a:List Opd) (g:Nat) (b:Bool):AOper:=⟨some d,.pcall f,a,some (g,b)⟩
abbrev z0:AV:=.agg [.int .i64 0,.bool false,.bool false,.str [],.int .i64 0,.int .i64 0,.int .i64 0,.int .i64 0,.int .i64 0,.str [],.snil 1,.snil 13,.snil 14]
open Go.Proofs
def fids:List (Nat × Nat):=[(89,18),(19,19),(33,24),(55,26),(8,29),(134,38),(46,39),(77,42),(92,45),(27,46),(86,57),(87,58),(176,59),(116,60),(60,63),(129,78),(130,79),(131,80),(132,81),(207,82),(162,83),(102,84),(172,90),(177,91),(178,92),(205,93),(146,94),(147,95),(148,96),(70,123),(66,124),(16,126),(107,128),(108,129),(31,133),(150,136),(152,138),(73,139),(74,140),(75,141),(76,142),(192,143),(161,148),(113,149),(114,150),(115,151),(202,155),(160,158),(37,195),(142,229),(185,250),(214,262),(84,340),(88,357),(110,358),(124,360),(201,371),(133,376),(153,377),(154,378),(173,384),(44,389),(221,395),(197,396),(85,402),(231,404),(125,415),(126,416),(127,417),(128,418),(238,419),(174,426),(175,427),(3,444),(4,453),(13,454),(17,455),(101,457),(79,458),(28,459),(35,460),(6,462),(7,463),(10,474),(9,480),(26,481),(24,485),(25,486),(32,487),(34,488),(145,490),(61,491),(80,492),(81,493),(63,494),(15,495),(18,496),(42,503),(21,507),(20,508),(59,509),(119,512),(57,513),(58,514),(48,515),(78,516),(188,517),(120,521),(103,522),(104,523),(105,524),(30,525),(36,526),(38,527),(39,528),(40,529),(41,530),(43,531),(45,532),(50,534),(82,548),(83,549),(47,560),(99,562),(100,563),(117,564),(118,565),(149,567),(64,568),(65,569),(67,570),(68,571),(69,572),(71,573),(72,574),(121,579),(123,581),(143,597),(144,598),(163,599),(164,600),(165,601),(166,602),(167,603),(168,604),(106,605),(109,606),(111,607),(171,612),(186,624),(206,625),(156,626),(158,628),(159,629),(223,638),(200,639),(245,73),(56,254),(141,257),(93,265),(94,266),(95,267),(96,268),(97,269),(98,270),(139,274),(140,275),(183,287),(211,292),(212,293),(227,301),(234,307),(239,420),(240,421),(241,422),(244,428),(246,429),(247,430),(248,431),(255,434),(256,435),(5,456),(29,461),(12,464),(14,466),(11,489),(22,497),(23,498),(49,533),(51,535),(52,536),(53,537),(54,538),(90,575),(91,576),(122,580),(135,608),(136,609),(179,630),(180,631),(181,632),(182,633),(208,640),(209,641),(210,642),(224,644),(225,645),(226,646),(233,648),(242,649),(243,650),(249,651),(250,652),(251,653),(252,654),(253,655),(254,656),(257,657),(258,658),(187,216),(189,518),(190,519),(191,520),(215,566),(62,214),(138,130),(137,62),(184,272),(199,162),(155,298),(157,627),(112,300)]
def pf (f:Nat):Bool:=!([130,133,143,214,216,265,267,268,269,270,274,275,287,292,293,298,300,301,307,485,491,518,519,520,533,566,568,575,576,605,607,608,609,627,628,630,631,632,633,640,641,642,646]:List Nat).contains f
noncomputable def mkG (L:List (List Nat)) (g:Go.Func) {a:AFn} (h:qoD Tryz.prog fids pf L g=some a:=by cbv; try rfl):AFn:=a
@[go_sem] theorem qwO {L:List (List Nat)} {g:Go.Func} {a:AFn} (h:qoD Tryz.prog fids pf L g=some a):mkG L g h=a:=(rfl)
noncomputable def mkC (L:List (List Nat)) (c:Go.Code) {a:ACode} (h:qoG Tryz.prog fids pf L c=some a:=by cbv; try rfl):ACode:=a
@[go_sem] theorem qwM {L:List (List Nat)} {c:Go.Code} {a:ACode} (h:qoG Tryz.prog fids pf L c=some a):mkC L c h=a:=(rfl)
end Ago
