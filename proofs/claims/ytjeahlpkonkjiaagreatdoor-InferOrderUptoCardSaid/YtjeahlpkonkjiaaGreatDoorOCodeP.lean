/- The functions that the laws q54,by their numbers; their code is taken from the program itself. -/
import Derived.Test.YtjeahlpkonkjiaaGreatDoorProg
import Derived.Test.YtjeahlpkonkjiaaGreatDoorOMachE
set_option linter.unusedSimpArgs false
set_option linter.unusedVariables false
namespace Ago
/-! ### Short names for the operations that the tables hold most -/
abbrev xM (d i:Nat):AOper:=⟨some d,.pure .move,[.t i],none⟩
abbrev xC (d:Nat) (v:AV):AOper:=⟨some d,.pure .move,[.c v],none⟩
abbrev xF (k d i:Nat):AOper:=⟨some d,.pure (.faddr k),[.t i],none⟩
abbrev xR (d i:Nat):AOper:=⟨some d,.read (.load none),[.t i],none⟩
abbrev xL (k d i:Nat):AOper:=⟨some d,.read (.load (some k)),[.t i],none⟩
abbrev xP (d:Nat) (p:POp) (a:List Opd):AOper:=⟨some d,.pure p,a,none⟩
abbrev xI (k d i j:Nat):AOper:=⟨some d,.pure (.iaddrS k),[.t i,.t j],none⟩
abbrev xK (d f:Nat) (a:List Opd):AOper:=⟨some d,.pcall f,a,none⟩
abbrev xS (k i j:Nat):AOper:=⟨none,.eff (.store k),[.t i,.t j],none⟩
abbrev xN (d k:Nat) (v:AV):AOper:=⟨some d,.new (.new k [v]),[],none⟩
abbrev xB (k d i:Nat):AOper:=⟨some d,.new (.box k),[.t i],none⟩
abbrev yM (d i g:Nat) (b:Bool):AOper:=⟨some d,.pure .move,[.t i],some (g,b)⟩
abbrev yF (k d i g:Nat) (b:Bool):AOper:=⟨some d,.pure (.faddr k),[.t i],some (g,b)⟩
abbrev yR (d i g:Nat) (b:Bool):AOper:=⟨some d,.read (.load none),[.t i],some (g,b)⟩
abbrev yL (k d i g:Nat) (b:Bool):AOper:=⟨some d,.read (.load (some k)),[.t i],some (g,b)⟩
abbrev yP (d:Nat) (p:POp) (a:List Opd) (g:Nat) (b:Bool):AOper:=⟨some d,.pure p,a,some (g,b)⟩
abbrev yK (d f:Nat) (a:List Opd) (g:Nat) (b:Bool):AOper:=⟨some d,.pcall f,a,some (g,b)⟩
open Go.Proofs
def fids:List (Nat × Nat):=[(66,18),(167,19),(62,24),(187,26),(85,29),(106,38),(198,39),(150,40),(100,42),(217,45),(58,46),(73,51),(224,57),(225,58),(258,59),(127,60),(95,63),(113,75),(243,78),(242,79),(244,80),(245,81),(270,82),(161,83),(124,84),(118,90),(259,91),(260,92),(195,93),(156,94),(157,95),(158,96),(36,126),(241,129),(68,133),(257,136),(237,137),(236,138),(107,139),(108,140),(109,141),(110,142),(269,143),(251,144),(174,148),(134,149),(135,150),(136,151),(203,155),(173,158),(21,195),(151,229),(125,250),(194,251),(181,257),(159,262),(79,263),(69,264),(119,273),(147,285),(148,286),(165,340),(74,357),(152,358),(197,360),(114,376),(182,377),(183,378),(223,384),(215,396),(31,454),(33,455),(123,457),(102,458),(59,459),(64,460),(10,461),(16,468),(19,474),(6,480),(57,481),(55,485),(56,486),(61,487),(63,488),(155,490),(96,491),(103,492),(28,494),(35,501),(20,503),(40,507),(18,508),(94,509),(130,512),(92,513),(93,514),(39,515),(101,516),(185,517),(131,521),(48,522),(49,523),(50,524),(23,529),(67,547),(41,548),(42,549),(38,560),(121,562),(122,563),(128,564),(129,565),(84,567),(75,579),(76,580),(77,581),(153,597),(154,598),(162,599),(163,600),(164,601),(166,602),(168,603),(169,604),(115,610),(116,611),(117,612),(184,624),(196,625),(90,634),(132,635),(222,638),(120,643),(149,647),(126,673),(99,674),(98,679),(160,692),(190,697),(193,700),(218,706),(219,707),(220,708),(221,709),(238,716),(239,717),(240,718),(254,720),(255,721),(256,722),(266,731),(267,732),(268,733),(3,958),(4,959),(5,961),(15,962),(7,963),(17,964),(22,966),(8,968),(9,969),(11,970),(12,971),(13,972),(14,973),(25,974),(37,975),(24,976),(83,977),(27,978),(26,980),(29,981),(30,982),(32,983),(34,984),(44,986),(45,987),(72,989),(46,990),(47,991),(51,993),(52,994),(53,995),(54,996),(60,997),(65,998),(80,999),(81,1000),(82,1001),(86,1002),(87,1003),(88,1004),(89,1005),(91,1006),(105,1007),(133,1008),(170,1009),(171,1010),(172,1011),(199,1012),(200,1013),(201,1014),(202,1015),(204,145),(252,146),(253,147),(104,493),(191,698),(192,699),(71,861),(43,985),(78,216),(186,518),(188,519),(189,520),(216,566),(97,214),(235,62),(180,291),(214,272),(70,988)]
def pf (f:Nat):Bool:=!([133,143,214,216,485,491,518,519,520,566,861,985,989,1002,1003,1004,1005]:List Nat).contains f
def pf2 (f:Nat):Bool:=!([133,143,214,216,485,491,518,519,520,566,861,989,1002,1003,1004,1005]:List Nat).contains f
noncomputable def mkG (L:List (List Nat)) (g:Go.Func) {a:AFn} (h:qfA Tryz.prog fids pf L g=some a:=by cbv; try rfl):AFn:=a
@[go_sem] theorem qxX {L:List (List Nat)} {g:Go.Func} {a:AFn} (h:qfA Tryz.prog fids pf L g=some a):mkG L g h=a:=(rfl)
noncomputable def mkC (L:List (List Nat)) (c:Go.Code) {a:ACode} (h:qoE Tryz.prog fids pf L c=some a:=by cbv; try rfl):ACode:=a
@[go_sem] theorem qxZ {L:List (List Nat)} {c:Go.Code} {a:ACode} (h:qoE Tryz.prog fids pf L c=some a):mkC L c h=a:=(rfl)
noncomputable def qxH (L:List (List Nat)) (g:Go.Func) {a:AFn} (h:qfA Tryz.prog fids pf2 L g=some a:=by cbv; try rfl):AFn:=a
@[go_sem] theorem qx1 {L:List (List Nat)} {g:Go.Func} {a:AFn} (h:qfA Tryz.prog fids pf2 L g=some a):qxH L g h=a:=(rfl)
end Ago
