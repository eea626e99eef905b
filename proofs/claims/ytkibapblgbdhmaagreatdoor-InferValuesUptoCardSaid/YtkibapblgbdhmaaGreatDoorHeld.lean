/- The functions of the program,compiled: those of the table,and the others as they are compiled. -/
import Derived.Test.YtkibapblgbdhmaaGreatDoorRows
import Derived.Test.YtkibapblgbdhmaaGreatDoorMachD
import Derived.Test.YtkibapblgbdhmaaGreatDoorMachE
import Derived.Test.YtkibapblgbdhmaaGreatDoorMachH
import Derived.Test.YtkibapblgbdhmaaGreatDoorCodeI
import Derived.Test.YtkibapblgbdhmaaGreatDoorShelf
import Derived.Shelf.Utf8.RuneCount
set_option linter.unusedSimpArgs false
set_option linter.unusedVariables false
set_option maxRecDepth 100000
set_option maxHeartbeats 8000000
namespace Go.Proofs.YtkibapblgbdhmaaGreatDoor
open Ago
def fids:List (Nat × Nat):=[(82,18),(29,19),(78,24),(212,26),(105,29),(126,38),(55,39),(177,40),(102,42),(238,45),(74,46),(54,51),(97,57),(98,58),(172,59),(149,60),(116,63),(96,75),(145,78),(146,79),(147,80),(148,81),(205,82),(175,83),(155,84),(130,90),(173,91),(174,92),(206,93),(183,94),(184,95),(185,96),(25,126),(46,133),(87,139),(88,140),(89,141),(90,142),(164,148),(131,149),(132,150),(133,151),(198,155),(163,158),(23,195),(178,229),(156,250),(203,257),(186,262),(92,263),(50,264),(134,273),(165,285),(166,286),(191,340),(106,357),(179,358),(221,360),(150,376),(207,377),(208,378),(244,384),(236,396),(39,454),(41,455),(154,457),(122,458),(75,459),(80,460),(11,461),(21,468),(36,474),(73,481),(71,485),(72,486),(77,487),(79,488),(182,490),(123,492),(34,494),(43,501),(22,503),(66,507),(115,509),(113,513),(114,514),(64,515),(121,516),(210,517),(61,522),(62,523),(63,524),(24,529),(83,547),(44,548),(45,549),(152,562),(153,563),(158,564),(159,565),(104,567),(84,579),(86,581),(59,586),(180,597),(181,598),(188,599),(189,600),(190,601),(192,602),(193,603),(194,604),(129,612),(60,620),(209,624),(220,625),(111,634),(101,635),(103,636),(243,638),(151,643),(176,647),(3,957),(7,962),(8,963),(9,964),(10,965),(12,966),(13,967),(26,974),(27,975),(28,976),(30,977),(31,978),(32,979),(33,980),(48,986),(49,987),(53,989),(56,990),(57,991),(58,992),(67,993),(69,995),(93,999),(99,1000),(100,1001),(117,491),(124,493),(85,580),(52,861),(47,985),(91,216),(211,518),(213,519),(214,520),(237,566),(118,214),(254,62),(202,291),(235,272),(51,988)]
def pf (f:Nat):Bool:=!([133,214,216,485,491,518,519,520,566,861,985,989]:List Nat).contains f
def pf2 (f:Nat):Bool:=!([133,214,216,485,491,518,519,520,566,861,989]:List Nat).contains f
abbrev CA (p:Nat × Nat):Prop:=CodedAt Tryz.prog (q26 fids) pf q8S p
theorem qdS:q2Y Tryz.prog (q26 fids) pf 216 (11,104):=fun g hg=>by
  have h:=q0M hg
  have e:g=91:=by simpa [fids] using h
  subst e
  exact ⟨Tryz.f91,25,68,_,_,_,_,_,_,_,_,_,_,_,Tryz.func91,by kernel_rfl,rfl,rfl,rfl,by kernel_rfl,rfl,by kernel_rfl,rfl,rfl,rfl,by kernel_rfl,by kernel_rfl⟩
theorem qrW:q2Y Tryz.prog (q26 fids) pf2 216 (11,104):=fun g hg=>by
  have h:=q0M hg
  have e:g=91:=by simpa [fids] using h
  subst e
  exact ⟨Tryz.f91,25,68,_,_,_,_,_,_,_,_,_,_,_,Tryz.func91,by kernel_rfl,rfl,rfl,rfl,by kernel_rfl,rfl,by kernel_rfl,rfl,rfl,rfl,by kernel_rfl,by kernel_rfl⟩
theorem qeC:q2Y Tryz.prog (q26 fids) pf 518 (13,168):=fun g hg=>by
  have h:=q0M hg
  have e:g=211:=by simpa [fids] using h
  subst e
  exact ⟨Tryz.f211,22,49,_,_,_,_,_,_,_,_,_,_,_,Tryz.func211,by kernel_rfl,rfl,rfl,rfl,by kernel_rfl,rfl,by kernel_rfl,rfl,rfl,rfl,by kernel_rfl,by kernel_rfl⟩
theorem qrY:q2Y Tryz.prog (q26 fids) pf2 518 (13,168):=fun g hg=>by
  have h:=q0M hg
  have e:g=211:=by simpa [fids] using h
  subst e
  exact ⟨Tryz.f211,22,49,_,_,_,_,_,_,_,_,_,_,_,Tryz.func211,by kernel_rfl,rfl,rfl,rfl,by kernel_rfl,rfl,by kernel_rfl,rfl,rfl,rfl,by kernel_rfl,by kernel_rfl⟩
theorem qew:q2Y Tryz.prog (q26 fids) pf 519 (17,232):=fun g hg=>by
  have h:=q0M hg
  have e:g=213:=by simpa [fids] using h
  subst e
  exact ⟨Tryz.f213,31,70,_,_,_,_,_,_,_,_,_,_,_,Tryz.func213,by kernel_rfl,rfl,rfl,rfl,by kernel_rfl,rfl,by kernel_rfl,rfl,rfl,rfl,by kernel_rfl,by kernel_rfl⟩
theorem qrX:q2Y Tryz.prog (q26 fids) pf2 519 (17,232):=fun g hg=>by
  have h:=q0M hg
  have e:g=213:=by simpa [fids] using h
  subst e
  exact ⟨Tryz.f213,31,70,_,_,_,_,_,_,_,_,_,_,_,Tryz.func213,by kernel_rfl,rfl,rfl,rfl,by kernel_rfl,rfl,by kernel_rfl,rfl,rfl,rfl,by kernel_rfl,by kernel_rfl⟩
theorem qes:q2Y Tryz.prog (q26 fids) pf 520 (15,208):=fun g hg=>by
  have h:=q0M hg
  have e:g=214:=by simpa [fids] using h
  subst e
  exact ⟨Tryz.f214,32,34,_,_,_,_,_,_,_,_,_,_,_,Tryz.func214,by kernel_rfl,rfl,rfl,rfl,by kernel_rfl,rfl,by kernel_rfl,rfl,rfl,rfl,by kernel_rfl,by kernel_rfl⟩
theorem qs0:q2Y Tryz.prog (q26 fids) pf2 520 (15,208):=fun g hg=>by
  have h:=q0M hg
  have e:g=214:=by simpa [fids] using h
  subst e
  exact ⟨Tryz.f214,32,34,_,_,_,_,_,_,_,_,_,_,_,Tryz.func214,by kernel_rfl,rfl,rfl,rfl,by kernel_rfl,rfl,by kernel_rfl,rfl,rfl,rfl,by kernel_rfl,by kernel_rfl⟩
theorem qe6:q2Y Tryz.prog (q26 fids) pf 566 (6,64):=fun g hg=>by
  have h:=q0M hg
  have e:g=237:=by simpa [fids] using h
  subst e
  exact ⟨Tryz.f237,28,30,_,_,_,_,_,_,_,_,_,_,_,Tryz.func237,by kernel_rfl,rfl,rfl,rfl,by kernel_rfl,rfl,by kernel_rfl,rfl,rfl,rfl,by kernel_rfl,by kernel_rfl⟩
theorem qrZ:q2Y Tryz.prog (q26 fids) pf2 566 (6,64):=fun g hg=>by
  have h:=q0M hg
  have e:g=237:=by simpa [fids] using h
  subst e
  exact ⟨Tryz.f237,28,30,_,_,_,_,_,_,_,_,_,_,_,Tryz.func237,by kernel_rfl,rfl,rfl,rfl,by kernel_rfl,rfl,by kernel_rfl,rfl,rfl,rfl,by kernel_rfl,by kernel_rfl⟩
theorem qe1:q2Y Tryz.prog (q26 fids) pf 214 (1,16):=fun g hg=>by
  have h:=q0M hg
  have e:g=118:=by simpa [fids] using h
  subst e
  exact ⟨Tryz.f118,148,9,_,_,_,_,_,_,_,_,_,_,_,Tryz.func118,by kernel_rfl,rfl,rfl,rfl,by kernel_rfl,rfl,by kernel_rfl,rfl,rfl,rfl,by kernel_rfl,by kernel_rfl⟩
theorem qs1:q2Y Tryz.prog (q26 fids) pf2 214 (1,16):=fun g hg=>by
  have h:=q0M hg
  have e:g=118:=by simpa [fids] using h
  subst e
  exact ⟨Tryz.f118,148,9,_,_,_,_,_,_,_,_,_,_,_,Tryz.func118,by kernel_rfl,rfl,rfl,rfl,by kernel_rfl,rfl,by kernel_rfl,rfl,rfl,rfl,by kernel_rfl,by kernel_rfl⟩
theorem qgK:q2Y Tryz.prog (q26 fids) pf 62 (1,1):=fun g hg=>by
  have h:=q0M hg
  have e:g=254:=by simpa [fids] using h
  subst e
  exact ⟨Tryz.f254,46,5,_,_,_,_,_,_,_,_,_,_,_,Tryz.func254,by kernel_rfl,rfl,rfl,rfl,by kernel_rfl,rfl,by kernel_rfl,rfl,rfl,rfl,by kernel_rfl,by kernel_rfl⟩
theorem qs2:q2Y Tryz.prog (q26 fids) pf2 62 (1,1):=fun g hg=>by
  have h:=q0M hg
  have e:g=254:=by simpa [fids] using h
  subst e
  exact ⟨Tryz.f254,46,5,_,_,_,_,_,_,_,_,_,_,_,Tryz.func254,by kernel_rfl,rfl,rfl,rfl,by kernel_rfl,rfl,by kernel_rfl,rfl,rfl,rfl,by kernel_rfl,by kernel_rfl⟩
theorem qdI (q:Nat→Bool):q2Y Tryz.prog (q26 fids) q 130 (14,184):=fun g hg=>by
  have h:=q0M hg
  simp [fids] at h
theorem qev : ∀ p,p∈fids→CA p:=by
  intro p hp
  simp only[fids,List.mem_cons,List.not_mem_nil,or_false] at hp
  rcases hp with rfl | rfl | rfl | rfl | rfl | rfl | rfl | rfl | rfl | rfl | rfl | rfl | rfl | rfl | rfl | rfl | rfl | rfl | rfl | rfl | rfl | rfl | rfl | rfl | rfl | rfl | rfl | rfl | rfl | rfl | rfl | rfl | rfl | rfl | rfl | rfl | rfl | rfl | rfl | rfl | rfl | rfl | rfl | rfl | rfl | rfl | rfl | rfl | rfl | rfl | rfl | rfl | rfl | rfl | rfl | rfl | rfl | rfl | rfl | rfl | rfl | rfl | rfl | rfl | rfl | rfl | rfl | rfl | rfl | rfl | rfl | rfl | rfl | rfl | rfl | rfl | rfl | rfl | rfl | rfl | rfl | rfl | rfl | rfl | rfl | rfl | rfl | rfl | rfl | rfl | rfl | rfl | rfl | rfl | rfl | rfl | rfl | rfl | rfl | rfl | rfl | rfl | rfl | rfl | rfl | rfl | rfl | rfl | rfl | rfl | rfl | rfl | rfl | rfl | rfl | rfl | rfl | rfl | rfl | rfl | rfl | rfl | rfl | rfl | rfl | rfl | rfl | rfl | rfl | rfl | rfl | rfl | rfl | rfl | rfl | rfl | rfl | rfl | rfl | rfl | rfl | rfl | rfl | rfl | rfl | rfl | rfl | rfl | rfl | rfl | rfl | rfl | rfl | rfl | rfl | rfl | rfl | rfl | rfl | rfl | rfl | rfl
  · exact q02 (a:=qnI) rfl Tryz.func82 (by kernel_rfl) (by kernel_rfl)
  · exact q02 (a:=qnD) rfl Tryz.func29 (by kernel_rfl) (by kernel_rfl)
  · exact q02 (a:=qoC) rfl Tryz.func78 (by kernel_rfl) (by kernel_rfl)
  · exact q02 (a:=qpb) rfl Tryz.func212 (by kernel_rfl) (by kernel_rfl)
  · exact q02 (a:=qoU) rfl Tryz.func105 (by kernel_rfl) (by kernel_rfl)
  · exact q02 (a:=qmm) rfl Tryz.func126 (by kernel_rfl) (by kernel_rfl)
  · exact q02 (a:=qi5) rfl Tryz.func55 (by kernel_rfl) (by kernel_rfl)
  · exact q02 (a:=qnQ) rfl Tryz.func177 (by kernel_rfl) (by kernel_rfl)
  · exact q02 (a:=qln) rfl Tryz.func102 (by kernel_rfl) (by kernel_rfl)
  · exact q02 (a:=qnv) rfl Tryz.func238 (by kernel_rfl) (by kernel_rfl)
  · exact q02 (a:=qn5) rfl Tryz.func74 (by kernel_rfl) (by kernel_rfl)
  · exact q02 (a:=qjt) rfl Tryz.func54 (by kernel_rfl) (by kernel_rfl)
  · exact q02 (a:=q8L) rfl Tryz.func97 (by kernel_rfl) (by kernel_rfl)
  · exact q02 (a:=qmc) rfl Tryz.func98 (by kernel_rfl) (by kernel_rfl)
  · exact q02 (a:=qlR) rfl Tryz.func172 (by kernel_rfl) (by kernel_rfl)
  · exact q02 (a:=qaL) rfl Tryz.func149 (by kernel_rfl) (by kernel_rfl)
  · exact q02 (a:=qoF) rfl Tryz.func116 (by kernel_rfl) (by kernel_rfl)
  · exact q02 (a:=qoE) rfl Tryz.func96 (by kernel_rfl) (by kernel_rfl)
  · exact q02 (a:=qol) rfl Tryz.func145 (by kernel_rfl) (by kernel_rfl)
  · exact q02 (a:=qn8) rfl Tryz.func146 (by kernel_rfl) (by kernel_rfl)
  · exact q02 (a:=qoT) rfl Tryz.func147 (by kernel_rfl) (by kernel_rfl)
  · exact q02 (a:=qnY) rfl Tryz.func148 (by kernel_rfl) (by kernel_rfl)
  · exact q02 (a:=qqd) rfl Tryz.func205 (by kernel_rfl) (by kernel_rfl)
  · exact q02 (a:=qf1) rfl Tryz.func175 (by kernel_rfl) (by kernel_rfl)
  · exact q02 (a:=q9K) rfl Tryz.func155 (by kernel_rfl) (by kernel_rfl)
  · exact q02 (a:=qpN) rfl Tryz.func130 (by kernel_rfl) (by kernel_rfl)
  · exact q02 (a:=qp4) rfl Tryz.func173 (by kernel_rfl) (by kernel_rfl)
  · exact q02 (a:=qoL) rfl Tryz.func174 (by kernel_rfl) (by kernel_rfl)
  · exact q02 (a:=qor) rfl Tryz.func206 (by kernel_rfl) (by kernel_rfl)
  · exact q02 (a:=qcx) rfl Tryz.func183 (by kernel_rfl) (by kernel_rfl)
  · exact q02 (a:=qp6) rfl Tryz.func184 (by kernel_rfl) (by kernel_rfl)
  · exact q02 (a:=qgs) rfl Tryz.func185 (by kernel_rfl) (by kernel_rfl)
  · exact q02 (a:=qhb) rfl Tryz.func25 (by kernel_rfl) (by kernel_rfl)
  · exact q02 (a:=q0N) rfl Tryz.func46 (by kernel_rfl) (by kernel_rfl)
  · exact q02 (a:=qhB) rfl Tryz.func87 (by kernel_rfl) (by kernel_rfl)
  · exact q02 (a:=qd8) rfl Tryz.func88 (by kernel_rfl) (by kernel_rfl)
  · exact q02 (a:=qgD) rfl Tryz.func89 (by kernel_rfl) (by kernel_rfl)
  · exact q02 (a:=qhS) rfl Tryz.func90 (by kernel_rfl) (by kernel_rfl)
  · exact q02 (a:=qcD) rfl Tryz.func164 (by kernel_rfl) (by kernel_rfl)
  · exact q02 (a:=q6u) rfl Tryz.func131 (by kernel_rfl) (by kernel_rfl)
  · exact q02 (a:=qgE) rfl Tryz.func132 (by kernel_rfl) (by kernel_rfl)
  · exact q02 (a:=q9J) rfl Tryz.func133 (by kernel_rfl) (by kernel_rfl)
  · exact q02 (a:=qkv) rfl Tryz.func198 (by kernel_rfl) (by kernel_rfl)
  · exact q02 (a:=qjV) rfl Tryz.func163 (by kernel_rfl) (by kernel_rfl)
  · exact q02 (a:=qla) rfl Tryz.func23 (by kernel_rfl) (by kernel_rfl)
  · exact q02 (a:=qg3) rfl Tryz.func178 (by kernel_rfl) (by kernel_rfl)
  · exact q02 (a:=qcF) rfl Tryz.func156 (by kernel_rfl) (by kernel_rfl)
  · exact q02 (a:=qhd) rfl Tryz.func203 (by kernel_rfl) (by kernel_rfl)
  · exact q02 (a:=qfy) rfl Tryz.func186 (by kernel_rfl) (by kernel_rfl)
  · exact q02 (a:=qbl) rfl Tryz.func92 (by kernel_rfl) (by kernel_rfl)
  · exact q02 (a:=qhc) rfl Tryz.func50 (by kernel_rfl) (by kernel_rfl)
  · exact q02 (a:=qgn) rfl Tryz.func134 (by kernel_rfl) (by kernel_rfl)
  · exact q02 (a:=q7v) rfl Tryz.func165 (by kernel_rfl) (by kernel_rfl)
  · exact q02 (a:=qie) rfl Tryz.func166 (by kernel_rfl) (by kernel_rfl)
  · exact q02 (a:=qgy) rfl Tryz.func191 (by kernel_rfl) (by kernel_rfl)
  · exact q02 (a:=qjj) rfl Tryz.func106 (by kernel_rfl) (by kernel_rfl)
  · exact q02 (a:=qhz) rfl Tryz.func179 (by kernel_rfl) (by kernel_rfl)
  · exact q02 (a:=qcQ) rfl Tryz.func221 (by kernel_rfl) (by kernel_rfl)
  · exact q02 (a:=qfG) rfl Tryz.func150 (by kernel_rfl) (by kernel_rfl)
  · exact q02 (a:=qdD) rfl Tryz.func207 (by kernel_rfl) (by kernel_rfl)
  · exact q02 (a:=qfn) rfl Tryz.func208 (by kernel_rfl) (by kernel_rfl)
  · exact q02 (a:=qk9) rfl Tryz.func244 (by kernel_rfl) (by kernel_rfl)
  · exact q02 (a:=qkC) rfl Tryz.func236 (by kernel_rfl) (by kernel_rfl)
  · exact q02 (a:=qk0) rfl Tryz.func39 (by kernel_rfl) (by kernel_rfl)
  · exact q02 (a:=qle) rfl Tryz.func41 (by kernel_rfl) (by kernel_rfl)
  · exact q02 (a:=qkm) rfl Tryz.func154 (by kernel_rfl) (by kernel_rfl)
  · exact q02 (a:=qld) rfl Tryz.func122 (by kernel_rfl) (by kernel_rfl)
  · exact q02 (a:=qjC) rfl Tryz.func75 (by kernel_rfl) (by kernel_rfl)
  · exact q02 (a:=qkB) rfl Tryz.func80 (by kernel_rfl) (by kernel_rfl)
  · exact q02 (a:=qkI) rfl Tryz.func11 (by kernel_rfl) (by kernel_rfl)
  · exact q02 (a:=qjS) rfl Tryz.func21 (by kernel_rfl) (by kernel_rfl)
  · exact q02 (a:=ql8) rfl Tryz.func36 (by kernel_rfl) (by kernel_rfl)
  · exact q02 (a:=ql6) rfl Tryz.func73 (by kernel_rfl) (by kernel_rfl)
  · exact q02 (a:=qbU) rfl Tryz.func71 (by kernel_rfl) (by kernel_rfl)
  · exact q02 (a:=qcL) rfl Tryz.func72 (by kernel_rfl) (by kernel_rfl)
  · exact q02 (a:=qg8) rfl Tryz.func77 (by kernel_rfl) (by kernel_rfl)
  · exact q02 (a:=qcI) rfl Tryz.func79 (by kernel_rfl) (by kernel_rfl)
  · exact q02 (a:=qka) rfl Tryz.func182 (by kernel_rfl) (by kernel_rfl)
  · exact q02 (a:=qkH) rfl Tryz.func123 (by kernel_rfl) (by kernel_rfl)
  · exact q02 (a:=qjz) rfl Tryz.func34 (by kernel_rfl) (by kernel_rfl)
  · exact q02 (a:=qfl) rfl Tryz.func43 (by kernel_rfl) (by kernel_rfl)
  · exact q02 (a:=qkA) rfl Tryz.func22 (by kernel_rfl) (by kernel_rfl)
  · exact q02 (a:=qgh) rfl Tryz.func66 (by kernel_rfl) (by kernel_rfl)
  · exact q02 (a:=qf0) rfl Tryz.func115 (by kernel_rfl) (by kernel_rfl)
  · exact q02 (a:=qa5) rfl Tryz.func113 (by kernel_rfl) (by kernel_rfl)
  · exact q02 (a:=qkG) rfl Tryz.func114 (by kernel_rfl) (by kernel_rfl)
  · exact q02 (a:=qiZ) rfl Tryz.func64 (by kernel_rfl) (by kernel_rfl)
  · exact q02 (a:=qax) rfl Tryz.func121 (by kernel_rfl) (by kernel_rfl)
  · exact q02 (a:=qgI) rfl Tryz.func210 (by kernel_rfl) (by kernel_rfl)
  · exact q02 (a:=qgZ) rfl Tryz.func61 (by kernel_rfl) (by kernel_rfl)
  · exact q02 (a:=qg4) rfl Tryz.func62 (by kernel_rfl) (by kernel_rfl)
  · exact q02 (a:=qjK) rfl Tryz.func63 (by kernel_rfl) (by kernel_rfl)
  · exact q02 (a:=qfb) rfl Tryz.func24 (by kernel_rfl) (by kernel_rfl)
  · exact q02 (a:=qk6) rfl Tryz.func83 (by kernel_rfl) (by kernel_rfl)
  · exact q02 (a:=qkD) rfl Tryz.func44 (by kernel_rfl) (by kernel_rfl)
  · exact q02 (a:=qk5) rfl Tryz.func45 (by kernel_rfl) (by kernel_rfl)
  · exact q02 (a:=q8O) rfl Tryz.func152 (by kernel_rfl) (by kernel_rfl)
  · exact q02 (a:=qkb) rfl Tryz.func153 (by kernel_rfl) (by kernel_rfl)
  · exact q02 (a:=qdn) rfl Tryz.func158 (by kernel_rfl) (by kernel_rfl)
  · exact q02 (a:=qkY) rfl Tryz.func159 (by kernel_rfl) (by kernel_rfl)
  · exact q02 (a:=qg1) rfl Tryz.func104 (by kernel_rfl) (by kernel_rfl)
  · exact q02 (a:=qjv) rfl Tryz.func84 (by kernel_rfl) (by kernel_rfl)
  · exact q02 (a:=ql0) rfl Tryz.func86 (by kernel_rfl) (by kernel_rfl)
  · exact q02 (a:=qjU) rfl Tryz.func59 (by kernel_rfl) (by kernel_rfl)
  · exact q02 (a:=qir) rfl Tryz.func180 (by kernel_rfl) (by kernel_rfl)
  · exact q02 (a:=qkd) rfl Tryz.func181 (by kernel_rfl) (by kernel_rfl)
  · exact q02 (a:=qk4) rfl Tryz.func188 (by kernel_rfl) (by kernel_rfl)
  · exact q02 (a:=qiq) rfl Tryz.func189 (by kernel_rfl) (by kernel_rfl)
  · exact q02 (a:=qkJ) rfl Tryz.func190 (by kernel_rfl) (by kernel_rfl)
  · exact q02 (a:=qkc) rfl Tryz.func192 (by kernel_rfl) (by kernel_rfl)
  · exact q02 (a:=qi6) rfl Tryz.func193 (by kernel_rfl) (by kernel_rfl)
  · exact q02 (a:=qj6) rfl Tryz.func194 (by kernel_rfl) (by kernel_rfl)
  · exact q02 (a:=qjk) rfl Tryz.func129 (by kernel_rfl) (by kernel_rfl)
  · exact q02 (a:=qkl) rfl Tryz.func60 (by kernel_rfl) (by kernel_rfl)
  · exact q02 (a:=qjl) rfl Tryz.func209 (by kernel_rfl) (by kernel_rfl)
  · exact q02 (a:=qdA) rfl Tryz.func220 (by kernel_rfl) (by kernel_rfl)
  · exact q02 (a:=qbT) rfl Tryz.func111 (by kernel_rfl) (by kernel_rfl)
  · exact q02 (a:=qh4) rfl Tryz.func101 (by kernel_rfl) (by kernel_rfl)
  · exact q02 (a:=qkr) rfl Tryz.func103 (by kernel_rfl) (by kernel_rfl)
  · exact q02 (a:=qfB) rfl Tryz.func243 (by kernel_rfl) (by kernel_rfl)
  · exact q02 (a:=q8P) rfl Tryz.func151 (by kernel_rfl) (by kernel_rfl)
  · exact q02 (a:=qgT) rfl Tryz.func176 (by kernel_rfl) (by kernel_rfl)
  · exact q02 (a:=qgQ) rfl Tryz.func3 (by kernel_rfl) (by kernel_rfl)
  · exact q02 (a:=qkM) rfl Tryz.func7 (by kernel_rfl) (by kernel_rfl)
  · exact q02 (a:=qk1) rfl Tryz.func8 (by kernel_rfl) (by kernel_rfl)
  · exact q02 (a:=qh1) rfl Tryz.func9 (by kernel_rfl) (by kernel_rfl)
  · exact q02 (a:=qhp) rfl Tryz.func10 (by kernel_rfl) (by kernel_rfl)
  · exact q02 (a:=qiW) rfl Tryz.func12 (by kernel_rfl) (by kernel_rfl)
  · exact q02 (a:=qjy) rfl Tryz.func13 (by kernel_rfl) (by kernel_rfl)
  · exact q02 (a:=qbZ) rfl Tryz.func26 (by kernel_rfl) (by kernel_rfl)
  · exact q02 (a:=q9W) rfl Tryz.func27 (by kernel_rfl) (by kernel_rfl)
  · exact q02 (a:=qgd) rfl Tryz.func28 (by kernel_rfl) (by kernel_rfl)
  · exact q02 (a:=qkT) rfl Tryz.func30 (by kernel_rfl) (by kernel_rfl)
  · exact q02 (a:=qbR) rfl Tryz.func31 (by kernel_rfl) (by kernel_rfl)
  · exact q02 (a:=qbV) rfl Tryz.func32 (by kernel_rfl) (by kernel_rfl)
  · exact q02 (a:=qf3) rfl Tryz.func33 (by kernel_rfl) (by kernel_rfl)
  · exact q02 (a:=qkX) rfl Tryz.func48 (by kernel_rfl) (by kernel_rfl)
  · exact q02 (a:=q6W) rfl Tryz.func49 (by kernel_rfl) (by kernel_rfl)
  · exact q02 (a:=qkR) rfl Tryz.func53 (by kernel_rfl) (by kernel_rfl)
  · exact q02 (a:=ql3) rfl Tryz.func56 (by kernel_rfl) (by kernel_rfl)
  · exact q02 (a:=q6T) rfl Tryz.func57 (by kernel_rfl) (by kernel_rfl)
  · exact q02 (a:=qiI) rfl Tryz.func58 (by kernel_rfl) (by kernel_rfl)
  · exact q02 (a:=qiy) rfl Tryz.func67 (by kernel_rfl) (by kernel_rfl)
  · exact q02 (a:=ql2) rfl Tryz.func69 (by kernel_rfl) (by kernel_rfl)
  · exact q02 (a:=qjR) rfl Tryz.func93 (by kernel_rfl) (by kernel_rfl)
  · exact q02 (a:=qe3) rfl Tryz.func99 (by kernel_rfl) (by kernel_rfl)
  · exact q02 (a:=qdK) rfl Tryz.func100 (by kernel_rfl) (by kernel_rfl)
  · exact q19 rfl Tryz.func117 rfl (by kernel_rfl)
  · exact q19 rfl Tryz.func124 rfl (by kernel_rfl)
  · exact q19 rfl Tryz.func85 rfl (by kernel_rfl)
  · exact q19 rfl Tryz.func52 rfl (by kernel_rfl)
  · exact q19 rfl Tryz.func47 rfl (by kernel_rfl)
  · exact q19 rfl Tryz.func91 rfl (by kernel_rfl)
  · exact q19 rfl Tryz.func211 rfl (by kernel_rfl)
  · exact q19 rfl Tryz.func213 rfl (by kernel_rfl)
  · exact q19 rfl Tryz.func214 rfl (by kernel_rfl)
  · exact q19 rfl Tryz.func237 rfl (by kernel_rfl)
  · exact q19 rfl Tryz.func118 rfl (by kernel_rfl)
  · exact q19 rfl Tryz.func254 rfl (by kernel_rfl)
  · exact q19 rfl Tryz.func202 rfl (by kernel_rfl)
  · exact q19 rfl Tryz.func235 rfl (by kernel_rfl)
  · exact q19 rfl Tryz.func51 rfl (by kernel_rfl)
theorem qoQ:CtxOk Tryz.prog (q26 fids) pf (q5g q8S qd3 qdJ):=qeM qev (fun f p h=>by
  unfold qd3 at h
  split at h
  · cases h
    exact ⟨rfl,qdS⟩
  · cases h
    exact ⟨rfl,qeC⟩
  · cases h
    exact ⟨rfl,qew⟩
  · cases h
    exact ⟨rfl,qes⟩
  · cases h
    exact ⟨rfl,qe6⟩
  · cases h
    exact ⟨rfl,qe1⟩
  · cases h
    exact ⟨rfl,qdI pf⟩
  · cases h) (fun f p h=>by
  unfold qdJ at h
  split at h
  · cases h
    exact ⟨rfl,qgK⟩
  · cases h)
theorem qrO:qjJ Tryz.prog (q26 fids) 291 qns:=qpl (fun g hg=>by
      have h:=q0M hg
      have e:g=202:=by simpa [fids] using h
      subst e
      exact ⟨_,Tryz.lays105,Tryz.Builder_Extra_105,rfl⟩)
theorem qpi:qjF Tryz.prog (q26 fids) 272:=fun g hg=>by
      have h:=q0M hg
      have e:g=235:=by simpa [fids] using h
      subst e
      exact ⟨_,Tryz.lays213,rfl⟩
theorem qif (s:ByteArray):qda s.data.toList=Lib.runeCount s:=by
  have : ∀ f k,q6k ⟨s.data.toList.toArray⟩ f k=Lib.runeCountFrom s f k:=by
    intro f
    induction f with
    | zero=>intro k; rfl
    | succ f ih=>
      intro k
      unfold q6k Lib.runeCountFrom
      rw[ih]
  have e:s.data.toList.length=s.size:=by
    show _=s.data.size
    simp
  unfold qda Lib.runeCount
  rw[e]
  exact this _ _
theorem qrb:qn9 Tryz.prog (q26 fids) 988:=fun g hg s w hs=>by
  have h:=q0M hg
  have e:g=51:=by simpa [fids] using h
  subst e
  refine (Go.Proofs.Any.utf8_RuneCountInString Tryz.lays195 s w (by have:lim=2147483648:=rfl; omega)).mono fun e w' he=>?_
  obtain ⟨h1,pos,rfl⟩:=he
  rw[qif]
  refine ⟨h1,⟨⟨rfl,rfl,rfl,?_,fun k hk=>?_⟩,Nat.le_refl _⟩⟩
  · show w.heap.size≤(w.heap.push _).size
    simp
  · show (w.heap.push _)[k]?=w.heap[k]?
    rw[Array.getElem?_push_lt hk,Array.getElem?_eq_getElem hk]
theorem qgV {code:Nat→Option AFn} {f:Nat} {ts:List AV} {v:AV} (hf:qdJ f=none) : ¬ (q5g code qd3 qdJ).pprim f ts v:=fun h=>by
  obtain ⟨p,l,h,_⟩:=h
  rw[hf] at h
  cases h
end Go.Proofs.YtkibapblgbdhmaaGreatDoor
/- The contexts of the laws hold of the program. -/
set_option maxRecDepth 100000
namespace Go.Proofs.YtkibapblgbdhmaaGreatDoor
open Ago
theorem qp5:CodedAt Tryz.prog (q26 fids) pf2 qaY (47,985):=q02 (a:=qeU) rfl Tryz.func47 (by kernel_rfl) (by kernel_rfl)
theorem qm3 : ∀ p,p∈fids→CodedAt Tryz.prog (q26 fids) pf2 qaY p:=fun p hp=>by
  by_cases h:p.2=985
  · have e:p=(47,985):=by
      simp only[fids,List.mem_cons,List.not_mem_nil,or_false] at hp
      rcases hp with rfl | rfl | rfl | rfl | rfl | rfl | rfl | rfl | rfl | rfl | rfl | rfl | rfl | rfl | rfl | rfl | rfl | rfl | rfl | rfl | rfl | rfl | rfl | rfl | rfl | rfl | rfl | rfl | rfl | rfl | rfl | rfl | rfl | rfl | rfl | rfl | rfl | rfl | rfl | rfl | rfl | rfl | rfl | rfl | rfl | rfl | rfl | rfl | rfl | rfl | rfl | rfl | rfl | rfl | rfl | rfl | rfl | rfl | rfl | rfl | rfl | rfl | rfl | rfl | rfl | rfl | rfl | rfl | rfl | rfl | rfl | rfl | rfl | rfl | rfl | rfl | rfl | rfl | rfl | rfl | rfl | rfl | rfl | rfl | rfl | rfl | rfl | rfl | rfl | rfl | rfl | rfl | rfl | rfl | rfl | rfl | rfl | rfl | rfl | rfl | rfl | rfl | rfl | rfl | rfl | rfl | rfl | rfl | rfl | rfl | rfl | rfl | rfl | rfl | rfl | rfl | rfl | rfl | rfl | rfl | rfl | rfl | rfl | rfl | rfl | rfl | rfl | rfl | rfl | rfl | rfl | rfl | rfl | rfl | rfl | rfl | rfl | rfl | rfl | rfl | rfl | rfl | rfl | rfl | rfl | rfl | rfl | rfl | rfl | rfl | rfl | rfl | rfl | rfl | rfl | rfl | rfl | rfl | rfl | rfl | rfl | rfl<;>first | rfl | cases h
    rw[e]
    exact qp5
  · refine ⟨(qev p hp).fn,fun a ha=>?_⟩
    unfold qaY at ha
    split at ha
    · rename_i h2
      exact (h h2).elim
    · cases ha
theorem qrc:CtxOk Tryz.prog (q26 fids) pf2 (q5g qaY qd3 qdJ):=qeM qm3 (fun f p h=>by
  unfold qd3 at h
  split at h
  · cases h
    exact ⟨rfl,qrW⟩
  · cases h
    exact ⟨rfl,qrY⟩
  · cases h
    exact ⟨rfl,qrX⟩
  · cases h
    exact ⟨rfl,qs0⟩
  · cases h
    exact ⟨rfl,qrZ⟩
  · cases h
    exact ⟨rfl,qs1⟩
  · cases h
    exact ⟨rfl,qdI pf2⟩
  · cases h) (fun f p h=>by
  unfold qdJ at h
  split at h
  · cases h
    exact ⟨rfl,qs2⟩
  · cases h)
theorem qqj:CtxOk Tryz.prog (q26 fids) pf2 CC:=qcj qrc (fun f h=>by
    have e:f=272:=by simpa [csQ] using h
    subst e
    exact ⟨rfl,qpi,rfl,fun ts v=>qgV rfl⟩) (fun f h=>by
    have e:f=551:=by simpa [lnQ] using h
    subst e
    exact ⟨rfl,fun g hg=>by
      have h:=q0M hg
      simp [fids] at h,rfl,fun ts v=>qgV rfl⟩) (fun f h=>by
    have e:f=510:=by simpa [ssQ] using h
    subst e
    exact ⟨rfl,fun g hg=>by
      have h:=q0M hg
      simp [fids] at h,fun a H v H' h=>by
      obtain ⟨p,x,h,_⟩:=h
      cases h⟩)
theorem qoi:CtxOk Tryz.prog (q26 fids) pf (q5c (q5g q8S qd3 qdJ) noI lnI ssQ):=qcj qoQ (fun f h=>by cases h) (fun f h=>by
    have e:f=551∨f=988:=by simpa [lnI] using h
    rcases e with e | e
    · subst e
      exact ⟨rfl,fun g hg=>by
      have h:=q0M hg
      simp [fids] at h,rfl,fun ts v=>qgV rfl⟩
    · subst e
      exact ⟨rfl,qrb,rfl,fun ts v=>qgV rfl⟩) (fun f h=>by
    have e:f=510:=by simpa [ssQ] using h
    subst e
    exact ⟨rfl,fun g hg=>by
      have h:=q0M hg
      simp [fids] at h,fun a H v H' h=>by
      obtain ⟨p,x,h,_⟩:=h
      cases h⟩)
theorem qlf {f:Nat} {ts:List AV} {v:AV} (hf:qdJ f=none) (h2:lnI f=false) : ¬ (q5c (q5g q8S qd3 qdJ) noI lnI ssQ).pprim f ts v:=fun h=>by
  rcases h with h | ⟨h,_⟩ | ⟨h,_⟩
  · exact qgV hf h
  · cases h
  · rw[h2] at h
    cases h
theorem qqX:CtxOk Tryz.prog (q26 fids) pf CI0:=qiN qoi (fun f F h=>by
  unfold ppN at h
  split at h
  · cases h
    exact ⟨rfl,qrO,fun ts v=>qlf rfl rfl⟩
  · cases h
    exact ⟨rfl,qo1 qpi,fun ts v=>qlf rfl rfl⟩
  · cases h)
theorem qlo {f:Nat} {a:List AV} {H H':Heap} {v:AV} (hf:qd3 f=none) (h2:ssQ f=false) : ¬ CI0.prim f a H v H':=fun h=>by
  rcases h with h | ⟨h,_⟩
  · obtain ⟨p,x,h,_⟩:=h
    rw[hf] at h
    cases h
  · rw[h2] at h
    cases h
theorem qr7:CtxOk Tryz.prog (q26 fids) pf (q4f CI0 soI):=qd0 qqX (fun f k h=>by
  unfold soI at h
  split at h
  · cases h
    refine ⟨rfl,fun g hg=>?_,fun a H v H'=>qlo rfl rfl⟩
    have h:=q0M hg
    have e:g=52:=by simpa [fids] using h
    subst e
    exact ⟨_,Tryz.sortP,rfl,Tryz.isAgg70,Tryz.sizeOf70⟩
  · cases h)
theorem qrC:CtxOk Tryz.prog (q26 fids) pf CI:=qgR qr7 rfl (fun a H v H' h=>by
  rcases h with h | ⟨k,h,_⟩
  · exact qlo rfl rfl h
  · cases h) (fun a H v H' h=>by
  rcases h with ⟨_,h⟩ | ⟨_,h,ho,rfl⟩
  · exact (sound qqj h).1
  · exact SimRun.of_pure ho (sound qqj h).1) (fun a H v H' v2 H2 h h2=>by
  rcases h with ⟨q,h⟩ | ⟨q,h,ho,rfl⟩
  · rcases h2 with ⟨_,h2⟩ | ⟨q2,_⟩
    · exact (sound qqj h).2.2 _ _ h2
    · rw[q] at q2
      cases q2
  · rcases h2 with ⟨q2,_⟩ | ⟨_,h2,_,rfl⟩
    · rw[q] at q2
      cases q2
    · have:=(sound qqj h).2.2 _ h2
      exact ⟨this,by rw[this]⟩)
theorem qr0:CtxOk Tryz.prog (q26 fids) pf CI:=qrC
end Go.Proofs.YtkibapblgbdhmaaGreatDoor
