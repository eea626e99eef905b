/- Lists of operations: the abstract run is the model's. -/
import Derived.Test.YtahoajoopdphhaaGreatDoorMachC
import Derived.LoopN
import Derived.Scope
import Derived.Test.YtahoajoopdphhaaGreatDoorMachA
import Derived.ProofKit
import Derived.OpenShut
import Derived.ChangeCalls
import Derived.Test.YtahoajoopdphhaaGreatDoorMachE
set_option linter.unusedSimpArgs false
set_option linter.unusedVariables false
namespace Ago
open Go
variable {uT:Unit} [TabC uT]

structure Ext (k:Nat) (M M':Mem) (H H':Heap) (φ φ':Nat→Loc) (B:Nat) (w w':World):Prop where
 mem : ∀ b o v,M b o=some v→M' b o=some v
 new : ∀ b o v,M' b o=some v→b<B→M b o=some v
 later:Later k H H' φ φ'
 below:Bel B w w'

theorem Ext.refl (k:Nat) (M:Mem) (H:Heap) (φ:Nat→Loc) (B:Nat) (w:World):Ext k M M H H φ φ B w w:=⟨fun _ _ _ h=>h,fun _ _ _ h _=>h,Later.refl _ _ _,Bel.refl _ _⟩
theorem Ext.trans {k:Nat} {M1 M2 M3:Mem} {H1 H2 H3:Heap} {φ1 φ2 φ3:Nat→Loc} {B:Nat} {w1 w2 w3:World} (h:Ext k M1 M2 H1 H2 φ1 φ2 B w1 w2) (h':Ext k M2 M3 H2 H3 φ2 φ3 B w2 w3):Ext k M1 M3 H1 H3 φ1 φ3 B w1 w3:=
 ⟨fun b o v hm=>h'.mem _ _ _ (h.mem _ _ _ hm),fun b o v hm hb=>h.new _ _ _ (h'.new _ _ _ hm hb) hb,h.later.trans h'.later,h.below.trans h'.below⟩
theorem Ext.mono {k k':Nat} {M M':Mem} {H H':Heap} {φ φ':Nat→Loc} {B:Nat} {w w':World} (h:Ext k M M' H H' φ φ' B w w') (hk:k'≤k):Ext k' M M' H H' φ φ' B w w':=⟨h.mem,h.new,h.later.mono hk,h.below⟩

def q9J (ops:Array Oper):Option (Nat × Bool)→Option (Option (Nat × Bool))
 | none=>some none
 | some (j,b)=>((ops[j]?).bind (·.dst)).map fun t=>some (t,b)

structure OpAt (P:Program) (fid:FuncId→Option Nat) (pf:Nat→Bool) (ops:Array Oper) (i:Nat) (o:Oper) (c:AOper):Prop where
 at_:ops[i]?=some o
 dst:c.dst=o.dst
 guard:q9J ops o.guard=some c.guard
 op:c.op = .bad∨∃ op,q59 P fid pf o=some (op,c.args)∧(c.op=op∨∃ j p,op = .new p∧c.op = .newAt j p)

theorem OpAt.real {P:Program} {fid:FuncId→Option Nat} {pf:Nat→Bool} {ops:Array Oper} {i:Nat} {o:Oper} {c:AOper} (h:OpAt P fid pf ops i o c) (hb:c.op ≠ .bad) :
  ∃ op,q59 P fid pf o=some (op,c.args)∧(c.op=op∨∃ j p,op = .new p∧c.op = .newAt j p):=h.op.resolve_left hb

def qd7 (P:Program) (fid:FuncId→Option Nat) (pf:Nat→Bool) (ops:Array Oper):List Nat→List AOper→Prop
 | [],[]=>True
 | i::is,c::cs=>(∃ o,OpAt P fid pf ops i o c)∧qd7 P fid pf ops is cs
 | _,_=>False

section
variable {P:Program} {fid:FuncId→Option Nat} {pf:Nat→Bool} {M M':Mem} {H H':Heap} {φ φ':Nat→Loc} {B:Nat} {w w':World} {as:List AV} {v:AV} {s:St} {a:Act} {ops:Array Oper} {Q:Exit→Act→World→Prop}

theorem Rel.put (R:Rel fid M φ B s a w) (hM : ∀ b o v,M b o=some v→M' b o=some v) (hle:HLe s.heap.length s.heap H' φ φ') (hH:HRel fid M' H' φ' B w') {r:Value} (hv:VRel fid M' H' φ' v r) (hb:Bel B w w') (dst:Option Nat) :
  Rel fid M' φ' B (s.put dst v H') (a.put dst r) w':=by
 have ht:=R.tm.mono hM hle
 cases dst with
 | none=>exact ⟨ht,hH,Vc R.sz hb.size,R.df,TabC.mono R.tb hb⟩
 | some d=>
  refine ⟨?_,hH,Vc R.sz hb.size,R.df,TabC.mono R.tb hb⟩
  show VRels fid M' H' φ' (s.tmps.set d v) (a.tmps.setIfInBounds d r).toList
  refine ⟨by simpa using ht.1,fun i x u hx hu=>?_⟩
  rw[Array.toList_setIfInBounds] at hu
  by_cases hid:d=i
  ·subst hid
   have h1:=q0f hx
   have h2:=q0f hu
   rw[Ve (by simpa using h1)] at hx
   rw[Ve (by simpa using h2)] at hu
   cases hx; cases hu
   exact hv
  ·rw[K0 hid] at hx hu
   exact ht.2 i x u hx hu

theorem q3s:VRel fid M H φ undef Go.undef:=.tup [] #[] rfl (fun i x v h=>by cases h)

theorem q2b (R:Rel fid M φ B s a w) {o:Oper} {g:Option (Nat × Bool)} (hg:q9J ops o.guard=some g) {b:Bool} (hw:s.wanted g=some b):Region.wanted o (yielded ops a.tmps)=b:=by
 unfold Region.wanted
 cases ho:o.guard with
 | none=>
  rw[ho] at hg
  cases hg
  simp only[St.wanted,Kq] at hw
  exact hw
 | some jb=>
  obtain ⟨j,want⟩:=jb
  rw[ho] at hg
  simp only[q9J,Kg] at hg
  obtain ⟨t,ht,rfl⟩:=hg
  simp only[St.wanted] at hw
  simp only[yielded,ht,VK]
  split at hw
  ·rename_i c hc
   obtain ⟨u,h1,h2⟩:=q1i R.tm hc
   cases h2
   rw[←VW,h1]
   simp only[Kq] at hw
   rw[←hw]
   cases c<;>cases want<;>rfl
  ·rename_i hc
   obtain ⟨u,h1,h2⟩:=q1i R.tm hc
   cases h2
   rw[←VW,h1]
   simp only[Kq] at hw
   rw[←hw]
   rfl
  ·cases hw

theorem q2U {i:Nat} {idx:List Nat} {o:Oper} (ho:ops[i]?=some o) (hw:Region.wanted o (yielded ops a.tmps)=true) {n:Next} {r:Value} (hrun:(execOp a.eval o).run P w = .ok n w') (hn:qrb n r) (h:wpOps P ops Q idx (a.put o.dst r) w') :
  wpOps P ops Q (i::idx) a w:=by
 simp only[wpOps,ho,hw,if_true]
 refine .inl ?_
 unfold Oper.wp
 rw[hrun]
 rcases hn with rfl | ⟨rfl,rfl⟩
 ·exact h
 ·exact h

theorem qhD {i:Nat} {idx:List Nat} {o:Oper} (ho:ops[i]?=some o) (hw:Region.wanted o (yielded ops a.tmps)=false) (h:wpOps P ops Q idx (a.put o.dst Go.undef) w):wpOps P ops Q (i::idx) a w:=by
 simp only[wpOps,ho,hw,Km,if_false]
 exact h

theorem q8n {i:Nat} {idx:List Nat} {o:Oper} {g:FuncId} {us:Array Value} {R:Value→World→Prop} (ho:ops[i]?=some o) (hw:Region.wanted o (yielded ops a.tmps)=true) (hrun:(execOp a.eval o).run P w = .ok (.enter g us) w)
  (hc:Calls P g us w fun e w'=>∃ r,e = .returned r∧R r w') (h : ∀ r w',R r w'→wpOps P ops Q idx (a.put o.dst r) w'):wpOps P ops Q (i::idx) a w:=by
 simp only[wpOps,ho,hw,if_true]
 refine .inl ?_
 unfold Oper.wp
 rw[hrun]
 refine Calls.mono hc fun e w'' he=>?_
 obtain ⟨r,rfl,hr⟩:=he
 exact h r w'' hr
end

def q1P (P:Program) (fid:FuncId→Option Nat) (pf:Nat→Bool) (l:List AOper) (s s':St):Prop:=
 s'.base=s.base∧∀ (ops:Array Oper) (idx:List Nat),qd7 P fid pf ops idx l→∀ (M:Mem) (φ:Nat→Loc) (B:Nat) (a:Act) (w:World),Rel fid M φ B s a w→∀ (Q:Exit→Act→World→Prop),
  (∀ M' φ' a' w',Rel fid M' φ' B s' a' w'→Ext s.heap.length M M' s.heap s'.heap φ φ' B w w'→Q .normal a' w')→wpOps P ops Q idx a w

def q3h (P:Program) (fid:FuncId→Option Nat) (f:Nat) (args:List AV) (H:Heap) (v:AV) (H':Heap):Prop:=
 ∀ g,fid g=some f→∀ (M:Mem) (φ:Nat→Loc) (B:Nat) (us:Array Value) (w:World),VRels fid M H φ args us.toList→HRel fid M H φ B w→B≤w.heap.size→TabC.ok B w →
  Calls P g us w fun e w'=>∃ r,e = .returned r∧∃ M' φ',VRel fid M' H' φ' v r∧HRel fid M' H' φ' B w'∧Ext H.length M M' H H' φ φ' B w w'

def q2E (P:Program) (fid:FuncId→Option Nat) (f:Nat) (ts:List AV) (v:AV):Prop:=
 ∀ g,fid g=some f→∀ (M:Mem) (φ:Nat→Loc) (us:Array Value) (w:World),VRels fid M [] φ ts us.toList→(∀ b o u,M b o=some u→w.cell? ⟨b,o,none⟩=some u)→TabC.ok w.heap.size w →
  Calls P g us w fun e w'=>∃ r,e = .returned r∧∃ M',VRel fid M' [] φ v r∧(∀ b o u,M b o=some u→M' b o=some u)∧(∀ b o u,M' b o=some u→b<w.heap.size→M b o=some u) ∧
   (∀ b o u,M' b o=some u→w'.cell? ⟨b,o,none⟩=some u)∧Bel w.heap.size w w'
end Ago
namespace Ago
open Go
variable {uT:Unit} [TabC uT]

section
variable {P:Program} {fid:FuncId→Option Nat} {pf:Nat→Bool} {s s':St} {c:AOper} {l:List AOper} {v:AV} {H1:Heap}

theorem q7y {op:AOp} {l:List (TypeId × Operand)} {j:Nat} {p:NOp} {args:List Opd} (h:q0j P fid op l=some (.newAt j p,args)):op = .newAt j p:=(q09 h).1

theorem qfI {o:Oper} {j:Nat} {p:NOp} {args:List Opd} (h:q59 P fid pf o=some (.newAt j p,args)):False:=by
 unfold q59 q5g at h
 repeat' split at h
 all_goals first
  | cases h
  | (have:=q7y h; cases this)
  | (simp only[VM] at h; obtain ⟨_,_,h⟩:=h; have:=q7y h; cases this)
  | skip

theorem qnO (s:St) (d:Option Nat) (v:AV) (H:Heap):(s.put d v H).base=s.base:=by cases d<;>rfl
theorem q49 (s:St) (d:Option Nat) (v:AV) (H:Heap):(s.put d v H).heap=H:=by cases d<;>rfl

theorem q21 (h:q1P P fid pf l (s.put c.dst v H1) s')
  (step : ∀ (ops:Array Oper) (i:Nat) (o:Oper),OpAt P fid pf ops i o c→∀ (M:Mem) (φ:Nat→Loc) (B:Nat) (a:Act) (w:World),Rel fid M φ B s a w→∀ (idx:List Nat) (Q:Exit→Act→World→Prop),
   (∀ M' φ' r w',HRel fid M' H1 φ' B w'→HLe s.heap.length s.heap H1 φ φ'→VRel fid M' H1 φ' v r→(∀ b o u,M b o=some u→M' b o=some u)→(∀ b o u,M' b o=some u→b<B→M b o=some u)→Bel B w w'→wpOps P ops Q idx (a.put o.dst r) w')→wpOps P ops Q (i::idx) a w) :
  q1P P fid pf (c::l) s s':=by
 obtain ⟨hb,h⟩:=h
 refine ⟨by rw[hb,qnO],fun ops idx hm M φ B a w R Q hQ=>?_⟩
 cases idx with
 | nil=>exact hm.elim
 | cons i idx=>
  obtain ⟨⟨o,hat⟩,hm'⟩:=hm
  refine step ops i o hat M φ B a w R idx Q fun M' φ' r w' h1 h2 h3 h4 h5 h6=>?_
  have R':=R.put h4 h2 h1 h3 h6 c.dst
  rw[hat.dst] at R'
  have hb':=h ops idx hm' M' φ' B (a.put o.dst r) w' (by rw[hat.dst]; exact R') Q
  refine hb' fun M2 φ2 a2 w2 R2 E2=>hQ M2 φ2 a2 w2 R2 ?_
  rw[q49] at E2
  exact Ext.trans ⟨h4,h5,h2.later,h6⟩ (E2.mono h2.1)

theorem qbS (s:St):q1P P fid pf [] s s:=⟨rfl,fun ops idx hm M φ B a w R Q hQ=>by
 cases idx with
 | nil=>exact hQ M φ a w R (Ext.refl ..)
 | cons i idx=>exact hm.elim⟩

theorem qg3 (hw:s.wanted c.guard=some false) (h:q1P P fid pf l (s.put c.dst undef s.heap) s'):q1P P fid pf (c::l) s s':=
 q21 h fun ops i o hat M φ B a w R idx Q k=>qhD hat.at_ (q2b R hat.guard hw) (k M φ _ w R.hp (HLe.refl _ _ _) q3s (fun _ _ _ h=>h) (fun _ _ _ h _=>h) (Bel.refl _ _))

theorem qfZ {p:POp} (hF:qb4 P fid) (hw:s.wanted c.guard=some true) (ho:c.op = .pure p) (hv:p.exec (c.args.map s.eval)=some v) (h:q1P P fid pf l (s.put c.dst v s.heap) s'):q1P P fid pf (c::l) s s':=
 q21 h fun ops i o hat M φ B a w R idx Q k=>by
  obtain ⟨op,h1,h2⟩:=hat.real (by rw[ho]; intro h0; cases h0)
  have hs:=q7T hF R h1
  rcases h2 with h2 | ⟨j,p',_,h2⟩
  ·rw[ho] at h2
   subst h2
   obtain ⟨r,h3,h4⟩:=hs v hv
   exact q2U hat.at_ (q2b R hat.guard hw) h3 (.inl rfl) (k M φ r w R.hp (HLe.refl _ _ _) h4 (fun _ _ _ h=>h) (fun _ _ _ h _=>h) (Bel.refl _ _))
  ·rw[ho] at h2; cases h2

theorem qfN {p:ROp} (hF:qb4 P fid) (hw:s.wanted c.guard=some true) (ho:c.op = .read p) (hv:p.exec (c.args.map s.eval) s.heap=some v) (h:q1P P fid pf l (s.put c.dst v s.heap) s'):q1P P fid pf (c::l) s s':=
 q21 h fun ops i o hat M φ B a w R idx Q k=>by
  obtain ⟨op,h1,h2⟩:=hat.real (by rw[ho]; intro h0; cases h0)
  have hs:=q7T hF R h1
  rcases h2 with h2 | ⟨j,p',_,h2⟩
  ·rw[ho] at h2
   subst h2
   obtain ⟨r,h3,h4⟩:=hs v hv
   exact q2U hat.at_ (q2b R hat.guard hw) h3 (.inl rfl) (k M φ r w R.hp (HLe.refl _ _ _) h4 (fun _ _ _ h=>h) (fun _ _ _ h _=>h) (Bel.refl _ _))
  ·rw[ho] at h2; cases h2

theorem qiY {p:NOp} {b:Blk} (hF:qb4 P fid) (hw:s.wanted c.guard=some true) (ho:c.op = .new p) (hv:p.exec (c.args.map s.eval) s.heap.length=some (v,b)) (h:q1P P fid pf l (s.put c.dst v (s.heap++[b])) s'):q1P P fid pf (c::l) s s':=
 q21 h fun ops i o hat M φ B a w R idx Q k=>by
  obtain ⟨op,h1,h2⟩:=hat.real (by rw[ho]; intro h0; cases h0)
  have hs:=q7T hF R h1
  rcases h2 with h2 | ⟨j,p',_,h2⟩
  ·rw[ho] at h2
   subst h2
   obtain ⟨n,r,w',φ',h3,h4,h5,h6,h7,h8⟩:=hs _ v b hv _ (Placed.push s.heap b)
   exact q2U hat.at_ (q2b R hat.guard hw) h3 h4 (k M φ' r w' h5 h6 h7 (fun _ _ _ h=>h) (fun _ _ _ h _=>h) (.of_run h8 h3))
  ·rw[ho] at h2; cases h2

theorem qe0 {j:Nat} {p:NOp} {b:Blk} (hF:qb4 P fid) (hw:s.wanted c.guard=some true) (ho:c.op = .newAt j p) (hv:p.exec (c.args.map s.eval) (s.rb+j)=some (v,b)) (hf:s.heap[s.rb+j]?=some .resv)
  (h:q1P P fid pf l (s.put c.dst v (s.heap.set (s.rb+j) b)) s'):q1P P fid pf (c::l) s s':=
 q21 h fun ops i o hat M φ B a w R idx Q k=>by
  obtain ⟨op,h1,h2⟩:=hat.real (by rw[ho]; intro h0; cases h0)
  have hs:=q7T hF R h1
  rcases h2 with h2 | ⟨j',p',h0,h2⟩
  ·-- no operation of the program is compiled to a kept place
   rw[ho] at h2
   subst h2
   exfalso
   exact qfI h1
  ·rw[ho] at h2
   cases h2
   subst h0
   obtain ⟨n,r,w',φ',h3,h4,h5,h6,h7,h8⟩:=hs _ v b hv _ (Placed.set b hf)
   exact q2U hat.at_ (q2b R hat.guard hw) h3 h4 (k M φ' r w' h5 h6 h7 (fun _ _ _ h=>h) (fun _ _ _ h _=>h) (.of_run h8 h3))

theorem qhY {p:EOp} (hF:qb4 P fid) (hw:s.wanted c.guard=some true) (ho:c.op = .eff p) (hv:p.exec (c.args.map s.eval) s.heap=some (v,H1)) (h:q1P P fid pf l (s.put c.dst v H1) s'):q1P P fid pf (c::l) s s':=
 q21 h fun ops i o hat M φ B a w R idx Q k=>by
  obtain ⟨op,h1,h2⟩:=hat.real (by rw[ho]; intro h0; cases h0)
  have hs:=q7T hF R h1
  rcases h2 with h2 | ⟨j,p',_,h2⟩
  ·rw[ho] at h2
   subst h2
   obtain ⟨n,r,w',φ',h3,h4,h5,h6,h7,h8⟩:=hs v H1 hv
   exact q2U hat.at_ (q2b R hat.guard hw) h3 h4 (k M φ' r w' h5 h6 h7 (fun _ _ _ h=>h) (fun _ _ _ h _=>h) (.of_run h8 h3))
  ·rw[ho] at h2; cases h2

theorem qfD {f:Nat} (hF:qb4 P fid) (hw:s.wanted c.guard=some true) (ho:c.op = .call f) (hr:q3h P fid f (c.args.map s.eval) s.heap v H1) (h:q1P P fid pf l (s.put c.dst v H1) s'):q1P P fid pf (c::l) s s':=
 q21 h fun ops i o hat M φ B a w R idx Q k=>by
  obtain ⟨op,h1,h2⟩:=hat.real (by rw[ho]; intro h0; cases h0)
  have hs:=q7T hF R h1
  rcases h2 with h2 | ⟨j,p',_,h2⟩
  ·rw[ho] at h2
   subst h2
   obtain ⟨g,us,h3,h4,h5⟩:=hs
   refine q8n hat.at_ (q2b R hat.guard hw) h3 (hr g h4 M φ B us w h5 R.hp R.sz R.tb) fun r w' h6=>?_
   obtain ⟨M',φ',h7,h8,h9⟩:=h6
   exact k M' φ' r w' h8 h9.later.hle h7 h9.mem h9.new h9.below
  ·rw[ho] at h2; cases h2

theorem qeH {f:Nat} {cap args:List AV} (hF:qb4 P fid) (hw:s.wanted c.guard=some true) (ho:c.op = .callv) (ha:c.args.map s.eval = .fn f cap::args) (hr:q3h P fid f (args++cap) s.heap v H1) (h:q1P P fid pf l (s.put c.dst v H1) s') :
  q1P P fid pf (c::l) s s':=
 q21 h fun ops i o hat M φ B a w R idx Q k=>by
  obtain ⟨op,h1,h2⟩:=hat.real (by rw[ho]; intro h0; cases h0)
  have hs:=q7T hF R h1
  rcases h2 with h2 | ⟨j,p',_,h2⟩
  ·rw[ho] at h2
   subst h2
   obtain ⟨g,us,h3,h4,h5⟩:=hs f cap args ha
   refine q8n hat.at_ (q2b R hat.guard hw) h3 (hr g h4 M φ B us w h5 R.hp R.sz R.tb) fun r w' h6=>?_
   obtain ⟨M',φ',h7,h8,h9⟩:=h6
   exact k M' φ' r w' h8 h9.later.hle h7 h9.mem h9.new h9.below
  ·rw[ho] at h2; cases h2

theorem qdm {f:Nat} {ts:List AV} (hF:qb4 P fid) (hw:s.wanted c.guard=some true) (ho:c.op = .pcall f) (ha:q1L (frz s.heap 6) (c.args.map s.eval)=some ts) (hr:q2E P fid f ts v)
  (h:q1P P fid pf l (s.put c.dst v (q0L s.heap (c.args.map s.eval) v)) s'):q1P P fid pf (c::l) s s':=
 q21 h fun ops i o hat M φ B a w R idx Q k=>by
  obtain ⟨op,h1,h2⟩:=hat.real (by rw[ho]; intro h0; cases h0)
  have hs:=q7T hF R h1
  rcases h2 with h2 | ⟨j,p',_,h2⟩
  ·rw[ho] at h2
   subst h2
   obtain ⟨g,us,h3,h4,h5⟩:=hs
   have hfz:=qg6 R.hp h5 ha
   refine q8n hat.at_ (q2b R hat.guard hw) h3 (hr g h4 _ φ us w hfz (fun b o u hm=>q1I hm) (TabC.up R.tb R.sz)) fun r w' h6=>?_
   obtain ⟨M',h7,h8,h9,h10,h11⟩:=h6
   unfold q0L at k
   cases hp:v.isPlain with
   | true=>
    simp only[hp,if_true] at k
    exact k M φ r w' (qfc R.hp h11.toBelow) (HLe.refl _ _ _) (h7.plain 6 hp) (fun _ _ _ h=>h) (fun _ _ _ h _=>h) (h11.mono R.sz)
   | false=>
    simp only[hp,Km,if_false] at k
    refine k M' φ r w' (qc2 R.hp h11.toBelow h8 h9 h10) (qcg _ _ _) h7.clad (fun b o u hm=>h8 _ _ _ (q1n R.hp hm)) (fun b o u hm hb=>?_) (h11.mono R.sz)
    have hf:=h9 b o u hm (Nat.lt_of_lt_of_le hb R.sz)
    have hcell:=q1I hf
    unfold q0t at hf
    split at hf
    ·rename_i hc
     rcases hc with hc | ⟨r2,n2,els2,ro2,fl2,fam2,h12,h13,h14,_⟩
     ·obtain ⟨u0,hu0⟩:=K3.1 hc
      have:=R.hp.mem _ _ _ hu0
      rw[hcell] at this
      cases this
      exact hu0
     ·have:=(R.hp.row _ _ _ _ _ _ h13).base
      omega
    ·cases hf
  ·rw[ho] at h2; cases h2
end
end Ago
namespace Ago
open Go
variable {uT:Unit} [TabC uT]

section
variable {P:Program} {fid:FuncId→Option Nat} {pf:Nat→Bool} {M M':Mem} {H H':Heap} {φ:Nat→Loc} {B:Nat} {w:World}

theorem qki (H:Heap) {x:AV} (h:x.one=true):(qaE H x).one=true:=by
 unfold qaE
 split
 ·rename_i n r i l
  split
  ·rename_i t ht
   simp only[frz] at ht
   split at ht
   ·split at ht
    ·split at ht
     ·cases ht; rfl
     ·simp only[Kg] at ht
      obtain ⟨_,_,rfl⟩:=ht
      rfl
    ·cases ht
   ·cases ht
  ·rfl
 ·exact h
theorem qfS (H:Heap) {x:AV} (h : ∀ cs,x ≠ .agg cs):(qaE H x).cells=[qaE H x]:=by
 unfold qaE
 split
 ·rename_i n r i l
  split
  ·rename_i t ht
   simp only[frz] at ht
   split at ht
   ·split at ht
    ·split at ht
     ·cases ht; rfl
     ·simp only[Kg] at ht
      obtain ⟨_,_,rfl⟩:=ht
      rfl
    ·cases ht
   ·cases ht
  ·rfl
 ·cases x<;>first | rfl | exact (h _ rfl).elim
theorem qaD (H:Heap) (x:AV):(qi0 H x).cells=x.cells.map (qaE H):=by
 cases x with
 | agg cs=>rfl
 | sref n r i l=>exact qfS H (x:=.sref n r i l) (fun cs h=>by cases h)
 | _=>rfl
theorem qgQ (hH:HRel fid M H φ B w) (rs:List Nat):HRel fid (q0t M H φ w rs) (q1h H rs) φ B w:=
 qc2 hH (RowKit.Below.refl _ _) (fun _ _ _ h=>h) (fun _ _ _ h _=>h) (fun _ _ _ h=>q1I h)
theorem qdW (hH:HRel fid M H φ B w) {rs:List Nat} {x:AV} {u:Value} (h:VRel fid M H φ x u) (hr : ∀ r,r∈q4i H x→r∈rs) (hL:HLe H.length H H' φ φ):VRel fid (q0t M H φ w rs) H' φ (qaE H x) u:=by
 have hm : ∀ b o v,M b o=some v→q0t M H φ w rs b o=some v:=fun b o v h=>q1n hH h
 cases x with
 | sref n r i l=>
  unfold qaE
  simp only
  split
  ·rename_i t ht
   have hV:=(qcs (M':=q0t M H φ w rs) (rs:=rs) hH hm (fun r n els ro fl fam o u hr h1 h2 h3 h4=>q48 hr h1 h2 h3 h4) 6 (Kr _)).1
   exact (hV _ _ _ h ht (fun q hq=>hr q (by
    unfold q4i
    simp only[ht]
    exact hq))).1.clad
  ·exact h.mono hm hL
 | _=>exact h.mono hm hL
theorem q2a (H:Heap) (rs:List Nat) : ∀ (G:Heap) (j i:Nat),(q5y H rs j G)[i]?=(G[i]?).map fun b=>if rs.contains (j+i) then b.thaw H else b
 | [],j,i=>by simp [q5y]
 | b::bs,j,0=>by simp [q5y]
 | b::bs,j,i+1=>by
  simp only[q5y,KY]
  rw[q2a H rs bs (j+1) i,show j+1+i=j+(i+1) by omega]
theorem q5q (H:Heap) (rs:List Nat) : ∀ (G:Heap) (j:Nat),(q5y H rs j G).length=G.length
 | [],_=>rfl
 | b::bs,j=>by simp [q5y,q5q H rs bs]
theorem qgf {b:Blk} {c:Bool} {n:Nat} {els:List AV} {ro fl:Bool} {fam:Nat} (h:(if c then b.thaw H else b) = .row n els ro fl fam) :
  b = .row n els ro fl fam∨∃ es,c=true∧b = .row n es ro false fam∧els=es.map (qi0 H)∧fl=(els.all fun x=>x.isPure && x.aged):=by
 cases c with
 | false=>exact .inl h
 | true=>
  simp only[if_true] at h
  cases b with
  | row n0 es ro0 fl0 fam0=>
   cases fl0 with
   | true=>exact .inl h
   | false=>
    simp only[Blk.thaw,Blk.row.injEq] at h
    obtain ⟨rfl,rfl,rfl,rfl,rfl⟩:=h
    exact .inr ⟨es,rfl,rfl,rfl,rfl⟩
  | _=>exact .inl h
theorem qmX {b:Blk} {c:Bool} {es:List (AV × AV)} (h:(if c then b.thaw H else b) = .map es):b = .map es:=by
 cases c with
 | false=>exact h
 | true=>
  simp only[if_true] at h
  cases b with
  | row n0 es ro0 fl0 fam0=>cases fl0<;>cases h
  | _=>exact h
theorem qpE (H:Heap) (rs:List Nat) (G:Heap) (φ:Nat→Loc):HLe G.length G (q5y H rs 0 G) φ φ:=by
 refine ⟨by rw[q5q]; exact Kr _,fun r b hr hb=>?_⟩
 rw[q2a,hb]
 refine ⟨_,rfl,?_,fun hne=>⟨fun e=>?_,rfl⟩⟩
 ·split
  ·cases b with
   | row n els ro fl fam=>
    cases fl with
    | true=>exact Blk.le_refl _
    | false=>exact .inr ⟨_,_,_,_,rfl,by simp⟩
   | _=>exact Blk.le_refl _
  ·exact b.le_refl
 ·split at e
  ·cases b with
   | row n els ro fl fam=>cases fl<;>cases e
   | resv=>exact hne rfl
   | _=>cases e
  ·exact hne e
theorem qeg (hH:HRel fid M H φ B w) (rs:List Nat) : ∃ M',HRel fid M' (q7Y rs H) φ B w∧(∀ b o v,M b o=some v→M' b o=some v)∧(∀ b o v,M' b o=some v→b<B→M b o=some v)∧HLe H.length H (q7Y rs H) φ φ:=by
 unfold q7Y
 generalize hq:(rs.flatMap fun r=>(H.getD r .gone).thawRefs H)=qs
 have hm : ∀ b o v,M b o=some v→q0t M H φ w qs b o=some v:=fun b o v h=>q1n hH h
 have h1:=qgQ hH qs
 have hlen:(q1h H qs).length=H.length:=q2t H qs
 have hle1:=qcg H qs φ
 have hle2:=qpE H rs (q1h H qs) φ
 rw[hlen] at hle2
 have hle:HLe H.length H (q5y H rs 0 (q1h H qs)) φ φ:=hle1.trans hle2
 -- a row behind it,and the row before
 have back : ∀ (r n:Nat) (els:List AV) (ro fl:Bool) (fam:Nat),(q5y H rs 0 (q1h H qs))[r]?=some (.row n els ro fl fam)→∃ es fl0,(q1h H qs)[r]?=some (.row n es ro fl0 fam)∧es.length=els.length:=fun r n els ro fl fam h=>by
  rw[q2a,Kg] at h
  obtain ⟨b,h2,h3⟩:=h
  rcases qgf h3 with h4 | ⟨es,_,h4,h5,_⟩
  ·exact ⟨els,fl,by rw[h2,h4],rfl⟩
  ·exact ⟨es,false,by rw[h2,h4],by rw[h5,Ka]⟩
 have backM : ∀ (r:Nat) (es:List (AV × AV)),(q5y H rs 0 (q1h H qs))[r]?=some (.map es)→(q1h H qs)[r]?=some (.map es):=fun r es h=>by
  rw[q2a,Kg] at h
  obtain ⟨b,h2,h3⟩:=h
  rw[h2,qmX h3]
 refine ⟨q0t M H φ w qs,⟨h1.mem,fun r n els ro fl fam hr=>?_,fun r es hr=>?_,fun r r' n1 e1 o1 f1 a1 n2 e2 o2 f2 a2 hne h2 h3 hb=>?_,fun r r' es es' hne h2 h3=>?_,fun r n els ro fl fam hr o u hu=>?_,fun r es hr o=>?_,h1.bl.keep id (fun r s p hr=>⟨?_,rfl⟩) (fun _ _ _ _ _ _ _ _ e=>e) (fun r n' els' ro' fl' fam' hr=>?_) (fun _ _ v hm=>.inl ⟨v,hm⟩) fun _ _ _ _ _ _=>rfl⟩,hm,fun b o v hv hb=>?_,hle⟩
 ·rw[q2a,Kg] at hr
  obtain ⟨b,h2,h3⟩:=hr
  rcases qgf h3 with h4 | ⟨es,hc,h4,h5,h6⟩
  ·subst h4
   exact (h1.row _ _ _ _ _ _ h2).mono (fun _ _ _ h=>h) (hlen▸hle2) rfl
  ·subst h4
   have hro : ∃ ro0,H[r]?=some (.row n es ro0 false fam):=by
    rw[q16,Kg] at h2
    obtain ⟨b,h7,h8⟩:=h2
    obtain ⟨ro0,h9,_⟩:=qgM h8
    exact ⟨ro0,by rw[h7,h9]⟩
   obtain ⟨ro0,h7⟩:=hro
   have R:=hH.row _ _ _ _ _ _ h7
   have hel : ∀ (i:Nat) (x:AV),els[i]?=some x→∃ x0,es[i]?=some x0∧x=qi0 H x0:=fun i x hx=>by
    rw[h5,KH,Kg] at hx
    obtain ⟨x0,h8,h9⟩:=hx
    exact ⟨x0,h8,h9.symm⟩
   refine ⟨R.base,R.pos,by rw[h5,Ka]; exact R.fits,?_,fun x hx=>?_,fun hf x hx=>?_⟩
   ·obtain ⟨c,t,fr,hcs,hsz,hfz,hv⟩:=R.cells
    refine ⟨c,t,fr,hcs,hsz,hfz,fun i x j y hx hy=>?_⟩
    obtain ⟨x0,h8,rfl⟩:=hel i x hx
    rw[qaD,KH,Kg] at hy
    obtain ⟨y0,h9,rfl⟩:=hy
    obtain ⟨u,h10,h11⟩:=hv i x0 j y0 h8 h9
    refine ⟨u,h10,qdW hH h11 (fun q hq'=>?_) hle⟩
    rw[←hq]
    refine KR.2 ⟨r,?_,?_⟩
    ·have:rs.contains (0+r)=true:=hc
     rw[KS] at this
     exact Vv.1 this
    ·rw[Ko,h7]
     exact KR.2 ⟨x0,Kc h8,KR.2 ⟨y0,Kc h9,hq'⟩⟩
   ·obtain ⟨i,hi⟩:=List.mem_iff_getElem?.1 hx
    obtain ⟨x0,h8,rfl⟩:=hel i x hi
    obtain ⟨g1,g2⟩:=R.wide x0 (Kc h8)
    rw[qaD]
    refine ⟨by rw[Ka]; exact g1,Kp.2 fun y hy=>?_⟩
    obtain ⟨y0,h9,rfl⟩:=KV.1 hy
    exact qki H (Kp.1 g2 y0 h9)
   ·rw[h6] at hf
    have:=Kp.1 hf x hx
    simp only[Kk] at this
    exact this.1
 ·exact (h1.map _ _ (backM _ _ hr)).mono (fun _ _ _ h=>h) (hlen▸hle2) rfl
 ·obtain ⟨_,_,g1,_⟩:=back _ _ _ _ _ _ h2
  obtain ⟨_,_,g2,_⟩:=back _ _ _ _ _ _ h3
  exact h1.sepRR r r' _ _ _ _ _ _ _ _ _ _ hne g1 g2 hb
 ·exact h1.sepMM r r' _ _ hne (backM _ _ h2) (backM _ _ h3)
 ·obtain ⟨_,_,g1,_⟩:=back _ _ _ _ _ _ hr
  obtain ⟨r2,els2,fl2,g2,g3,g4⟩:=h1.ownR _ _ _ _ _ _ g1 o u hu
  obtain ⟨b',g5,g6,_⟩:=hle2.2 r2 _ (by rw[←hlen]; exact q0f g2) g2
  rw[q2a,g2,KM] at g5
  have g5:=K7 g5
  by_cases hc:rs.contains (0+r2)=true
  ·rw[if_pos hc] at g5
   cases fl2 with
   | true=>exact ⟨r2,els2,true,by rw[q2a,g2,KM,if_pos hc]; rfl,g3,g4⟩
   | false=>exact ⟨r2,els2.map (qi0 H),_,by rw[q2a,g2,KM,if_pos hc]; rfl,g3,by rw[Ka]; exact g4⟩
  ·exact ⟨r2,els2,fl2,by rw[q2a,g2,KM,if_neg hc],g3,g4⟩
 ·exact h1.ownM r es (backM _ _ hr) o
 ·rw[q2a,Kg] at hr
  obtain ⟨b,h2,h3⟩:=hr
  rw[id,h2]
  split at h3
  ·cases b with
   | row n0 es0 ro0 fl0 fam0=>cases fl0<;>cases h3
   | _=>exact congrArg some h3
  ·rw[h3]
 ·obtain ⟨es,fl0,g1,_⟩:=back _ _ _ _ _ _ hr
  exact .inl ⟨r,_,_,_,_,_,g1,rfl⟩
 ·unfold q0t at hv
  split at hv
  ·rename_i hc
   rcases hc with hc | ⟨r2,n2,els2,ro2,fl2,fam2,_,h13,h14,_⟩
   ·obtain ⟨u0,hu0⟩:=K3.1 hc
    have:=hH.mem _ _ _ hu0
    rw[hv] at this
    cases this
    exact hu0
   ·have:=(hH.row _ _ _ _ _ _ h13).base
    omega
  ·cases hv
theorem qi3 {s:St} {a:Act} (R:Rel fid M φ B s a w) (h:Nat) : ∃ M',Rel fid M' φ B (s.thawBy h) a w∧(∀ b o v,M b o=some v→M' b o=some v)∧(∀ b o v,M' b o=some v→b<B→M b o=some v)∧HLe s.heap.length s.heap (s.thawBy h).heap φ φ∧(s.thawBy h).heap.length=s.heap.length:=by
 unfold St.thawBy
 split
 ·exact ⟨M,R,fun _ _ _ h=>h,fun _ _ _ h _=>h,HLe.refl _ _ _,rfl⟩
 ·generalize hi:h % 1000=i
  have hm : ∀ b o v,M b o=some v→q0t M s.heap φ w (q4i s.heap (s.tmps.getD i .dead)) b o=some v:=fun b o v h=>q1n R.hp h
  have hle:=qcg s.heap (q4i s.heap (s.tmps.getD i .dead)) φ
  refine ⟨q0t M s.heap φ w (q4i s.heap (s.tmps.getD i .dead)),⟨⟨by simpa using R.tm.1,fun j x u hx hu=>?_⟩,qgQ R.hp _,R.sz,R.df,R.tb⟩,hm,fun b o v hv hb=>?_,hle,q2t _ _⟩
  ·by_cases hij:i=j
   ·subst hij
    have h1:i<s.tmps.length:=by simpa using q0f hx
    rw[Ve h1] at hx
    cases hx
    have hg:s.tmps.getD i .dead=s.tmps[i]:=by rw[Ko,Ki h1]; rfl
    exact qdW R.hp (R.tm.2 i _ u (by rw[hg]; exact Ki h1) hu) (fun _ h=>h) hle
   ·rw[K0 hij] at hx
    exact (R.tm.2 j x u hx hu).mono hm hle
  ·unfold q0t at hv
   split at hv
   ·rename_i hc
    rcases hc with hc | ⟨r2,n2,els2,ro2,fl2,fam2,_,h13,h14,_⟩
    ·obtain ⟨u0,hu0⟩:=K3.1 hc
     have:=R.hp.mem _ _ _ hu0
     rw[hv] at this
     cases this
     exact hu0
    ·have:=(R.hp.row _ _ _ _ _ _ h13).base
     omega
   ·cases hv
 ·rename_i d hd
  obtain ⟨M',h1,h2,h3,h4⟩:=qeg R.hp (qfk s.heap d (AV.refsN 6 (s.tmps.getD (h % 1000) .dead)))
  exact ⟨M',⟨R.tm.mono h2 h4,h1,R.sz,R.df,R.tb⟩,h2,h3,h4,by unfold q7Y; rw[q5q,q2t]⟩
theorem qaJ {a:Act} : ∀ (l:List Nat) {M:Mem} {s:St},Rel fid M φ B s a w→∃ M',Rel fid M' φ B (l.foldl St.thawBy s) a w∧(∀ b o v,M b o=some v→M' b o=some v)∧(∀ b o v,M' b o=some v→b<B→M b o=some v)∧HLe s.heap.length s.heap (l.foldl St.thawBy s).heap φ φ∧(l.foldl St.thawBy s).heap.length=s.heap.length
 | [],M,s,R=>⟨M,R,fun _ _ _ h=>h,fun _ _ _ h _=>h,HLe.refl _ _ _,rfl⟩
 | h::l,M,s,R=>by
  obtain ⟨M1,R1,a1,b1,c1,d1⟩:=qi3 R h
  obtain ⟨M2,R2,a2,b2,c2,d2⟩:=qaJ l R1
  exact ⟨M2,R2,fun b o v h=>a2 b o v (a1 b o v h),fun b o v h hb=>b1 b o v (b2 b o v h hb) hb,c1.trans (d1▸c2),d2.trans d1⟩
theorem q8y : ∀ (l:List Nat) (s:St),(l.foldl St.thawBy s).base=s.base
 | [],_=>rfl
 | h::l,s=>(q8y l _).trans (by unfold St.thawBy; split<;>rfl)
theorem qgg {s:St} {a:Act} (R:Rel fid M φ B s a w) (hb:s.base≤s.heap.length) (live:List Nat) :
  ∃ M' φ',Rel fid M' φ' B (s.head live) a w∧Ext s.base M M' s.heap (s.head live).heap φ φ' B w w∧(s.head live).base=s.base∧s.base≤(s.head live).heap.length:=by
 obtain ⟨M1,R1,a1,b1,c1,d1⟩:=qaJ (q71 live) R
 have hs:=q8y (q71 live) s
 obtain ⟨φ',R2,L2,hbn,hbl⟩:=qgp R1 (by rw[hs,d1]; exact hb) live
 rw[hs] at L2 hbn hbl
 exact ⟨M1,φ',R2,⟨a1,b1,(c1.mono hb).later.trans L2,Bel.refl _ _⟩,hbn,hbl⟩
end
end Ago
namespace Ago
open Go
variable {uT:Unit} [TabC uT]

def Ex.toExit:Ex→Exit
 | .normal=>.normal
 | .exit i=>.exit i
 | .ret=>.ret

def q3a (P:Program) (fid:FuncId→Option Nat) (pf:Nat→Bool) (code:Code) (c:ACode):Prop:=∃ x,comp P fid pf code=some x∧x.strip=c.strip

def qvV (fid:FuncId→Option Nat) (M:Mem) (φ:Nat→Loc) (B:Nat) (w:World) (s:St) (e:Ex) (s':St) (Q:Exit→Act→World→Prop):Prop:=
 ∀ M' φ' a' w',Rel fid M' φ' B s' a' w'→Ext s.base M M' s.heap s'.heap φ φ' B w w'→s.base≤s'.heap.length→Q e.toExit a' w'

def qw0 (P:Program) (fid:FuncId→Option Nat) (pf:Nat→Bool) (c:ACode) (s:St) (e:Ex) (s':St):Prop:=
 ∀ code,q3a P fid pf code c→∀ (M:Mem) (φ:Nat→Loc) (B:Nat) (a:Act) (w:World),Rel fid M φ B s a w→s.base≤s.heap.length→∀ Q,qvV fid M φ B w s e s' Q→code.wp P Q a w

def qx3 (P:Program) (fid:FuncId→Option Nat) (pf:Nat→Bool) (b:ACode) (s:St) (e:Ex) (s':St):Prop:=
 ∃ n,∀ code,q3a P fid pf code b→∀ (M:Mem) (φ:Nat→Loc) (B:Nat) (a:Act) (w:World),Rel fid M φ B s a w→s.base≤s.heap.length→∀ Q,qvV fid M φ B w s e s' Q→Code.rounds P code Q n a w

def SimX (P:Program) (fid:FuncId→Option Nat) (pf:Nat→Bool) (c:ACode) (s:St) (e:Ex) (s':St):Prop:=
 s'.base=s.base∧match c with
 | .loop _ b=>qx3 P fid pf b s e s'
 | c=>qw0 P fid pf c s e s'

section
variable {P:Program} {fid:FuncId→Option Nat} {pf:Nat→Bool} {s s1 s':St} {e:Ex} {a b:ACode}

theorem qje {code:Code} {live:List Nat} {b:ACode} (h:q3a P fid pf code (.loop live b)) : ∃ code',code = .loop code'∧q3a P fid pf code' b:=by
 obtain ⟨x,h1,h2⟩:=h
 cases code with
 | loop c=>
  simp only[comp,Kg] at h1
  obtain ⟨y,h3,rfl⟩:=h1
  refine ⟨c,rfl,y,h3,?_⟩
  simpa [ACode.strip] using h2
 | skip=>cases h1; cases h2
 | region id ops draw=>
  simp only[comp] at h1
  repeat' split at h1
  all_goals first | cases h1 | skip
  all_goals cases h2
 | seq p q=>
  simp only[comp] at h1
  split at h1
  ·cases h1; cases h2
  ·cases h1
 | cond x p q=>
  simp only[comp] at h1
  split at h1
  ·cases h1; cases h2
  ·cases h1
 | block id p=>
  simp only[comp,Kg] at h1
  obtain ⟨y,_,rfl⟩:=h1
  cases h2
 | scope p=>
  simp only[comp,Kg] at h1
  obtain ⟨y,_,rfl⟩:=h1
  cases h2
 | label l=>cases h1; cases h2
 | exit id=>cases h1; cases h2
 | ret=>cases h1; cases h2
 | _=>cases h1

theorem SimX.toW {c:ACode} (h:SimX P fid pf c s e s'):qw0 P fid pf c s e s':=by
 obtain ⟨_,h⟩:=h
 cases c with
 | loop live b=>
  obtain ⟨n,h⟩:=h
  intro code hc M φ B a w R hb Q hQ
  obtain ⟨code',rfl,hc'⟩:=qje hc
  exact wp_loop_rounds n (h code' hc' M φ B a w R hb Q hQ)
 | _=>exact h
end
end Ago
namespace Ago
open Go
variable {uT:Unit} [TabC uT]

section
variable {P:Program} {fid:FuncId→Option Nat} {pf:Nat→Bool} {s s1 s':St} {e:Ex} {a b:ACode}

theorem qgV {code:Code} {a b:ACode} (h:q3a P fid pf code (.seq a b)) : ∃ p q,code = .seq p q∧q3a P fid pf p a∧q3a P fid pf q b:=by
 obtain ⟨x,h1,h2⟩:=h
 cases code with
 | seq p q=>
  simp only[comp] at h1
  split at h1
  ·rename_i y z hy hz
   cases h1
   simp only[ACode.strip,ACode.seq.injEq] at h2
   exact ⟨p,q,rfl,⟨y,hy,h2.1⟩,⟨z,hz,h2.2⟩⟩
  ·cases h1
 | loop c=>
  simp only[comp,Kg] at h1
  obtain ⟨y,_,rfl⟩:=h1
  cases h2
 | skip=>cases h1; cases h2
 | region id ops draw=>
  simp only[comp] at h1
  repeat' split at h1
  all_goals first | cases h1 | skip
  all_goals cases h2
 | cond x p q=>
  simp only[comp] at h1
  split at h1
  ·cases h1; cases h2
  ·cases h1
 | block id p=>
  simp only[comp,Kg] at h1
  obtain ⟨y,_,rfl⟩:=h1
  cases h2
 | scope p=>
  simp only[comp,Kg] at h1
  obtain ⟨y,_,rfl⟩:=h1
  cases h2
 | label l=>cases h1; cases h2
 | exit id=>cases h1; cases h2
 | ret=>cases h1; cases h2
 | _=>cases h1

theorem qjK {code:Code} {x:Opd} {a b:ACode} (h:q3a P fid pf code (.cond x a b)) : ∃ o p q,code = .cond o p q∧qdr P fid 0 o=some x∧q3a P fid pf p a∧q3a P fid pf q b:=by
 obtain ⟨y,h1,h2⟩:=h
 cases code with
 | cond o p q=>
  simp only[comp] at h1
  split at h1
  ·rename_i x0 y z hx hy hz
   cases h1
   simp only[ACode.strip,ACode.cond.injEq] at h2
   obtain ⟨rfl,h3,h4⟩:=h2
   exact ⟨o,p,q,rfl,hx,⟨y,hy,h3⟩,⟨z,hz,h4⟩⟩
  ·cases h1
 | seq p q=>
  simp only[comp] at h1
  split at h1
  ·cases h1; cases h2
  ·cases h1
 | loop c=>
  simp only[comp,Kg] at h1
  obtain ⟨y,_,rfl⟩:=h1
  cases h2
 | skip=>cases h1; cases h2
 | region id ops draw=>
  simp only[comp] at h1
  repeat' split at h1
  all_goals first | cases h1 | skip
  all_goals cases h2
 | block id p=>
  simp only[comp,Kg] at h1
  obtain ⟨y,_,rfl⟩:=h1
  cases h2
 | scope p=>
  simp only[comp,Kg] at h1
  obtain ⟨y,_,rfl⟩:=h1
  cases h2
 | label l=>cases h1; cases h2
 | exit id=>cases h1; cases h2
 | ret=>cases h1; cases h2
 | _=>cases h1

theorem qhP {code:Code} {i:Nat} {b:ACode} (h:q3a P fid pf code (.block i b)) : ∃ p,code = .block i p∧q3a P fid pf p b:=by
 obtain ⟨y,h1,h2⟩:=h
 cases code with
 | block id p=>
  simp only[comp,Kg] at h1
  obtain ⟨y,hy,rfl⟩:=h1
  simp only[ACode.strip,ACode.block.injEq] at h2
  obtain ⟨rfl,h3⟩:=h2
  exact ⟨p,rfl,y,hy,h3⟩
 | cond x p q=>
  simp only[comp] at h1
  split at h1
  ·cases h1; cases h2
  ·cases h1
 | seq p q=>
  simp only[comp] at h1
  split at h1
  ·cases h1; cases h2
  ·cases h1
 | loop c=>
  simp only[comp,Kg] at h1
  obtain ⟨y,_,rfl⟩:=h1
  cases h2
 | skip=>cases h1; cases h2
 | region id ops draw=>
  simp only[comp] at h1
  repeat' split at h1
  all_goals first | cases h1 | skip
  all_goals cases h2
 | scope p=>
  simp only[comp,Kg] at h1
  obtain ⟨y,_,rfl⟩:=h1
  cases h2
 | label l=>cases h1; cases h2
 | exit id=>cases h1; cases h2
 | ret=>cases h1; cases h2
 | _=>cases h1

theorem qiM {code:Code} {b:ACode} (h:q3a P fid pf code (.scope b)) : ∃ p,code = .scope p∧q3a P fid pf p b:=by
 obtain ⟨y,h1,h2⟩:=h
 cases code with
 | scope p=>
  simp only[comp,Kg] at h1
  obtain ⟨y,hy,rfl⟩:=h1
  simp only[ACode.strip,ACode.scope.injEq] at h2
  exact ⟨p,rfl,y,hy,h2⟩
 | block id p=>
  simp only[comp,Kg] at h1
  obtain ⟨y,_,rfl⟩:=h1
  cases h2
 | cond x p q=>
  simp only[comp] at h1
  split at h1
  ·cases h1; cases h2
  ·cases h1
 | seq p q=>
  simp only[comp] at h1
  split at h1
  ·cases h1; cases h2
  ·cases h1
 | loop c=>
  simp only[comp,Kg] at h1
  obtain ⟨y,_,rfl⟩:=h1
  cases h2
 | skip=>cases h1; cases h2
 | region id ops draw=>
  simp only[comp] at h1
  repeat' split at h1
  all_goals first | cases h1 | skip
  all_goals cases h2
 | label l=>cases h1; cases h2
 | exit id=>cases h1; cases h2
 | ret=>cases h1; cases h2
 | _=>cases h1

theorem qad {code:Code} {c:ACode} (h:q3a P fid pf code c) (hc:c = .skip∨c = .ret∨∃ i,c = .exit i):(c = .skip∧(code = .skip∨∃ l,code = .label l))∨(c = .ret∧code = .ret)∨∃ i,c = .exit i∧code = .exit i:=by
 obtain ⟨y,h1,h2⟩:=h
 cases code with
 | skip=>cases h1; rcases hc with rfl | rfl | ⟨i,rfl⟩<;>cases h2; exact .inl ⟨rfl,.inl rfl⟩
 | label l=>cases h1; rcases hc with rfl | rfl | ⟨i,rfl⟩<;>cases h2; exact .inl ⟨rfl,.inr ⟨l,rfl⟩⟩
 | scope p=>
  simp only[comp,Kg] at h1
  obtain ⟨y,hy,rfl⟩:=h1
  rcases hc with rfl | rfl | ⟨i,rfl⟩<;>cases h2
 | ret=>cases h1; rcases hc with rfl | rfl | ⟨i,rfl⟩<;>cases h2; exact .inr (.inl ⟨rfl,rfl⟩)
 | exit id=>cases h1; rcases hc with rfl | rfl | ⟨i,rfl⟩<;>cases h2; exact .inr (.inr ⟨_,rfl,rfl⟩)
 | block id p=>
  simp only[comp,Kg] at h1
  obtain ⟨y,hy,rfl⟩:=h1
  rcases hc with rfl | rfl | ⟨i,rfl⟩<;>cases h2
 | cond x p q=>
  simp only[comp] at h1
  split at h1
  ·cases h1; rcases hc with rfl | rfl | ⟨i,rfl⟩<;>cases h2
  ·cases h1
 | seq p q=>
  simp only[comp] at h1
  split at h1
  ·cases h1; rcases hc with rfl | rfl | ⟨i,rfl⟩<;>cases h2
  ·cases h1
 | loop c=>
  simp only[comp,Kg] at h1
  obtain ⟨y,_,rfl⟩:=h1
  rcases hc with rfl | rfl | ⟨i,rfl⟩<;>cases h2
 | region id ops draw=>
  simp only[comp] at h1
  repeat' split at h1
  all_goals first | cases h1 | skip
  all_goals (rcases hc with rfl | rfl | ⟨i,rfl⟩<;>cases h2)
 | _=>cases h1


theorem qm1 (h1:SimX P fid pf a s .normal s1) (h2:SimX P fid pf b s1 e s'):SimX P fid pf (.seq a b) s e s':=by
 refine ⟨h2.1.trans h1.1,fun code hc M φ B ac w R hb Q hQ=>?_⟩
 obtain ⟨p,q,rfl,hp,hq⟩:=qgV hc
 refine wp_seq (h1.toW p hp M φ B ac w R hb _ fun M1 φ1 a1 w1 R1 E1 hb1=>?_)
 show q.wp P Q a1 w1
 rw[←h1.1] at hb1
 refine h2.toW q hq M1 φ1 B a1 w1 R1 hb1 Q fun M2 φ2 a2 w2 R2 E2 hb2=>?_
 rw[h1.1] at E2 hb2
 exact hQ M2 φ2 a2 w2 R2 (E1.trans E2) hb2

theorem qjP (h1:SimX P fid pf a s e s') (he:e ≠ .normal):SimX P fid pf (.seq a b) s e s':=by
 refine ⟨h1.1,fun code hc M φ B ac w R hb Q hQ=>?_⟩
 obtain ⟨p,q,rfl,hp,hq⟩:=qgV hc
 refine wp_seq (h1.toW p hp M φ B ac w R hb _ fun M1 φ1 a1 w1 R1 E1 hb1=>?_)
 have:=hQ M1 φ1 a1 w1 R1 E1 hb1
 cases e with
 | normal=>exact (he rfl).elim
 | exit i=>exact this
 | ret=>exact this

theorem qeM {x:Opd} {t:Bool} (hx:s.eval x = .bool t) (h:SimX P fid pf (if t then a else b) s e s'):SimX P fid pf (.cond x a b) s e s':=by
 refine ⟨h.1,fun code hc M φ B ac w R hb Q hQ=>?_⟩
 obtain ⟨o,p,q,rfl,ho,hp,hq⟩:=qjK hc
 have hrel:=qcK R.tm ho
 rw[hx] at hrel
 have hv:ac.eval o = .bool t:=by
  generalize ac.eval o=u at hrel
  cases hrel
  rfl
 refine wp_cond hv ?_
 cases t with
 | true=>exact h.toW p hp M φ B ac w R hb Q hQ
 | false=>exact h.toW q hq M φ B ac w R hb Q hQ

theorem qil {i:Nat} (h:SimX P fid pf b s e s'):SimX P fid pf (.block i b) s (e.out i) s':=by
 refine ⟨h.1,fun code hc M φ B ac w R hb Q hQ=>?_⟩
 obtain ⟨p,rfl,hp⟩:=qhP hc
 refine wp_block (h.toW p hp M φ B ac w R hb _ fun M1 φ1 a1 w1 R1 E1 hb1=>?_)
 have:=hQ M1 φ1 a1 w1 R1 E1 hb1
 cases e with
 | normal=>exact this
 | ret=>exact this
 | exit j=>
  show (if j=i then Q .normal a1 w1 else Q (.exit j) a1 w1)
  simp only[Ex.out] at this
  split
  ·rename_i h; rw[if_pos h] at this; exact this
  ·rename_i h; rw[if_neg h] at this; exact this

theorem qhI (h:SimX P fid pf b s e s'):SimX P fid pf (.scope b) s e s':=by
 refine ⟨h.1,fun code hc M φ B ac w R hb Q hQ=>?_⟩
 obtain ⟨p,rfl,hp⟩:=qiM hc
 refine wp_scope_straight (h.toW p hp M φ B ac w R hb _ fun M1 φ1 a1 w1 R1 E1 hb1=>?_)
 have:=hQ M1 φ1 a1 w1 R1 E1 hb1
 cases e with
 | normal=>exact this
 | ret=>exact this
 | exit j=>exact this

theorem qa1 {c:ACode} (hc:(c = .skip∧e = .normal)∨(c = .ret∧e = .ret)∨∃ i,c = .exit i∧e = .exit i):SimX P fid pf c s e s:=by
 have key:qw0 P fid pf c s e s:=by
  intro code hcode M φ B ac w R hb Q hQ
  have hq:=hQ M φ ac w R (Ext.refl ..) hb
  rcases hc with ⟨rfl,rfl⟩ | ⟨rfl,rfl⟩ | ⟨i,rfl,rfl⟩
  ·rcases qad hcode (.inl rfl) with ⟨_,rfl | ⟨l,rfl⟩⟩ | ⟨h,_⟩ | ⟨i,h,_⟩
   ·exact wp_skip hq
   ·exact wp_label hq
   ·cases h
   ·cases h
  ·rcases qad hcode (.inr (.inl rfl)) with ⟨h,_⟩ | ⟨_,rfl⟩ | ⟨i,h,_⟩
   ·cases h
   ·exact wp_ret hq
   ·cases h
  ·rcases qad hcode (.inr (.inr ⟨i,rfl⟩)) with ⟨h,_⟩ | ⟨h,_⟩ | ⟨j,h,rfl⟩
   ·cases h
   ·cases h
   ·cases h
    exact wp_exit hq
 rcases hc with ⟨rfl,_⟩ | ⟨rfl,_⟩ | ⟨i,rfl,_⟩<;>exact ⟨rfl,key⟩

theorem qgc (c:Bool) (s t:St) (h:t.base=s.base):(q4l c s t).base=s.base:=by
 cases c
 ·rfl
 ·exact h

theorem qks (live:List Nat) (s:St):(s.norm live).base=s.base:=qgc _ _ _ rfl
theorem qes (live:List Nat) (s:St):(s.head live).base=s.base:=(qks live _).trans (q8y _ s)

theorem qk9 {live:List Nat} (h1:SimX P fid pf b (s.head live) .normal s1) (h2:SimX P fid pf (.loop live b) s1 e s'):SimX P fid pf (.loop live b) s e s':=by
 have hb0:s1.base=s.base:=h1.1.trans (qes live s)
 refine ⟨h2.1.trans hb0,?_⟩
 obtain ⟨_,n,h2'⟩:=h2
 refine ⟨n+1,fun code hc M φ B ac w R hb Q hQ=>?_⟩
 obtain ⟨M',φ',R',E0,hbn,hbl⟩:=qgg R hb live
 rw[rounds_succ]
 refine h1.toW code hc M' φ' B ac w R' (by rw[hbn]; exact hbl) _ fun M1 φ1 a1 w1 R1 E1 hb1=>?_
 rw[hbn] at E1 hb1
 show Code.rounds P code Q n a1 w1
 refine h2' code hc M1 φ1 B a1 w1 R1 (by rw[hb0]; exact hb1) Q fun M2 φ2 a2 w2 R2 E2 hb2=>?_
 rw[hb0] at E2 hb2
 exact hQ M2 φ2 a2 w2 R2 (E0.trans (E1.trans E2)) hb2

theorem qhN {live:List Nat} (h1:SimX P fid pf b (s.head live) e s') (he:e ≠ .normal):SimX P fid pf (.loop live b) s e s':=by
 refine ⟨h1.1.trans (qes live s),?_⟩
 refine ⟨1,fun code hc M φ B ac w R hb Q hQ=>?_⟩
 obtain ⟨M',φ',R',E0,hbn,hbl⟩:=qgg R hb live
 rw[rounds_succ]
 refine h1.toW code hc M' φ' B ac w R' (by rw[hbn]; exact hbl) _ fun M1 φ1 a1 w1 R1 E1 hb1=>?_
 rw[hbn] at E1 hb1
 have:=hQ M1 φ1 a1 w1 R1 (E0.trans E1) hb1
 cases e with
 | normal=>exact (he rfl).elim
 | exit i=>exact this
 | ret=>exact this
end
end Ago
namespace Ago
open Go
variable {uT:Unit} [TabC uT]

def qvt (tmps:Array Value):ResultVar→Sem Value
 | .tmp t=>pure (tmps.getD t Go.undef)
 | .cell c t=>do loadVar t (← asAddr (tmps.getD c Go.undef))

theorem qbR (fn:Func) (tmps:Array Value):Go.results fn tmps=(do
 let vs ← fn.results.mapM (qvt tmps)
 pure (if h:vs.size=1 then vs[0] else .tuple vs)):=rfl

section
variable {P:Program} {fid:FuncId→Option Nat} {pf:Nat→Bool} {M:Mem} {φ:Nat→Loc} {B:Nat} {w:World} {s:St} {a:Act} {v:AV}

theorem qfV (P:Program) (R:Rel fid M φ B s a w) (i:Nat):VRel fid M s.heap φ (s.tmps.getD i undef) (a.tmps.getD i Go.undef):=
 qcK (P:=P) (fid:=fid) (s:=s) (a:=a) R.tm (t:=0) (x:=.tmp i) (d:=.t i) rfl

theorem qj2 (R:Rel fid M φ B s a w) {r:ResultVar} (hr:qhF P r=true) (hv:q6v s (q5O P r)=some v) :
  ∃ u,(qvt a.tmps r).run P w = .ok u w∧VRel fid M s.heap φ v u:=by
 cases r with
 | tmp i=>
  simp only[q5O,q6v,Kq] at hv
  subst hv
  exact ⟨_,rfl,qfV P R i⟩
 | cell i t=>
  simp only[q5O,q6v,ROp.exec] at hv
  obtain ⟨u,h1,h2⟩:=qoU (P:=P) R.hp (t:=t) hr (X:=a.tmps.getD i Go.undef) (VRels.cons (qfV P R i) VRels.nil) hv
  refine ⟨u,?_,h2⟩
  simp only[Instr.loadAt,Sem.run_bind] at h1
  simp only[qvt,Sem.run_bind]
  generalize a.tmps.getD i Go.undef=X at h1
  cases X with
  | pointer o=>
   cases o with
   | some ad=>exact h1
   | none=>simp [Instr.sureAddr] at h1
  | _=>simp [Instr.sureAddr] at h1

theorem q6N (R:Rel fid M φ B s a w) : ∀ (rs:List ResultVar) (vs:List AV),rs.all (qhF P)=true→q1L (q6v s) (rs.map (q5O P))=some vs →
  ∃ us,(rs.mapM (qvt a.tmps)).run P w = .ok us w∧VRels fid M s.heap φ vs us
 | [],vs,_,h=>by
  cases h
  exact ⟨[],rfl,VRels.nil⟩
 | r::rs,vs,hr,h=>by
  simp only[Vy,Kk] at hr
  simp only[Kd,q1L] at h
  split at h
  ·cases h
  ·rename_i v hv
   split at h
   ·cases h
   ·rename_i vs' hvs
    cases h
    obtain ⟨u,h1,h2⟩:=qj2 R hr.1 hv
    obtain ⟨us,h3,h4⟩:=q6N R rs vs' hr.2 hvs
    refine ⟨u::us,?_,VRels.cons h2 h4⟩
    rw[List.mapM_cons]
    simp only[Sem.run_bind,Sem.run_pure,h1,Result.andThen_ok,h3]

theorem qao (R:Rel fid M φ B s a w) {fn:Func} (hr:fn.results.toList.all (qhF P)=true) (hv:results (fn.results.toList.map (q5O P)) s=some v) : ∃ u,(Go.results fn a.tmps).run P w = .ok u w∧VRel fid M s.heap φ v u:=by
 unfold results at hv
 split at hv
 ·rename_i x hx
  cases hv
  obtain ⟨us,h1,h2⟩:=q6N R _ _ hr hx
  cases us with
  | nil=>have:=h2.1; simp at this
  | cons u us=>
   have h0:us=[]:=by have:=h2.1; simp at this; exact this
   subst h0
   refine ⟨u,?_,h2.head⟩
   simp only[qbR,Sem.run_bind,Array.mapM_eq_mapM_toList,Sem.run_map,h1,Result.andThen_ok,Sem.run_pure]
   rfl
 ·rename_i vs hne hvs
  cases hv
  obtain ⟨us,h1,h2⟩:=q6N R _ _ hr hvs
  refine ⟨.tuple us.toArray,?_,VRel.ofTups h2⟩
  simp only[qbR,Sem.run_bind,Array.mapM_eq_mapM_toList,Sem.run_map,h1,Result.andThen_ok,Sem.run_pure]
  rw[dif_neg]
  intro h
  have hl:vs.length=1:=by rw[h2.1]; simpa using h
  cases vs with
  | nil=>simp at hl
  | cons x xs=>
   cases xs with
   | nil=>exact hne x rfl
   | cons _ _=>simp at hl
 ·cases hv
end
end Ago
namespace Ago
open Go
variable {uT:Unit} [TabC uT]

section
variable {P:Program} {fid:FuncId→Option Nat} {pf:Nat→Bool} {s s':St} {l:List AOper}

theorem q9v {ops:Array Oper} {o:Oper} {c:AOper} (h:q2x P fid pf ops o=some c):(c.op = .bad∨q59 P fid pf o=some (c.op,c.args))∧c.dst=o.dst∧q9J ops o.guard=some c.guard:=by
 unfold q2x at h
 split at h
 ·rename_i hg
  cases h
  refine ⟨?_,rfl,by rw[hg]; rfl⟩
  cases hc:q59 P fid pf o with
  | none=>exact .inl rfl
  | some x=>exact .inr rfl
 ·rename_i j b hg
  split at h
  ·rename_i t ht
   cases h
   refine ⟨?_,rfl,by rw[hg]; simp [q9J,ht]⟩
   cases hc:q59 P fid pf o with
   | none=>exact .inl rfl
   | some x=>exact .inr rfl
  ·cases h

theorem q9E {ops:Array Oper} {i:Nat} {o:Oper} {c:AOper} (hi:ops[i]?=some o) (h:q2x P fid pf ops o=some c):OpAt P fid pf ops i o c:=by
 obtain ⟨h1,h2,h3⟩:=q9v h
 refine ⟨hi,h2,h3,?_⟩
 rcases h1 with h1 | h1
 ·exact .inl h1
 ·exact .inr ⟨c.op,h1,.inl rfl⟩

theorem q5x {ops:Array Oper} : ∀ (rest:List Oper) (k:Nat) (cs:List AOper),(∀ j,rest[j]?=ops[k+j]?)→q1L (q2x P fid pf ops) rest=some cs→qd7 P fid pf ops (List.range' k rest.length) cs
 | [],_,cs,_,h=>by cases h; trivial
 | o::rest,k,cs,hr,h=>by
  simp only[q1L] at h
  split at h
  ·cases h
  ·rename_i c hc
   split at h
   ·cases h
   ·rename_i cs' hcs
    cases h
    have h0:ops[k]?=some o:=by simpa using (hr 0).symm
    exact ⟨⟨o,q9E h0 hc⟩,q5x rest (k+1) cs' (fun j=>by have:=hr (j+1); simpa [KT,Nat.add_comm 1 j] using this) hcs⟩

theorem qm9 {id:Nat} {ops:Array Oper} (hl:q1L (q2x P fid pf ops) ops.toList=some l) (h:q1P P fid pf l s s') {M:Mem} {φ:Nat→Loc} {B:Nat} {a:Act} {w:World} (R:Rel fid M φ B s a w) (hb:s.base≤s.heap.length) {Q:Exit→Act→World→Prop}
  (hQ:qvV fid M φ B w s .normal s' Q):(Code.region id ops false).wp P Q a w:=by
 refine wp_region ?_
 have hm:=q5x (P:=P) (fid:=fid) (pf:=pf) ops.toList 0 l (fun j=>by simp) hl
 rw[←List.range_eq_range',VV] at hm
 refine h.2 ops _ hm M φ B a w R Q fun M' φ' a' w' R' E'=>hQ M' φ' a' w' R' (E'.mono hb) ?_
 exact Vc hb E'.later.hle.1
end
end Ago
namespace Ago
open Go
variable {uT:Unit} [TabC uT]

inductive OCore (R:Nat→List AV→Heap→AV→Heap→Prop) (PR:Nat→List AV→AV→Prop) (rb:Nat):AOp→List AV→Heap→AV→Heap→Prop where
 | pure {p:POp} {args:List AV} {H:Heap} {v:AV} (h:p.exec args=some v):OCore R PR rb (.pure p) args H v H
 | read {p:ROp} {args:List AV} {H:Heap} {v:AV} (h:p.exec args H=some v):OCore R PR rb (.read p) args H v H
 | new {p:NOp} {args:List AV} {H:Heap} {v:AV} {b:Blk} (h:p.exec args H.length=some (v,b)):OCore R PR rb (.new p) args H v (H++[b])
 | newAt {j:Nat} {p:NOp} {args:List AV} {H:Heap} {v:AV} {b:Blk} (h:p.exec args (rb+j)=some (v,b)) (hf:H[rb+j]?=some .resv):OCore R PR rb (.newAt j p) args H v (H.set (rb+j) b)
 | eff {p:EOp} {args:List AV} {H:Heap} {v:AV} {H':Heap} (h:p.exec args H=some (v,H')):OCore R PR rb (.eff p) args H v H'
 | call {f:Nat} {args:List AV} {H:Heap} {v:AV} {H':Heap} (h:R f args H v H'):OCore R PR rb (.call f) args H v H'
 | pcall {f:Nat} {args ts:List AV} {H:Heap} {v:AV} (ha:q1L (frz H 6) args=some ts) (h:PR f ts v):OCore R PR rb (.pcall f) args H v (q0L H args v)
 | callv {f:Nat} {all cap args:List AV} {H:Heap} {v:AV} {H':Heap} (ha:all = .fn f cap::args) (h:R f (args++cap) H v H'):OCore R PR rb .callv all H v H'

inductive OStep (R:Nat→List AV→Heap→AV→Heap→Prop) (PR:Nat→List AV→AV→Prop) (o:AOper) (s:St):St→Prop where
 | pass (hw:s.wanted o.guard=some false):OStep R PR o s (s.put o.dst undef s.heap)
 | go {v:AV} {H':Heap} (hw:s.wanted o.guard=some true) (h:OCore R PR s.rb o.op (o.args.map s.eval) s.heap v H'):OStep R PR o s (s.put o.dst v H')

inductive OSteps (R:Nat→List AV→Heap→AV→Heap→Prop) (PR:Nat→List AV→AV→Prop):List AOper→St→St→Prop where
 | nil (s:St):OSteps R PR [] s s
 | cons {o:AOper} {l:List AOper} {s s1 s':St} (h:OStep R PR o s s1) (hs:OSteps R PR l s1 s'):OSteps R PR (o::l) s s'

section
variable {R R':Nat→List AV→Heap→AV→Heap→Prop} {PR PR':Nat→List AV→AV→Prop}

theorem OCore.det (hR : ∀ f a H v H',R f a H v H'→∀ v2 H2,R' f a H v2 H2→v2=v∧H2=H') (hP : ∀ f ts v,PR f ts v→∀ v2,PR' f ts v2→v2=v) {rb:Nat} {op:AOp} {args:List AV} {H H1 H2:Heap} {v1 v2:AV}
  (h1:OCore R PR rb op args H v1 H1) (h2:OCore R' PR' rb op args H v2 H2):v2=v1∧H2=H1:=by
 cases h1 with
 | pure h=>cases h2 with | pure h'=>rw[h] at h'; cases h'; exact ⟨rfl,rfl⟩
 | read h=>cases h2 with | read h'=>rw[h] at h'; cases h'; exact ⟨rfl,rfl⟩
 | new h=>cases h2 with | new h'=>rw[h] at h'; cases h'; exact ⟨rfl,rfl⟩
 | newAt h hf=>cases h2 with | newAt h' hf'=>rw[h] at h'; cases h'; exact ⟨rfl,rfl⟩
 | eff h=>cases h2 with | eff h'=>rw[h] at h'; cases h'; exact ⟨rfl,rfl⟩
 | call h=>cases h2 with | call h'=>exact hR _ _ _ _ _ h _ _ h'
 | pcall ha h=>cases h2 with
  | pcall ha' h'=>
   rw[ha] at ha'
   cases ha'
   have:=hP _ _ _ h _ h'
   subst this
   exact ⟨rfl,rfl⟩
 | callv ha h=>cases h2 with
  | callv ha' h'=>
   rw[ha] at ha'
   cases ha'
   exact hR _ _ _ _ _ h _ _ h'

theorem OStep.det (hR : ∀ f a H v H',R f a H v H'→∀ v2 H2,R' f a H v2 H2→v2=v∧H2=H') (hP : ∀ f ts v,PR f ts v→∀ v2,PR' f ts v2→v2=v) {o:AOper} {s s1 s2:St}
  (h1:OStep R PR o s s1) (h2:OStep R' PR' o s s2):s2=s1:=by
 cases h1 with
 | pass hw=>cases h2 with
  | pass hw'=>rfl
  | go hw' _=>rw[hw] at hw'; cases hw'
 | go hw h=>cases h2 with
  | pass hw'=>rw[hw] at hw'; cases hw'
  | go hw' h'=>
   obtain ⟨rfl,rfl⟩:=h.det hR hP h'
   rfl

theorem OSteps.det (hR : ∀ f a H v H',R f a H v H'→∀ v2 H2,R' f a H v2 H2→v2=v∧H2=H') (hP : ∀ f ts v,PR f ts v→∀ v2,PR' f ts v2→v2=v) {l:List AOper} {s s1:St}
  (h1:OSteps R PR l s s1) : ∀ s2,OSteps R' PR' l s s2→s2=s1:=by
 induction h1 with
 | nil s=>intro s2 h2; cases h2; rfl
 | cons h hs ih=>
  intro s2 h2
  cases h2 with
  | cons h' hs'=>
   have:=h.det hR hP h'
   subst this
   exact ih _ hs'

theorem BS.ops_inv {C:Ctx} {o:AOper} {l:List AOper} {s s2:St} (h:BS C (.ops (o::l) s s2)) : ∃ s1,OStep (q1z C) (q0m C) o s s1∧BS C (.ops l s1 s2):=by
 obtain ⟨dst,op,args,g⟩:=o
 cases h with
 | pass hw h=>exact ⟨_,.pass hw,h⟩
 | pure hw ho hv h=>cases ho; exact ⟨_,.go hw (.pure hv),h⟩
 | read hw ho hv h=>cases ho; exact ⟨_,.go hw (.read hv),h⟩
 | new hw ho hv h=>cases ho; exact ⟨_,.go hw (.new hv),h⟩
 | newAt hw ho hv hf h=>cases ho; exact ⟨_,.go hw (.newAt hv hf),h⟩
 | eff hw ho hv h=>cases ho; exact ⟨_,.go hw (.eff hv),h⟩
 | call hw ho hv h=>cases ho; exact ⟨_,.go hw (.call hv),h⟩
 | pcall hw ho ha hr h=>cases ho; exact ⟨_,.go hw (.pcall ha hr),h⟩
 | callv hw ho ha hv h=>cases ho; exact ⟨_,.go hw (.callv ha hv),h⟩

theorem BS.ops_steps {C:Ctx} : ∀ {l:List AOper} {s s2:St},BS C (.ops l s s2)→OSteps (q1z C) (q0m C) l s s2
 | [],s,s2,h=>by cases h; exact .nil s
 | o::l,s,s2,h=>by
  obtain ⟨s1,h1,h2⟩:=h.ops_inv
  exact .cons h1 (BS.ops_steps h2)
end

section
variable {P:Program} {fid:FuncId→Option Nat} {pf:Nat→Bool} {R:Nat→List AV→Heap→AV→Heap→Prop} {PR:Nat→List AV→AV→Prop}

theorem q9X (hF:qb4 P fid) (hR : ∀ f a H v H',R f a H v H'→q3h P fid f a H v H') (hP : ∀ f ts v,PR f ts v→q2E P fid f ts v) {o:AOper} {l:List AOper} {s s1 s':St} (h:OStep R PR o s s1) (hs:q1P P fid pf l s1 s') :
  q1P P fid pf (o::l) s s':=by
 cases h with
 | pass hw=>exact qg3 hw hs
 | go hw h=>
  generalize hop:o.op=op at h
  generalize has:o.args.map s.eval=as at h
  cases h with
  | pure h=>subst has; exact qfZ hF hw hop h hs
  | read h=>subst has; exact qfN hF hw hop h hs
  | new h=>subst has; exact qiY hF hw hop h hs
  | newAt h hf=>subst has; exact qe0 hF hw hop h hf hs
  | eff h=>subst has; exact qhY hF hw hop h hs
  | call h=>subst has; exact qfD hF hw hop (hR _ _ _ _ _ h) hs
  | pcall ha h=>subst has; exact qdm hF hw hop ha (hP _ _ _ h) hs
  | callv ha h=>exact qeH hF hw hop (has.trans ha) (hR _ _ _ _ _ h) hs

theorem q7r (hF:qb4 P fid) (hR : ∀ f a H v H',R f a H v H'→q3h P fid f a H v H') (hP : ∀ f ts v,PR f ts v→q2E P fid f ts v) {l:List AOper} {s s':St} (h:OSteps R PR l s s'):q1P P fid pf l s s':=by
 induction h with
 | nil s=>exact qbS s
 | cons h _ ih=>exact q9X hF hR hP h ih
end
end Ago
namespace Ago
open Go
variable {uT:Unit} [TabC uT]

def AV.avoids (i:Nat) (v:AV):Prop:=∀ k,i∉AV.refsN k v

def q8v (i:Nat) (H:Heap):Prop:=∀ (r n:Nat) (els:List AV) (ro fl:Bool) (fam:Nat),H[r]?=some (Blk.row n els ro fl fam)→∀ x,x∈els→AV.avoids i x

theorem q66 {i:Nat} {cs:List AV} (h:AV.avoids i (.agg cs)) {x:AV} (hx:x∈cs):AV.avoids i x:=fun k hk=>h (k+1) (KR.2 ⟨x,hx,hk⟩)
theorem q6R {i:Nat} {cs:List AV} (h:AV.avoids i (.tup cs)) {x:AV} (hx:x∈cs):AV.avoids i x:=fun k hk=>h (k+1) (KR.2 ⟨x,hx,hk⟩)
theorem q6T {i f:Nat} {cs:List AV} (h:AV.avoids i (.fn f cs)) {x:AV} (hx:x∈cs):AV.avoids i x:=fun k hk=>h (k+1) (KR.2 ⟨x,hx,hk⟩)
theorem qdP {i:Nat} {e:AV} (h:AV.avoids i e) {x:AV} (hx:x∈e.cells):AV.avoids i x:=by
 cases e with
 | agg cs=>exact q66 h hx
 | _=>rw[Kx.1 hx]; exact h
theorem qfu {i n r j l:Nat} (h:AV.avoids i (.sref n r j l)):r≠i:=fun e=>h 1 (by simp [AV.refsN,e])
theorem qhZ {i n r j l:Nat} (h:AV.avoids i (.ptr n r j l)):r≠i:=fun e=>h 1 (by simp [AV.refsN,e])
theorem q27 {α β:Type} {f g:α→Option β} : ∀ {l:List α},(∀ x,x∈l→f x=g x)→q1L f l=q1L g l
 | [],_=>rfl
 | x::l,h=>by
  simp only[q1L,h x (Ku ..),q27 (fun y hy=>h y (Kt _ hy))]

theorem q1m {α β:Type} {f g:α→List β} : ∀ {l:List α},(∀ x,x∈l→f x=g x)→l.flatMap f=l.flatMap g
 | [],_=>rfl
 | x::l,h=>by
  simp only[VH,h x (Ku ..),q1m (fun y hy=>h y (Kt _ hy))]

theorem q39 {H:Heap} {i r:Nat} {b:Blk} (h:r≠i):(H.set i b)[r]?=H[r]?:=K0 (Ne.symm h)


theorem q8c {H:Heap} {i:Nat} {b:Blk} (hH:q8v i H) (hr:H[i]?=some .resv) : ∀ (k:Nat) (v:AV),AV.avoids i v →
  frz (H.set i b) k v=frz H k v∧q0q (H.set i b) k v=q0q H k v∧i∉q0q H k v:=by
 intro k
 induction k with
 | zero=>exact fun v _=>⟨rfl,rfl,by simp [q0q]⟩
 | succ k ih=>
  intro v hv
  cases v with
  | sref n r j len=>
   have hne:=qfu hv
   simp only[frz,q0q,q39 hne]
   cases hb:H[r]? with
   | none=>exact ⟨rfl,rfl,by simp⟩
   | some blk=>
    cases blk with
    | row n' els ro fl fam=>
     have hel : ∀ x,x∈(els.drop j).take len→AV.avoids i x:=fun x hx=>hH r n' els ro fl fam hb x (KW (KB hx))
     refine ⟨?_,?_,?_⟩
     ·simp only
      rw[q27 fun x hx=>(ih x (hel x hx)).1]
     ·simp only
      rw[q1m fun x hx=>(ih x (hel x hx)).2.1]
     ·simp only[KA,not_or]
      refine ⟨Ne.symm hne,?_⟩
      cases fl
      ·simp only[Km,if_false,KR,not_exists,not_and]
       exact fun x hx=>(ih x (hel x hx)).2.2
      ·simp
    | _=>exact ⟨rfl,rfl,by simp⟩
  | ptr n r j off=>
   have hne:=qhZ hv
   simp only[frz,q0q,q39 hne]
   cases hb:H[r]? with
   | none=>exact ⟨rfl,rfl,by simp⟩
   | some blk=>
    cases blk with
    | row n' els ro fl fam=>
     simp only
     cases he:els[j]? with
     | none=>
      refine ⟨rfl,rfl,?_⟩
      simp only[KA,not_or]
      exact ⟨Ne.symm hne,by cases fl<;>simp⟩
     | some e=>
      have hel : ∀ x,x∈e.cells→AV.avoids i x:=fun x hx=>qdP (hH r n' els ro fl fam hb e (Kc he)) hx
      simp only
      refine ⟨?_,?_,?_⟩
      ·rw[q27 fun x hx=>(ih x (hel x hx)).1]
      ·rw[q1m fun x hx=>(ih x (hel x hx)).2.1]
      ·simp only[KA,not_or]
       refine ⟨Ne.symm hne,?_⟩
       cases fl
       ·simp only[Km,if_false,KR,not_exists,not_and]
        exact fun x hx=>(ih x (hel x hx)).2.2
       ·simp
    | _=>exact ⟨rfl,rfl,by simp⟩
  | fn f cs=>
   simp only[frz,q0q]
   refine ⟨?_,?_,?_⟩
   ·rw[q27 fun x hx=>(ih x (q6T hv hx)).1]
   ·rw[q1m fun x hx=>(ih x (q6T hv hx)).2.1]
   ·simp only[KR,not_exists,not_and]
    exact fun x hx=>(ih x (q6T hv hx)).2.2
  | agg cs=>
   simp only[frz,q0q]
   refine ⟨?_,?_,?_⟩
   ·rw[q27 fun x hx=>(ih x (q66 hv hx)).1]
   ·rw[q1m fun x hx=>(ih x (q66 hv hx)).2.1]
   ·simp only[KR,not_exists,not_and]
    exact fun x hx=>(ih x (q66 hv hx)).2.2
  | tup cs=>
   simp only[frz,q0q]
   refine ⟨?_,?_,?_⟩
   ·rw[q27 fun x hx=>(ih x (q6R hv hx)).1]
   ·rw[q1m fun x hx=>(ih x (q6R hv hx)).2.1]
   ·simp only[KR,not_exists,not_and]
    exact fun x hx=>(ih x (q6R hv hx)).2.2
  | _=>exact ⟨rfl,rfl,by simp [q0q]⟩

def q9n (H H':Heap) (args:List AV):Prop:=
 ∀ v,v∈args→∀ r,r∈AV.refsN 1 v →
  (∀ {α:Type} (k:Nat→List AV→Bool→Nat→Option α),q75 H'[r]? (fun n els _ fl fam=>k n els fl fam)=q75 H[r]? (fun n els _ fl fam=>k n els fl fam)) ∧
  (∀ {α:Type} (k:List (AV × AV)→Option α),q8Z H'[r]? k=q8Z H[r]? k)

theorem qfG {H H':Heap} {args:List AV} (h:q9n H H' args) {n:Nat} {x:AV} (hx:x∈args):H'.elems n x=H.elems n x:=by
 cases x with
 | sref m r i len=>exact (h _ hx r (by simp [AV.refsN])).1 (fun n' els _ _=>if n'=n∧m=n∧i+len≤els.length then some ((els.drop i).take len) else none)
 | _=>rfl

theorem q63 {H H':Heap} {args:List AV} (h:q9n H H' args) (p:ROp):p.exec args H'=p.exec args H:=by
 cases p with
 | load sz=>
  simp only[ROp.exec,qjH]
  split
  ·rfl
  ·rename_i n r i off
   exact (h _ (Ku ..) r (by simp [AV.refsN])).1 (fun n' els _ _=>qcO n i off sz n' els)
  ·rfl
 | bytesStr=>
  simp only[ROp.exec,q5F]
  split
  ·rw[qfG h (Ku ..)]
  ·rfl
 | lenMap=>
  simp only[ROp.exec,qan]
  split
  ·rename_i r
   exact (h _ (Ku ..) r (by simp [AV.refsN])).2 _
  ·rfl
  ·rfl
 | lookup kk zero ok=>
  simp only[ROp.exec,q5n]
  split
  ·rename_i r k
   exact (h _ (Ku ..) r (by simp [AV.refsN])).2 _
  ·rfl
  ·rfl
 | lookupK sh zero ok=>
  simp only[ROp.exec,q7d]
  split
  ·rename_i m k
   split
   ·cases m with
    | mref r=>
     simp only[q5n]
     exact (h _ (Ku ..) r (by simp [AV.refsN])).2 _
    | _=>rfl
   ·rfl
  ·rfl
 | sliceArr len n lo hi=>
  simp only[ROp.exec,qay]
  split
  ·rename_i m r i off bs
   split
   ·rename_i l h' z hb
    exact (h _ (Ku ..) r (by simp [AV.refsN])).1 (fun n' els _ _=>if n'=n∧m=n∧off=0∧i+len≤els.length then some (if l<h' then AV.sref n r (i+l) (h'-l) else AV.tsl n []) else none)
   ·rfl
  ·rfl

theorem qeB {H:Heap} {i:Nat} {b:Blk} {args:List AV} (h : ∀ v,v∈args→AV.avoids i v):q9n H (H.set i b) args:=by
 intro v hv r hr
 have hne:r≠i:=fun e=>h v hv 1 (e▸hr)
 refine ⟨fun k=>?_,fun k=>?_⟩
 ·rw[q39 hne]
 ·rw[q39 hne]


theorem qhS {α:Type} (H:Heap) (rs:List Nat) (r:Nat) (k:Nat→List AV→Bool→Nat→Option α) :
  q75 (q1h H rs)[r]? (fun n els _ fl fam=>k n els fl fam)=q75 H[r]? (fun n els _ fl fam=>k n els fl fam):=by
 rw[q16]
 cases H[r]? with
 | none=>rfl
 | some b=>
  simp only[KM]
  split
  ·cases b<;>rfl
  ·rfl

theorem qiQ {α:Type} (H:Heap) (rs:List Nat) (r:Nat) (k:List (AV × AV)→Option α):q8Z (q1h H rs)[r]? k=q8Z H[r]? k:=by
 rw[q16]
 cases H[r]? with
 | none=>rfl
 | some b=>
  simp only[KM]
  split
  ·cases b<;>rfl
  ·rfl

theorem qbv (H:Heap) (rs:List Nat) (args:List AV):q9n H (q1h H rs) args:=fun v hv r hr=>⟨fun k=>qhS H rs r k,fun k=>qiQ H rs r k⟩

theorem qcx (H:Heap) (rs:List Nat) : ∀ (k:Nat) (v:AV),frz (q1h H rs) k v=frz H k v∧q0q (q1h H rs) k v=q0q H k v:=by
 intro k
 induction k with
 | zero=>exact fun v=>⟨rfl,rfl⟩
 | succ k ih=>
  have e1:frz (q1h H rs) k=frz H k:=funext fun v=>(ih v).1
  have e2:q0q (q1h H rs) k=q0q H k:=funext fun v=>(ih v).2
  intro v
  cases v with
  | sref n r j len=>
   simp only[frz,q0q,e1,e2,q16]
   cases H[r]? with
   | none=>exact ⟨rfl,rfl⟩
   | some b=>
    simp only[KM]
    generalize rs.contains r=c
    cases c<;>cases b<;>exact ⟨rfl,rfl⟩
  | ptr n r j off=>
   simp only[frz,q0q,e1,e2,q16]
   cases H[r]? with
   | none=>exact ⟨rfl,rfl⟩
   | some b=>
    simp only[KM]
    generalize rs.contains r=c
    cases c<;>cases b<;>exact ⟨rfl,rfl⟩
  | fn f cs=>simp only[frz,q0q,e1,e2]; exact ⟨trivial,trivial⟩
  | agg cs=>simp only[frz,q0q,e1,e2]; exact ⟨trivial,trivial⟩
  | tup cs=>simp only[frz,q0q,e1,e2]; exact ⟨trivial,trivial⟩
  | _=>exact ⟨rfl,rfl⟩

theorem qev (H:Heap) (rs:List Nat) (i:Nat):(q1h H rs)[i]?=some .resv↔H[i]?=some .resv:=by
 rw[q16]
 cases H[i]? with
 | none=>simp
 | some b=>
  simp only[KM,Kq]
  split
  ·cases b<;>simp [Blk.mark]
  ·rfl

theorem qkF (H:Heap) (rs rs':List Nat):q1h (q1h H rs) rs'=q1h (q1h H rs') rs:=by
 apply Vw
 intro i
 rw[q16,q16,q16,q16]
 cases H[i]? with
 | none=>rfl
 | some b=>
  simp only[KM,Kq]
  split<;>split<;>first | rfl | (cases b<;>rfl)

theorem qgu {H:Heap} {rs:List Nat} {i:Nat} {b:Blk} (h:i∉rs):q1h (H.set i b) rs=(q1h H rs).set i b:=by
 apply Vw
 intro r
 rw[q16]
 by_cases hri:r=i
 ·subst hri
  have:rs.contains r=false:=by simpa using h
  simp only[this,Km,if_false,Option.map_id']
  by_cases hlt:r<H.length
  ·rw[Ve hlt,Ve (by rw[q2t]; exact hlt)]
  ·rw[KQ (by simpa using hlt),KQ (by simpa [q2t] using hlt)]
 ·rw[q39 hri,q39 hri,q16]

def q4R (H:Heap) (args:List AV) (v:AV):List Nat:=if v.isPlain then [] else args.flatMap (q0q H 6)
theorem q1p (H:Heap) (args:List AV) (v:AV):q0L H args v=q1h H (q4R H args v):=by
 unfold q0L q4R
 cases v.isPlain<;>rfl


theorem qiK {p:NOp} {args:List AV} {id:Nat} {v:AV} (h:p.exec args id=some (v,.resv)):False:=by
 cases p<;>simp only[NOp.exec,qtW,qtx,q4o,q7n,qbL,qaI,qkN] at h<;>(repeat' split at h)<;>simp at h

section
variable {R:Nat→List AV→Heap→AV→Heap→Prop} {PR:Nat→List AV→AV→Prop}

def q5L:AOp→Nat
 | .pure _=>0
 | .read _=>1
 | .pcall _=>1
 | .newAt _ _=>3
 | _=>2

theorem qsP (o:AOper):o.cls=q5L o.op:=by
 unfold AOper.cls q5L
 cases o.op<;>rfl

def qjF (H:Heap) (args:List AV):Prop:=∀ i,H[i]?=some Blk.resv→q8v i H∧∀ v,v∈args→AV.avoids i v

theorem qls {rb:Nat} {x y:AOp} {ax ay:List AV} {H H1 H2:Heap} {v1 v2:AV} (hc:q5L x=0∨q5L y=0∨(q5L x≠2∧q5L y≠2)) (hx:qjF H ax) (hy:qjF H ay)
  (h1:OCore R PR rb x ax H v1 H1) (h2:OCore R PR rb y ay H1 v2 H2) : ∃ H1',OCore R PR rb y ay H v2 H1'∧OCore R PR rb x ax H1' v1 H2:=by
 cases h1 with
 | pure h=>exact ⟨_,h2,.pure h⟩
 | new h=>cases h2 with
  | pure h'=>exact ⟨_,.pure h',.new h⟩
  | _=>simp [q5L] at hc
 | eff h=>cases h2 with
  | pure h'=>exact ⟨_,.pure h',.eff h⟩
  | _=>simp [q5L] at hc
 | call h=>cases h2 with
  | pure h'=>exact ⟨_,.pure h',.call h⟩
  | _=>simp [q5L] at hc
 | callv ha h=>cases h2 with
  | pure h'=>exact ⟨_,.pure h',.callv ha h⟩
  | _=>simp [q5L] at hc
 | read h=>cases h2 with
  | pure h'=>exact ⟨_,.pure h',.read h⟩
  | read h'=>exact ⟨_,.read h',.read h⟩
  | pcall ha h'=>
   refine ⟨_,.pcall ha h',.read ?_⟩
   rw[q1p,q63 (qbv _ _ _)]
   exact h
  | newAt h' hf=>
   refine ⟨_,.newAt h' hf,.read ?_⟩
   rw[q63 (qeB (hx _ hf).2)]
   exact h
  | _=>simp [q5L] at hc
 | pcall ha h=>cases h2 with
  | pure h'=>exact ⟨_,.pure h',.pcall ha h⟩
  | read h'=>
   refine ⟨_,.read ?_,.pcall ha h⟩
   rw[q1p,q63 (qbv _ _ _)] at h'
   exact h'
  | pcall ha' h'=>
   rename_i f ts f' ts'
   rw[q1p] at ha'
   rw[q27 (fun z _=>(qcx H _ 6 z).1)] at ha'
   have e2 : ∀ v (as:List AV) rs,q4R (q1h H rs) as v=q4R H as v:=fun v as rs=>by
    unfold q4R
    rw[q1m (fun z _=>(qcx H rs 6 z).2)]
   refine ⟨_,.pcall ha' h',?_⟩
   have key:OCore R PR rb (.pcall f) ax (q0L H ay v2) v1 (q0L (q0L H ay v2) ax v1):=by
    refine .pcall ?_ h
    rw[q1p,q27 (fun z _=>(qcx H _ 6 z).1)]
    exact ha
   have e:q0L (q0L H ay v2) ax v1=q0L (q0L H ax v1) ay v2:=by
    simp only[q1p,e2]
    exact qkF _ _ _
   rw[e] at key
   exact key
  | newAt h' hf=>
   rename_i f ts j p b
   rw[q1p,qev] at hf
   obtain ⟨c1,c2⟩:=hx _ hf
   refine ⟨_,.newAt h' hf,?_⟩
   have key:OCore R PR rb (.pcall f) ax (H.set (rb+j) b) v1 (q0L (H.set (rb+j) b) ax v1):=by
    refine .pcall ?_ h
    rw[q27 (fun z hz=>(q8c c1 hf 6 z (c2 z hz)).1)]
    exact ha
   have e:q0L (H.set (rb+j) b) ax v1=(q0L H ax v1).set (rb+j) b:=by
    rw[q1p,q1p]
    have e2:q4R (H.set (rb+j) b) ax v1=q4R H ax v1:=by
     unfold q4R
     rw[q1m (fun z hz=>(q8c c1 hf 6 z (c2 z hz)).2.1)]
    rw[e2]
    refine qgu ?_
    unfold q4R
    split
    ·simp
    ·simp only[KR,not_exists,not_and]
     exact fun z hz=>(q8c (b:=b) c1 hf 6 z (c2 z hz)).2.2
   rw[e] at key
   exact key
  | _=>simp [q5L] at hc
 | newAt h hf=>cases h2 with
  | pure h'=>exact ⟨_,.pure h',.newAt h hf⟩
  | read h'=>
   refine ⟨_,.read ?_,.newAt h hf⟩
   rw[q63 (qeB (hy _ hf).2)] at h'
   exact h'
  | pcall ha' h'=>
   rename_i j p b f ts
   obtain ⟨c1,c2⟩:=hy _ hf
   rw[q27 (fun z hz=>(q8c c1 hf 6 z (c2 z hz)).1)] at ha'
   refine ⟨_,.pcall ha' h',?_⟩
   have key:OCore R PR rb (.newAt j p) ax (q0L H ay v2) v1 ((q0L H ay v2).set (rb+j) b):=by
    refine .newAt h ?_
    rw[q1p,qev]
    exact hf
   have e:q0L (H.set (rb+j) b) ay v2=(q0L H ay v2).set (rb+j) b:=by
    rw[q1p,q1p]
    have e2:q4R (H.set (rb+j) b) ay v2=q4R H ay v2:=by
     unfold q4R
     rw[q1m (fun z hz=>(q8c c1 hf 6 z (c2 z hz)).2.1)]
    rw[e2]
    refine qgu ?_
    unfold q4R
    split
    ·simp
    ·simp only[KR,not_exists,not_and]
     exact fun z hz=>(q8c (b:=b) c1 hf 6 z (c2 z hz)).2.2
   rw[e]
   exact key
  | newAt h' hf'=>
   rename_i j p b j' p' b'
   have hne:rb+j'≠rb+j:=fun e=>by
    rw[e,Ve (q0f hf)] at hf'
    cases hf'
    -- a block that is made is never a kept place
    rw[e] at h'
    exact qiK h
   rw[q39 hne] at hf'
   refine ⟨_,.newAt h' hf',?_⟩
   have key:OCore R PR rb (.newAt j p) ax (H.set (rb+j') b') v1 ((H.set (rb+j') b').set (rb+j) b):=.newAt h (by rw[q39 (Ne.symm hne)]; exact hf)
   rw[List.set_comm _ _ hne] at key
   exact key
  | _=>simp [q5L] at hc
end
end Ago
namespace Ago
open Go
variable {uT:Unit} [TabC uT]

def qit (s:St):Prop:=∀ i,s.heap[i]?=some Blk.resv→q8v i s.heap∧∀ v,v∈s.tmps→AV.avoids i v

section
variable {fid:FuncId→Option Nat} {M:Mem} {H:Heap} {φ:Nat→Loc} {B:Nat} {w:World}

theorem qc3 {i:Nat} (hr:H[i]?=some .resv) {x:AV} {u:Value} (h:VRel fid M H φ x u):AV.avoids i x:=by
 have pres : ∀ {r:Nat},Present H r→r≠i:=fun {r} hp e=>by
  obtain ⟨b,h1,h2⟩:=hp
  rw[e,hr] at h1
  exact h2 (K7 h1).symm
 have mem : ∀ {cs:List AV} {vs:Array Value},cs.length=vs.size→(∀ (j:Nat) (x:AV) (v:Value),cs[j]?=some x→vs[j]?=some v→AV.avoids i x)→∀ x,x∈cs→AV.avoids i x:=fun {cs vs} hl ih x hx=>by
  obtain ⟨j,hj,e⟩:=Vk.1 hx
  exact ih j x vs[j] (by rw[Ki hj,e]) (KU (hl▸hj))
 induction h with
 | sref n r j len cap a hc ha hp hs=>
  intro k
  cases k with
  | zero=>simp [AV.refsN]
  | succ k=>simpa [AV.refsN] using Ne.symm (pres hp)
 | ptr n r j off ad hp hs=>
  intro k
  cases k with
  | zero=>simp [AV.refsN]
  | succ k=>simpa [AV.refsN] using Ne.symm (pres hp)
 | mref r b hp hs=>
  intro k
  cases k with
  | zero=>simp [AV.refsN]
  | succ k=>simpa [AV.refsN] using Ne.symm (pres hp)
 | iref r b hp hs=>
  intro k
  cases k with
  | zero=>simp [AV.refsN]
  | succ k=>simpa [AV.refsN] using Ne.symm (pres hp)
 | agg cs vs hl hv ih=>
  intro k
  cases k with
  | zero=>simp [AV.refsN]
  | succ k=>
   simp only[AV.refsN,KR,not_exists,not_and]
   exact fun x hx=>mem hl (fun j x v h1 h2=>ih j x v h1 h2) x hx k
 | tup cs vs hl hv ih=>
  intro k
  cases k with
  | zero=>simp [AV.refsN]
  | succ k=>
   simp only[AV.refsN,KR,not_exists,not_and]
   exact fun x hx=>mem hl (fun j x v h1 h2=>ih j x v h1 h2) x hx k
 | fn f g cs vs hg hl hv ih=>
  intro k
  cases k with
  | zero=>simp [AV.refsN]
  | succ k=>
   simp only[AV.refsN,KR,not_exists,not_and]
   exact fun x hx=>mem hl (fun j x v h1 h2=>ih j x v h1 h2) x hx k
 | ifc t x v hv ih=>
  intro k
  cases k with
  | zero=>simp [AV.refsN]
  | succ k=>exact ih k
 | _=>intro k; cases k<;>simp [AV.refsN]

theorem qdp {s:St} {a:Act} (R:Rel fid M φ B s a w):qit s:=by
 intro i hi
 refine ⟨fun r n els ro fl fam hrow x hx=>?_,fun v hv=>?_⟩
 ·have W:=R.hp.row _ _ _ _ _ _ hrow
  obtain ⟨c,t,fr,_,_,_,hc⟩:=W.cells
  obtain ⟨j,hj,e⟩:=Vk.1 hx
  have hget:els[j]?=some x:=by rw[Ki hj,e]
  have hcell : ∀ y,y∈x.cells→AV.avoids i y:=fun y hy=>by
   obtain ⟨q,hq,e2⟩:=Vk.1 hy
   obtain ⟨u,_,h2⟩:=hc j x q y hget (by rw[Ki hq,e2])
   exact qc3 hi h2
  have h1:=(W.wide x hx).2
  cases x with
  | agg cs=>
   intro k
   cases k with
   | zero=>simp [AV.refsN]
   | succ k=>
    simp only[AV.refsN,KR,not_exists,not_and]
    exact fun y hy=>hcell y hy k
  | _=>exact hcell _ (by simp [AV.cells])
 ·obtain ⟨j,hj,e⟩:=Vk.1 hv
  obtain ⟨u,_,h2⟩:=q1i R.tm (i:=j) (x:=v) (by rw[Ki hj,e])
  exact qc3 hi h2
end

theorem qfy {i:Nat} {v:AV} (h:v.bare=true):AV.avoids i v:=by
 intro k
 cases v with
 | fn f cs=>
  cases cs with
  | nil=>cases k<;>simp [AV.refsN]
  | cons x xs=>cases h
 | agg cs=>
  cases k with
  | zero=>simp [AV.refsN]
  | succ k=>
   simp only[AV.refsN,KR,not_exists,not_and]
   intro y hy
   have h2:AV.bare1 y=true:=Kp.1 h y hy
   cases y<;>first | (cases k<;>simp [AV.refsN]; done) | cases h2
 | int=>cases k<;>simp [AV.refsN]
 | bool=>cases k<;>simp [AV.refsN]
 | str=>cases k<;>simp [AV.refsN]
 | nilp=>cases k<;>simp [AV.refsN]
 | nilf=>cases k<;>simp [AV.refsN]
 | nili=>cases k<;>simp [AV.refsN]
 | nilm=>cases k<;>simp [AV.refsN]
 | snil=>cases k<;>simp [AV.refsN]
 | _=>cases h

theorem qdg {s:St} (h:qit s) {o:AOper} (hb:o.bare=true):qjF s.heap (o.args.map s.eval):=by
 intro i hi
 obtain ⟨h1,h2⟩:=h i hi
 refine ⟨h1,fun v hv=>?_⟩
 obtain ⟨d,hd,rfl⟩:=KV.1 hv
 cases d with
 | t j=>
  show AV.avoids i (s.tmps.getD j undef)
  rw[Ko]
  cases hx:s.tmps[j]? with
  | none=>intro k; cases k<;>simp [undef,AV.refsN]
  | some x=>exact h2 x (Kc hx)
 | c v=>exact qfy (Kp.1 hb _ hd)

theorem q9j {s:St} {d:Option Nat} {v:AV} {H:Heap} {o:AOper} (h : ∀ x,d=some x→o.looks.contains x=false):o.args.map (s.put d v H).eval=o.args.map s.eval:=by
 refine V1 fun a ha=>?_
 cases d with
 | none=>cases a<;>rfl
 | some x=>
  cases a with
  | c v=>rfl
  | t i=>
   have hx:=h x rfl
   have hi:i∈o.looks:=by
    unfold AOper.looks
    exact List.mem_append_left _ (List.mem_filterMap.2 ⟨_,ha,rfl⟩)
   have hne:x≠i:=fun e=>by
    rw[e] at hx
    rw[Vv.2 hi] at hx
    cases hx
   show (s.tmps.set x v).getD i undef=s.tmps.getD i undef
   rw[Ko,Ko,K0 hne]

theorem q33 {s:St} {d:Option Nat} {v:AV} {H:Heap} {o:AOper} (h : ∀ x,d=some x→o.looks.contains x=false):(s.put d v H).wanted o.guard=s.wanted o.guard:=by
 cases hg:o.guard with
 | none=>rfl
 | some tb=>
  obtain ⟨t,b⟩:=tb
  cases d with
  | none=>rfl
  | some x=>
   have hx:=h x rfl
   have hi:t∈o.looks:=by
    unfold AOper.looks
    rw[hg]
    exact List.mem_append_right _ (by simp)
   have hne:x≠t:=fun e=>by
    rw[e] at hx
    rw[Vv.2 hi] at hx
    cases hx
   show St.wanted { s with tmps:=s.tmps.set x v,heap:=H } (some (t,b))=St.wanted s (some (t,b))
   simp only[St.wanted,K0 hne]

theorem q9h {s:St} {d1 d2:Option Nat} {v1 v2:AV} {H1 H2 H3:Heap} (h : ∀ x,d1=some x→d2≠some x):(s.put d1 v1 H1).put d2 v2 H3=(s.put d2 v2 H2).put d1 v1 H3:=by
 cases d1 with
 | none=>cases d2<;>rfl
 | some x=>
  cases d2 with
  | none=>rfl
  | some y=>
   have hne:x≠y:=fun e=>h x rfl (by rw[e])
   simp only[St.put,List.set_comm _ _ hne]

theorem qgT (s:St) (d:Option Nat) (v:AV) (H:Heap):(s.put d v H).rb=s.rb:=by cases d<;>rfl

theorem qhz {x y:AOper} (h:x.indep y=true) :
  (∀ d,x.dst=some d→y.looks.contains d=false)∧(∀ d,x.dst=some d→y.dst≠some d)∧(∀ d,y.dst=some d→x.looks.contains d=false)∧(q5L x.op=0∨q5L y.op=0∨(q5L x.op≠2∧q5L y.op≠2)):=by
 unfold AOper.indep at h
 simp only[Kk,qsP] at h
 obtain ⟨⟨h1,h2⟩,h3⟩:=h
 refine ⟨fun d hd=>?_,fun d hd=>?_,fun d hd=>?_,?_⟩
 ·rw[hd] at h1
  simp only[Kk,Bool.not_eq_true'] at h1
  exact h1.1
 ·rw[hd] at h1
  simp only[Kk,bne_iff_ne,ne_eq] at h1
  exact h1.2
 ·rw[hd] at h2
  simpa using h2
 ·simp only[K6,beq_iff_eq,Kk,bne_iff_ne,ne_eq] at h3
  rcases h3 with (h3 | h3) | h3
  ·exact .inl h3
  ·exact .inr (.inl h3)
  ·exact .inr (.inr h3)

section
variable {R:Nat→List AV→Heap→AV→Heap→Prop} {PR:Nat→List AV→AV→Prop}

theorem qkn {x y:AOper} {s s1 s2:St} (hi:x.indep y=true) (hc:qit s) (hbx:x.bare=true) (hby:y.bare=true) (h1:OStep R PR x s s1) (h2:OStep R PR y s1 s2) : ∃ s1',OStep R PR y s s1'∧OStep R PR x s1' s2:=by
 obtain ⟨i1,i2,i3,i4⟩:=qhz hi
 cases h1 with
 | pass hw=>
  cases h2 with
  | pass hw'=>
   rw[q33 i1] at hw'
   refine ⟨_,.pass hw',?_⟩
   rw[q49,q9h i2 (H2:=s.heap)]
   have:=OStep.pass (R:=R) (PR:=PR) (o:=x) (s:=s.put y.dst undef s.heap) (by rw[q33 i3]; exact hw)
   rw[q49] at this
   exact this
  | go hw' h'=>
   rw[q33 i1] at hw'
   rw[q9j i1,qgT,q49] at h'
   refine ⟨_,.go hw' h',?_⟩
   rename_i v' H'
   rw[q9h i2 (H2:=H')]
   have:=OStep.pass (R:=R) (PR:=PR) (o:=x) (s:=s.put y.dst v' H') (by rw[q33 i3]; exact hw)
   rw[q49] at this
   exact this
 | go hw h=>
  rename_i v H1
  cases h2 with
  | pass hw'=>
   rw[q33 i1] at hw'
   refine ⟨_,.pass hw',?_⟩
   rw[q49,q9h i2 (H2:=s.heap)]
   exact .go (by rw[q33 i3]; exact hw) (by rw[q9j i3,qgT,q49]; exact h)
  | go hw' h'=>
   rename_i v' H2
   rw[q33 i1] at hw'
   rw[q9j i1,qgT,q49] at h'
   obtain ⟨H1',k1,k2⟩:=qls i4 (qdg hc hbx) (qdg hc hby) h h'
   refine ⟨_,.go hw' k1,?_⟩
   rw[q9h i2 (H2:=H1')]
   exact .go (by rw[q33 i3]; exact hw) (by rw[q9j i3,qgT,q49]; exact k2)
end
end Ago
namespace Ago
open Go
variable {uT:Unit} [TabC uT]

inductive Topo (n:Nat) (aft:Nat→List Nat):(Nat→Prop)→List Nat→Prop where
 | nil {D:Nat→Prop} (h : ∀ i,i<n→D i):Topo n aft D []
 | cons {D:Nat→Prop} {i:Nat} {σ:List Nat} (hi:i<n) (hd : ¬ D i) (ha : ∀ j,j∈aft i→D j) (h:Topo n aft (fun x=>D x∨x=i) σ):Topo n aft D (i::σ)

inductive Anc (aft:Nat→List Nat):Nat→Nat→Prop where
 | one {j i:Nat} (h:i∈aft j):Anc aft j i
 | more {j m i:Nat} (h:m∈aft j) (h':Anc aft m i):Anc aft j i

def ClosedD (aft:Nat→List Nat) (D:Nat→Prop):Prop:=∀ j,D j→∀ i,i∈aft j→D i

section
variable {n:Nat} {aft:Nat→List Nat} {D:Nat→Prop} {σ:List Nat}

theorem qiy (hc:ClosedD aft D) {j i:Nat} (h:Anc aft j i):(∀ m,m∈aft j→D m)→D i:=by
 induction h with
 | one h=>exact fun hj=>hj _ h
 | more h _ ih=>exact fun hj=>ih fun m' hm'=>hc _ (hj _ h) _ hm'

theorem ClosedD.add (hc:ClosedD aft D) {i:Nat} (ha : ∀ j,j∈aft i→D j):ClosedD aft (fun x=>D x∨x=i):=by
 intro j hj m hm
 rcases hj with hj | rfl
 ·exact .inl (hc j hj m hm)
 ·exact .inl (ha m hm)

theorem qeC (h:Topo n aft D σ):ClosedD aft D→∀ {i:Nat},i<n→¬ D i→(∀ j,j∈aft i→D j) →
  ∃ τ ρ,σ=τ++i::ρ∧Topo n aft (fun x=>D x∨x=i) (τ++ρ)∧∀ j,j∈τ→j<n∧¬ D j∧j≠i∧¬ Anc aft j i:=by
 induction h with
 | nil h=>exact fun _ {i} hi hd _=>absurd (h i hi) hd
 | @cons D j σ hj hdj haj h ih=>
  intro hc i hi hd ha
  by_cases hji:j=i
  ·subst hji
   exact ⟨[],σ,rfl,h,fun j hj=>by cases hj⟩
  ·obtain ⟨τ,ρ,rfl,h2,h3⟩:=ih (hc.add haj) hi (fun h=>h.elim hd (fun e=>hji e.symm)) (fun m hm=>.inl (ha m hm))
   refine ⟨j::τ,ρ,rfl,.cons hj (fun h=>h.elim hdj hji) (fun m hm=>.inl (haj m hm)) ?_,fun m hm=>?_⟩
   ·have e:(fun x=>(D x∨x=i)∨x=j)=fun x=>(D x∨x=j)∨x=i:=funext fun x=>propext ⟨fun h=>by rcases h with (h | h) | h<;>simp [h],fun h=>by rcases h with (h | h) | h<;>simp [h]⟩
    rw[e]
    exact h2
   ·rcases KA.1 hm with rfl | hm
    ·exact ⟨hj,hdj,hji,fun hA=>hd (qiy hc hA haj)⟩
    ·obtain ⟨k1,k2,k3,k4⟩:=h3 m hm
     exact ⟨k1,fun h=>k2 (.inl h),k3,k4⟩

def q8Y (n:Nat) (done:List Nat):List Nat:=(List.range n).filter fun i=>!done.contains i

theorem q74 {done:List Nat} {i:Nat}:i∈q8Y n done↔i<n∧i∉done:=by
 simp [q8Y]

theorem q9B {p q:Nat→Bool} : ∀ {l:List Nat},(∀ i,i∈l→p i=true→q i=true)→∀ {i:Nat},i∈l→q i=true→p i=false→(l.filter p).length<(l.filter q).length
 | [],_,i,hi,_,_=>by cases hi
 | x::l,h,i,hi,h1,h2=>by
  have hle:(l.filter p).length≤(l.filter q).length:=by
   rw[←List.countP_eq_length_filter,←List.countP_eq_length_filter]
   exact List.countP_mono_left fun y hy hp=>h y (Kt _ hy) hp
  rcases KA.1 hi with rfl | hi
  ·rw[List.filter_cons_of_pos h1,List.filter_cons_of_neg (by simp [h2])]
   exact Nat.lt_succ_of_le hle
  ·have:=q9B (fun y hy=>h y (Kt _ hy)) hi h1 h2
   by_cases hp:p x=true
   ·rw[List.filter_cons_of_pos hp,List.filter_cons_of_pos (h x (Ku ..) hp)]
    exact Nat.succ_lt_succ this
   ·rw[List.filter_cons_of_neg hp]
    by_cases hq:q x=true
    ·rw[List.filter_cons_of_pos hq]
     exact Nat.lt_succ_of_lt this
    ·rw[List.filter_cons_of_neg hq]
     exact this

theorem qrW {done:List Nat} {i:Nat} (hi:i<n) (hd:i∉done):(q8Y n (done++[i])).length<(q8Y n done).length:=by
 refine q9B (i:=i) (fun j _ hj=>?_) (List.mem_range.2 hi) (by simpa using hd) (by simp)
 simp only[List.contains_eq_mem,Kv,Kx,Bool.not_eq_true',decide_eq_false_iff_not,not_or] at hj ⊢
 exact hj.1

theorem q5w (done:List Nat) (i:Nat):(fun x=>x∈done∨x=i)=fun x=>x∈done++[i]:=funext fun x=>propext (by simp)

variable {wait ind:Nat→Nat→Bool}

theorem q8G (k:Nat) (done:List Nat):q4m n aft wait ind (k+1) done =
  if (q8Y n done).isEmpty then [done]
  else
   match ((q8Y n done).filter fun i=>(aft i).all fun j=>done.contains j).find? fun i=>(q8Y n done).all fun j=>j == i || wait j i || ind i j with
   | some i=>q4m n aft wait ind k (done++[i])
   | none=>((q8Y n done).filter fun i=>(aft i).all fun j=>done.contains j).flatMap fun i=>q4m n aft wait ind k (done++[i]):=rfl

theorem q7a {done:List Nat} {i:Nat}:i∈(q8Y n done).filter (fun i=>(aft i).all fun j=>done.contains j)↔(i<n∧i∉done)∧∀ j,j∈aft i→j∈done:=by
 rw[V4,q74]
 simp

theorem q5W : ∀ (k:Nat) (done σ:List Nat),Topo n aft (fun x=>x∈done) σ→ClosedD aft (fun x=>x∈done)→∃ τ,done++τ∈q4m n aft wait ind k done
 | 0,done,σ,_,_=>⟨[],by simp [q4m]⟩
 | k+1,done,σ,h,hc=>by
  rw[q8G]
  split
  ·exact ⟨[],by simp⟩
  ·rename_i hne
   split
   ·rename_i i hf
    obtain ⟨⟨h1,h2⟩,h3⟩:=q7a.1 (VI hf)
    obtain ⟨τ,ρ,_,h4,_⟩:=qeC h hc h1 h2 h3
    rw[q5w] at h4
    have hc':=hc.add (i:=i) h3
    rw[q5w] at hc'
    obtain ⟨τ',h5⟩:=q5W k (done++[i]) _ h4 hc'
    exact ⟨i::τ',by simpa using h5⟩
   ·cases h with
    | nil h=>
     exact absurd (List.isEmpty_iff.2 (List.eq_nil_iff_forall_not_mem.2 fun i hi=>(q74.1 hi).2 (h i (q74.1 hi).1))) hne
    | @cons _ i σ hi hd ha h=>
     rw[q5w] at h
     have hc':=hc.add (i:=i) ha
     rw[q5w] at hc'
     obtain ⟨τ',h5⟩:=q5W k (done++[i]) _ h hc'
     exact ⟨i::τ',KR.2 ⟨i,q7a.2 ⟨⟨hi,hd⟩,ha⟩,by simpa using h5⟩⟩

section
variable {R:Nat→List AV→Heap→AV→Heap→Prop} {PR:Nat→List AV→AV→Prop} {g:Nat→AOper} {S:St→Prop}

theorem qoL (hS : ∀ s,S s→qit s) (hstep : ∀ i s s1,i<n→S s→OStep R PR (g i) s s1→S s1) (hb : ∀ i,i<n→(g i).bare=true) {i:Nat} (hi:i<n) : ∀ (τ ρ:List Nat) (s s1 s':St),S s→(∀ j,j∈τ→j<n∧(g i).indep (g j)=true) →
  OStep R PR (g i) s s1→OSteps R PR ((τ++ρ).map g) s1 s'→OSteps R PR ((τ++i::ρ).map g) s s'
 | [],ρ,s,s1,s',_,_,h1,h2=>.cons h1 h2
 | j::τ,ρ,s,s1,s',hs,hτ,h1,h2=>by
  cases h2 with
  | cons h3 h4=>
   obtain ⟨hj,hind⟩:=hτ j (Ku ..)
   obtain ⟨s2,k1,k2⟩:=qkn hind (hS s hs) (hb i hi) (hb j hj) h1 h3
   exact .cons k1 (qoL hS hstep hb hi τ ρ s2 _ s' (hstep j s s2 hj hs k1) (fun m hm=>hτ m (Kt _ hm)) k2 h4)

theorem qd4 (hR : ∀ f a H v H',R f a H v H'→∀ v2 H2,R f a H v2 H2→v2=v∧H2=H') (hP : ∀ f ts v,PR f ts v→∀ v2,PR f ts v2→v2=v)
  (hS : ∀ s,S s→qit s) (hstep : ∀ i s s1,i<n→S s→OStep R PR (g i) s s1→S s1) (hb : ∀ i,i<n→(g i).bare=true)
  (hw : ∀ j i,wait j i=true→Anc aft j i) (hind : ∀ i j,i<n→j<n→ind i j=true→(g i).indep (g j)=true) {s':St} :
  ∀ (k:Nat) (done:List Nat) (s:St),(q8Y n done).length≤k→ClosedD aft (fun x=>x∈done)→S s→(∀ τ,done++τ∈q4m n aft wait ind k done→OSteps R PR (τ.map g) s s') →
   ∀ σ,Topo n aft (fun x=>x∈done) σ→OSteps R PR (σ.map g) s s':=by
 have fin : ∀ (done σ:List Nat),q8Y n done=[]→Topo n aft (fun x=>x∈done) σ→σ=[]:=fun done σ he h=>by
  cases h with
  | nil _=>rfl
  | cons hi hd _ _=>
   have:=q74.2 ⟨hi,hd⟩
   rw[he] at this
   cases this
 intro k
 induction k with
 | zero=>
  intro done s hk _ _ hex σ hσ
  rw[fin done σ (KE (Nat.le_zero.1 hk)) hσ]
  exact hex [] (by simp [q4m])
 | succ k ih=>
  intro done s hk hc hs hex σ hσ
  rw[q8G] at hex
  split at hex
  ·rename_i he
   rw[fin done σ (List.isEmpty_iff.1 he) hσ]
   exact hex [] (by simp)
  ·-- one step,then the rest
   rename_i hne
   have go : ∀ i,i<n→i∉done→(∀ j,j∈aft i→j∈done)→(∀ τ,(done++[i])++τ∈q4m n aft wait ind k (done++[i])→OSteps R PR ((i::τ).map g) s s')→(∃ σ',Topo n aft (fun x=>x∈done++[i]) σ') →
     ∃ s1,OStep R PR (g i) s s1∧∀ σ',Topo n aft (fun x=>x∈done++[i]) σ'→OSteps R PR (σ'.map g) s1 s':=by
    intro i hi hd ha hx hσ'
    obtain ⟨σ0,h0⟩:=hσ'
    have hc':=hc.add (i:=i) ha
    rw[q5w] at hc'
    obtain ⟨τ0,ht0⟩:=q5W (wait:=wait) (ind:=ind) k (done++[i]) σ0 h0 hc'
    have:=hx τ0 ht0
    rw[Kd] at this
    cases this with
    | cons h1 h2=>
     rename_i s1
     refine ⟨s1,h1,ih (done++[i]) s1 ?_ hc' (hstep i s s1 hi hs h1) fun τ hτ=>?_⟩
     ·have:=qrW (n:=n) hi hd
      omega
     ·have:=hx τ hτ
      rw[Kd] at this
      cases this with
      | cons h3 h4=>
       have e:=h1.det hR hP h3
       subst e
       exact h4
   split at hex
   ·rename_i i hf
    obtain ⟨⟨h1,h2⟩,h3⟩:=q7a.1 (VI hf)
    obtain ⟨τ,ρ,rfl,h4,h5⟩:=qeC hσ hc h1 h2 h3
    rw[q5w] at h4
    obtain ⟨s1,k1,k2⟩:=go i h1 h2 h3 (fun τ hτ=>hex (i::τ) (by simpa using hτ)) ⟨_,h4⟩
    have hall:=List.find?_some hf
    refine qoL hS hstep hb h1 τ ρ s s1 s' hs (fun j hj=>?_) k1 (k2 _ h4)
    obtain ⟨j1,j2,j3,j4⟩:=h5 j hj
    have:=Kp.1 hall j (q74.2 ⟨j1,j2⟩)
    simp only[K6,beq_iff_eq] at this
    rcases this with (this | this) | this
    ·exact absurd this j3
    ·exact absurd (hw _ _ this) j4
    ·exact ⟨j1,hind i j h1 j1 this⟩
   ·cases hσ with
    | nil h=>exact absurd (List.isEmpty_iff.2 (List.eq_nil_iff_forall_not_mem.2 fun i hi=>(q74.1 hi).2 (h i (q74.1 hi).1))) hne
    | @cons _ i σ hi hd ha h=>
     rw[q5w] at h
     obtain ⟨s1,k1,k2⟩:=go i hi hd ha (fun τ hτ=>hex (i::τ) (KR.2 ⟨i,q7a.2 ⟨⟨hi,hd⟩,ha⟩,by simpa using hτ⟩)) ⟨_,h⟩
     exact .cons k1 (k2 _ h)
end
end


theorem qd9 : ∀ {l:List Nat} {i:Nat},i∈qrp l→i∈l
 | [],i,h=>h
 | x::xs,i,h=>by
  simp only[qrp] at h
  split at h
  ·exact Kt _ (qd9 h)
  ·rcases KA.1 h with rfl | h
   ·exact Ku ..
   ·exact Kt _ (qd9 h)

theorem qg1 (ops:Array Oper) {j i:Nat} (h:((qoz ops).getD j []).contains i=true):Anc (q6Y ops) j i:=by
 have key : ∀ m,let acc:=(List.range m).foldl (fun acc i=>acc++[qrp ((q6Y ops i).flatMap fun j=>j::acc.getD j [])]) ([]:List (List Nat))
   acc.length=m∧∀ j i,i∈acc.getD j []→Anc (q6Y ops) j i:=by
  intro m
  induction m with
  | zero=>exact ⟨rfl,fun j i h=>by simp at h⟩
  | succ m ih=>
   simp only[List.range_succ,List.foldl_append,Vz,List.foldl_nil] at ih ⊢
   obtain ⟨hl,ha⟩:=ih
   refine ⟨by rw[Kb,hl]; rfl,fun j i hi=>?_⟩
   rw[Ko,Vo] at hi
   split at hi
   ·exact ha j i (by rw[Ko]; exact hi)
   ·rename_i hge
    cases hjm:j-_ with
    | succ q=>rw[hjm] at hi; simp at hi
    | zero=>
     rw[hjm] at hi
     simp only[KZ,K8] at hi
     have hj:j=m:=by rw[hl] at hge hjm; omega
     subst hj
     obtain ⟨q,hq,hi⟩:=KR.1 (qd9 hi)
     rcases KA.1 hi with rfl | hi
     ·exact .one hq
     ·exact .more hq (ha q i hi)
 exact (key ops.size).2 j i (Vv.1 h)


theorem qcJ {l:Array Bool} {i j:Nat} (hi:i<l.size):(l.setIfInBounds i true).getD j false=true↔l.getD j false=true∨j=i:=by
 simp only[Array.getD_eq_getD_getElem?,Array.getElem?_setIfInBounds]
 by_cases h:i=j
 ·subst h
  simp [hi]
 ·simp [h,Ne.symm h]

theorem q4j {l:Array Bool} {i:Nat} (hi:i<l.size):l.getD i true=l.getD i false:=by
 simp only[Array.getD_eq_getD_getElem?,KU hi,K8]

theorem qeP {n:Nat} {p:Nat→Prop} [DecidablePred p] (h : ∃ i,i<n∧p i) : ∃ i,i<n∧p i∧∀ j,j<i→¬ p j:=by
 obtain ⟨i,hi,hp⟩:=h
 induction i using Nat.strongRecOn with
 | _ i ih=>
  by_cases hx : ∃ j,j<i∧p j
  ·obtain ⟨j,hj,hpj⟩:=hx
   exact ih j hj (by omega) hpj
  ·exact ⟨i,hi,hp,fun j hj hpj=>hx ⟨j,hj,hpj⟩⟩

theorem qqO {ops:Array Oper} (hlt : ∀ i,i<ops.size→∀ j,j∈q6Y ops i→j<i) : ∀ (fuel t:Nat) (listed:Array Bool) (acc:List Nat),listed.size=ops.size→((List.range ops.size).filter fun i=>!listed.getD i true).length≤fuel →
  ∃ σ,Region.linearise.go .any ops fuel t listed acc=acc.reverse++σ∧Topo ops.size (q6Y ops) (fun j=>listed.getD j false=true) σ:=by
 have allDone : ∀ listed:Array Bool,listed.size=ops.size→((List.range ops.size).filter fun i=>!listed.getD i true)=[]→Topo ops.size (q6Y ops) (fun j=>listed.getD j false=true) []:=fun listed hs he=>by
  refine .nil fun i hi=>?_
  rw[←q4j (hs▸hi)]
  cases hx:listed.getD i true with
  | true=>rfl
  | false=>
   have:i∈(List.range ops.size).filter fun i=>!listed.getD i true:=V4.2 ⟨List.mem_range.2 hi,by simp [hx]⟩
   rw[he] at this
   cases this
 intro fuel
 induction fuel with
 | zero=>exact fun t listed acc hs hc=>⟨[],by simp [Region.linearise.go],allDone listed hs (KE (Nat.le_zero.1 hc))⟩
 | succ fuel ih=>
  intro t listed acc hs hc
  unfold Region.linearise.go
  generalize hrs:((List.range ops.size).filter fun i=>!listed.getD i true && ((ops[i]?).map (·.after.all fun e=>!Region.binds .any e || listed.getD e.on false)).getD false)=rs
  have hmem : ∀ i,i∈rs↔i<ops.size∧listed.getD i false=false∧∀ j,j∈q6Y ops i→listed.getD j false=true:=fun i=>by
   rw[←hrs,V4,List.mem_range]
   constructor
   ·rintro ⟨h1,h2⟩
    simp only[Kk,Bool.not_eq_true'] at h2
    refine ⟨h1,by rw[←q4j (hs▸h1)]; exact h2.1,fun j hj=>?_⟩
    have h3:=h2.2
    unfold q6Y at hj
    rw[KU h1] at h3 hj
    simp only[KM,K8,Array.all_eq_true'] at h3
    simp only[KV,V4,Array.mem_toList_iff] at hj
    obtain ⟨e,⟨he1,he2⟩,rfl⟩:=hj
    have:=h3 e he1
    simpa [he2] using this
   ·rintro ⟨h1,h2,h3⟩
    refine ⟨h1,?_⟩
    rw[q4j (hs▸h1),h2,KU h1]
    simp only[KM,K8,Bool.not_false,Vt,Array.all_eq_true']
    intro e he
    cases hb:Region.binds .any e with
    | false=>rfl
    | true=>
     simp only[Bool.not_true,Vj]
     refine h3 _ ?_
     unfold q6Y
     rw[KU h1]
     simp only[KV,V4,Array.mem_toList_iff]
     exact ⟨e,⟨he,hb⟩,rfl⟩
  dsimp only
  split
  ·rename_i i hi
   obtain ⟨h1,h2,h3⟩:=(hmem i).1 (Kc hi)
   obtain ⟨σ,e,hσ⟩:=ih (t / rs.length) (listed.setIfInBounds i true) (i::acc) (by simpa using hs) (by
    have:((List.range ops.size).filter fun j=>!(listed.setIfInBounds i true).getD j true).length<((List.range ops.size).filter fun j=>!listed.getD j true).length:=by
     refine q9B (i:=i) (fun j hj hp=>?_) (List.mem_range.2 h1) (by rw[q4j (hs▸h1),h2]; rfl) (by rw[q4j (by simpa using hs▸h1)]; simp [(qcJ (j:=i) (hs▸h1)).2 (.inr rfl)])
     have hj':=List.mem_range.1 hj
     rw[q4j (by simpa [hs] using hj')] at hp
     rw[q4j (by simpa [hs] using hj')]
     simp only[Bool.not_eq_true'] at hp ⊢
     cases hx:listed.getD j false with
     | false=>rfl
     | true=>
      rw[(qcJ (j:=j) (hs▸h1)).2 (.inl hx)] at hp
      cases hp
    omega)
   refine ⟨i::σ,by rw[e]; simp,.cons h1 (by simp [h2]) h3 ?_⟩
   have e2:(fun x=>listed.getD x false=true∨x=i)=fun x=>(listed.setIfInBounds i true).getD x false=true:=funext fun x=>propext (qcJ (hs▸h1)).symm
   rw[e2]
   exact hσ
  ·rename_i hnone
   have hlen:rs.length=0:=by
    have:=List.getElem?_eq_none_iff.1 hnone
    by_cases h0:rs.length=0
    ·exact h0
    ·have:=Nat.mod_lt t (V6 h0)
     omega
   have hnil:=KE hlen
   refine ⟨[],by simp,?_⟩
   refine .nil fun i hi=>?_
   refine Classical.byContradiction fun hx=>?_
   obtain ⟨m,hm,hpm,hmin⟩:=qeP (p:=fun i=>¬ listed.getD i false=true) ⟨i,hi,hx⟩
   have:m∈rs:=(hmem m).2 ⟨hm,by simpa using hpm,fun j hj=>Classical.byContradiction fun hjj=>hmin j (hlt m hm j hj) hjj⟩
   rw[hnil] at this
   cases this

theorem qcq {ops:Array Oper} {mixed:Bool} (hm:(mixed || !Region.departs ops)=true) (hlt : ∀ i,i<ops.size→∀ j,j∈q6Y ops i→j<i) (t:Nat):Topo ops.size (q6Y ops) (fun x=>x∈([]:List Nat)) (Region.schedule mixed ops t):=by
 unfold Region.schedule
 rw[if_pos hm]
 obtain ⟨σ,e,h⟩:=qqO hlt ops.size t (Array.replicate ops.size false) [] (by simp) (by
  refine Vc (List.length_filter_le _ _) ?_
  simp)
 unfold Region.linearise
 rw[e]
 have e2:(fun j=>(Array.replicate ops.size false).getD j false=true)=fun x=>x∈([]:List Nat):=funext fun x=>propext (by
  simp only[Array.getD_eq_getD_getElem?,Array.getElem?_replicate]
  split<;>simp)
 rw[e2] at h
 simpa using h
end Ago
namespace Ago
open Go
variable {uT:Unit} [TabC uT]

def qvj (fid:FuncId→Option Nat) (s:St):Prop:=∃ M φ B a w,Rel fid M φ B s a w

section
variable {P:Program} {fid:FuncId→Option Nat} {pf:Nat→Bool} {R:Nat→List AV→Heap→AV→Heap→Prop} {PR:Nat→List AV→AV→Prop}

theorem qiH {s:St} (h:qvj fid s):qit s:=by
 obtain ⟨M,φ,B,a,w,h⟩:=h
 exact qdp h

theorem qkA (hF:qb4 P fid) (hR : ∀ f a H v H',R f a H v H'→q3h P fid f a H v H') (hP : ∀ f ts v,PR f ts v→q2E P fid f ts v) {ops:Array Oper} {i:Nat} {o:Oper} {c:AOper} (hat:OpAt P fid pf ops i o c) {s s1:St} (hs:qvj fid s)
  (h:OStep R PR c s s1):qvj fid s1:=by
 obtain ⟨M,φ,B,a,w,Rl⟩:=hs
 have hsim:=(q9X (pf:=pf) hF hR hP h (qbS s1)).2
 have:=hsim ops [i] ⟨⟨o,hat⟩,trivial⟩ M φ B a w Rl (fun _ a w=>∃ M φ B,Rel fid M φ B s1 a w) (fun M' φ' a' w' R' _=>⟨M',φ',B,R'⟩)
 obtain ⟨e,a',w',⟨M',φ',B',R'⟩,_⟩:=wp_ops [i] a w this (default:Frame) [] []
 exact ⟨M',φ',B',a',w',R'⟩

def qci (P:Program) (fid:FuncId→Option Nat) (pf:Nat→Bool) (ops:Array Oper) (draw:Bool) (k:Nat) (ls:List (List AOper)):Prop:=
 ∃ L,q1L (q2x P fid pf ops) ops.toList=some L∧((draw=false∧ls=[L])∨(draw=true∧(P.follows .mixedOrders || !Region.departs ops)=true∧(qbg 0 L).1=k∧q97 ops (qbg 0 L).2=some ls))

theorem qnM {code:Code} {l:List AOper} (h:q3a P fid pf code (.ops l)) : ∃ id ops draw k,code = .region id ops draw∧qci P fid pf ops draw k [l]:=by
 obtain ⟨x,h1,h2⟩:=h
 cases code with
 | region id ops draw=>
  simp only[comp] at h1
  split at h1
  ·rename_i L hL
   split at h1
   ·rename_i hd
    split at h1
    ·rename_i l' hk hls
     cases h1
     simp only[ACode.strip,ACode.ops.injEq] at h2
     subst h2
     split at hls
     ·rename_i hm
      exact ⟨id,ops,draw,0,rfl,L,hL,.inr ⟨hd,hm,hk,hls⟩⟩
     ·cases hls
    ·cases h1; cases h2
    ·cases h1
   ·rename_i hd
    cases h1
    simp only[ACode.strip,ACode.ops.injEq] at h2
    subst h2
    exact ⟨id,ops,draw,0,rfl,L,hL,.inl ⟨by simpa using hd,rfl⟩⟩
  ·cases h1
 | seq p q=>
  simp only[comp] at h1
  split at h1
  ·cases h1; cases h2
  ·cases h1
 | cond x p q=>
  simp only[comp] at h1
  split at h1
  ·cases h1; cases h2
  ·cases h1
 | block id p=>
  simp only[comp,Kg] at h1
  obtain ⟨y,_,rfl⟩:=h1
  cases h2
 | loop c=>
  simp only[comp,Kg] at h1
  obtain ⟨y,_,rfl⟩:=h1
  cases h2
 | skip=>cases h1; cases h2
 | scope p=>
  simp only[comp,Kg] at h1
  obtain ⟨y,_,rfl⟩:=h1
  cases h2
 | label l=>cases h1; cases h2
 | exit id=>cases h1; cases h2
 | ret=>cases h1; cases h2
 | _=>cases h1

theorem qkC {code:Code} {k:Nat} {ls:List (List AOper)} (h:q3a P fid pf code (.draw k ls)) : ∃ id ops,code = .region id ops true∧qci P fid pf ops true k ls:=by
 obtain ⟨x,h1,h2⟩:=h
 cases code with
 | region id ops draw=>
  simp only[comp] at h1
  split at h1
  ·rename_i L hL
   split at h1
   ·rename_i hd
    subst hd
    split at h1
    ·cases h1; cases h2
    ·rename_i ls' hls _
     cases h1
     simp only[ACode.strip,ACode.draw.injEq] at h2
     obtain ⟨h2,rfl⟩:=h2
     split at hls
     ·rename_i hm
      exact ⟨id,ops,rfl,L,hL,.inr ⟨rfl,hm,h2,hls⟩⟩
     ·cases hls
    ·cases h1
   ·cases h1; cases h2
  ·cases h1
 | seq p q=>
  simp only[comp] at h1
  split at h1
  ·cases h1; cases h2
  ·cases h1
 | cond x p q=>
  simp only[comp] at h1
  split at h1
  ·cases h1; cases h2
  ·cases h1
 | block id p=>
  simp only[comp,Kg] at h1
  obtain ⟨y,_,rfl⟩:=h1
  cases h2
 | loop c=>
  simp only[comp,Kg] at h1
  obtain ⟨y,_,rfl⟩:=h1
  cases h2
 | skip=>cases h1; cases h2
 | scope p=>
  simp only[comp,Kg] at h1
  obtain ⟨y,_,rfl⟩:=h1
  cases h2
 | label l=>cases h1; cases h2
 | exit id=>cases h1; cases h2
 | ret=>cases h1; cases h2
 | _=>cases h1

theorem qfX : ∀ (L:List AOper) (k i:Nat) (c:AOper),(qbg k L).2[i]?=some c→∃ c0,L[i]?=some c0∧c.dst=c0.dst∧c.args=c0.args∧c.guard=c0.guard∧(c.op=c0.op∨∃ j p,c0.op = .new p∧c.op = .newAt j p)
 | [],k,i,c,h=>by simp [qbg] at h
 | o::L,k,i,c,h=>by
  simp only[qbg] at h
  split at h
  ·rename_i p hp
   cases i with
   | zero=>
    simp only[KZ,Kq] at h
    subst h
    exact ⟨o,rfl,rfl,rfl,rfl,.inr ⟨k,p,hp,rfl⟩⟩
   | succ i=>exact qfX L _ i c (by simpa using h)
  ·cases i with
   | zero=>
    simp only[KZ,Kq] at h
    subst h
    exact ⟨o,rfl,rfl,rfl,rfl,.inl rfl⟩
   | succ i=>exact qfX L _ i c (by simpa using h)

theorem q72 : ∀ (L:List AOper) (k:Nat),(qbg k L).2.length=L.length
 | [],k=>rfl
 | o::L,k=>by
  simp only[qbg]
  split<;>simp [q72 L]

theorem qkJ {ops:Array Oper} {L:List AOper} (hL:q1L (q2x P fid pf ops) ops.toList=some L) {i:Nat} (hi:i<ops.size) : ∃ o,OpAt P fid pf ops i o ((qbg 0 L).2.getD i default):=by
 have hlen:(qbg 0 L).2.length=ops.size:=by rw[q72,q13 hL]; simp
 have hget:(qbg 0 L).2[i]?=some ((qbg 0 L).2[i]'(hlen▸hi)):=Ki (hlen▸hi)
 rw[Ko,hget,K8]
 obtain ⟨c0,h1,h2,h3,h4,h5⟩:=qfX L 0 i _ hget
 have hoi:ops.toList[i]?=some (ops[i]'hi):=by simp [hi]
 have hc:=q4G hL hoi h1
 obtain ⟨k1,k2,k3⟩:=q9v hc
 refine ⟨ops[i]'hi,by simp [hi],h2.trans k2,by rw[h4]; exact k3,?_⟩
 rcases k1 with k1 | k1
 ·left
  rcases h5 with h5 | ⟨j,p,h5,_⟩
  ·rw[h5,k1]
  ·rw[k1] at h5; cases h5
 ·exact .inr ⟨c0.op,by rw[h3]; exact k1,h5⟩

theorem q9O {ops:Array Oper} {g:Nat→AOper} (hg : ∀ i,i<ops.size→∃ o,OpAt P fid pf ops i o (g i)) : ∀ (σ:List Nat),(∀ i,i∈σ→i<ops.size)→qd7 P fid pf ops σ (σ.map g)
 | [],_=>trivial
 | i::σ,h=>⟨hg i (h i (Ku ..)),q9O hg σ fun j hj=>h j (Kt _ hj)⟩

theorem qec {L:List AOper} : ∀ {τ:List Nat} {l:List AOper},q1L (fun i=>L[i]?) τ=some l→l=τ.map fun i=>L.getD i default
 | [],l,h=>by cases h; rfl
 | i::τ,l,h=>by
  simp only[q1L] at h
  split at h
  ·cases h
  ·rename_i y hy
   split at h
   ·cases h
   ·rename_i ys hys
    cases h
    rw[Kd,←qec hys,Ko,hy,K8]

theorem qgn {α β:Type} {f:α→Option β} : ∀ {l:List α} {r:List β},q1L f l=some r→∀ x,x∈l→∃ y,y∈r∧f x=some y
 | [],_,_,x,hx=>by cases hx
 | z::l,r,h,x,hx=>by
  simp only[q1L] at h
  split at h
  ·cases h
  ·rename_i y hy
   split at h
   ·cases h
   ·rename_i ys hys
    cases h
    rcases KA.1 hx with rfl | hx
    ·exact ⟨y,Ku ..,hy⟩
    ·obtain ⟨y',h1,h2⟩:=qgn hys x hx
     exact ⟨y',Kt _ h1,h2⟩

theorem qr2 {n:Nat} {aft:Nat→List Nat} {D:Nat→Prop} {σ:List Nat} (h:Topo n aft D σ) : ∀ i,i∈σ→i<n:=by
 induction h with
 | nil _=>intro i hi; cases hi
 | cons hi _ _ _ ih=>
  intro j hj
  rcases KA.1 hj with rfl | hj
  ·exact hi
  ·exact ih j hj

theorem qnD (hF:qb4 P fid) (hR : ∀ f a H v H',R f a H v H'→q3h P fid f a H v H') (hP : ∀ f ts v,PR f ts v→q2E P fid f ts v)
  (hRd : ∀ f a H v H',R f a H v H'→∀ v2 H2,R f a H v2 H2→v2=v∧H2=H') (hPd : ∀ f ts v,PR f ts v→∀ v2,PR f ts v2→v2=v)
  {ops:Array Oper} {L:List AOper} {ls:List (List AOper)} {s s':St} (hL:q1L (q2x P fid pf ops) ops.toList=some L) (hm:(P.follows .mixedOrders || !Region.departs ops)=true) (hd:q97 ops (qbg 0 L).2=some ls)
  (hls : ∀ l,l∈ls→OSteps R PR l s s') {M:Mem} {φ:Nat→Loc} {B:Nat} {a:Act} {w:World} (Rl:Rel fid M φ B s a w) {Q:Exit→Act→World→Prop}
  (hQ : ∀ M' φ' a' w',Rel fid M' φ' B s' a' w'→Ext s.heap.length M M' s.heap s'.heap φ φ' B w w'→Q .normal a' w') (t:Nat):wpOps P ops Q (Region.schedule (P.follows .mixedOrders) ops t) a w:=by
 unfold q97 at hd
 split at hd
 ·rename_i hc
  simp only[Kk,Kp,List.mem_range,decide_eq_true_eq] at hc
  obtain ⟨hlt,hbare⟩:=hc
  have hlt' : ∀ i,i<ops.size→∀ j,j∈q6Y ops i→j<i:=hlt
  have hg : ∀ i,i<ops.size→∃ o,OpAt P fid pf ops i o ((qbg 0 L).2.getD i default):=fun i hi=>qkJ hL hi
  have hlen:(qbg 0 L).2.length=ops.size:=by rw[q72,q13 hL]; simp
  have hσ:=qcq hm hlt' t
  generalize Region.schedule (P.follows .mixedOrders) ops t=σ at hσ
  have hrun:OSteps R PR (σ.map fun i=>(qbg 0 L).2.getD i default) s s':=by
   refine qd4 (S:=qvj fid) hRd hPd (fun s h=>qiH h) (fun i s s1 hi hs h=>?_) (fun i hi=>?_) (fun j i h=>qg1 ops h) (fun i j _ _ h=>h) ops.size [] s (by unfold q8Y; exact Vc (List.length_filter_le _ _) (by simp)) (fun j hj=>by cases hj) ⟨M,φ,B,a,w,Rl⟩ (fun τ hτ=>?_) σ hσ
   ·obtain ⟨o,hat⟩:=hg i hi
    exact qkA hF hR hP hat hs h
   ·refine hbare _ ?_
    rw[Ko,Ki (hlen▸hi),K8]
    exact List.getElem_mem _
   ·obtain ⟨l,h1,h2⟩:=qgn hd τ hτ
    rw[←qec h2]
    exact hls l h1
  exact (q7r (pf:=pf) hF hR hP hrun).2 ops σ (q9O hg σ (qr2 hσ)) M φ B a w Rl Q hQ
 ·cases hd

theorem qkT {M:Mem} {φ:Nat→Loc} {B:Nat} {s:St} {a:Act} {w w':World} (Rl:Rel fid M φ B s a w) (hw:w'.heap=w.heap) (hbl:Bel B w w'):Rel fid M φ B s a w':=
 ⟨Rl.tm,Rl.hp.world fun b _=>by rw[hw],by rw[hw]; exact Rl.sz,Rl.df,TabC.mono Rl.tb hbl⟩

theorem qau (hF:qb4 P fid) (hR : ∀ f a H v H',R f a H v H'→q3h P fid f a H v H') (hP : ∀ f ts v,PR f ts v→q2E P fid f ts v)
  (hRd : ∀ f a H v H',R f a H v H'→∀ v2 H2,R f a H v2 H2→v2=v∧H2=H') (hPd : ∀ f ts v,PR f ts v→∀ v2,PR f ts v2→v2=v)
  {id:Nat} {ops:Array Oper} {draw:Bool} {k:Nat} {ls:List (List AOper)} {s s':St} (hreg:qci P fid pf ops draw k ls)
  (hls : ∀ l,l∈ls→OSteps R PR l s s') {M:Mem} {φ:Nat→Loc} {B:Nat} {a:Act} {w:World} (Rl:Rel fid M φ B s a w) {Q:Exit→Act→World→Prop}
  (hQ : ∀ M' φ' a' w',Rel fid M' φ' B s' a' w'→Ext s.heap.length M M' s.heap s'.heap φ φ' B w w'→Q .normal a' w'):(Code.region id ops draw).wp P Q a w:=by
 obtain ⟨L,hL,h | h⟩:=hreg
 ·obtain ⟨rfl,rfl⟩:=h
  refine wp_region ?_
  have hm:=q5x (P:=P) (fid:=fid) (pf:=pf) ops.toList 0 L (fun j=>by simp) hL
  rw[←List.range_eq_range',VV] at hm
  exact (q7r (pf:=pf) hF hR hP (hls L (Kx.2 rfl))).2 ops _ hm M φ B a w Rl Q hQ
 ·obtain ⟨rfl,hm,_,hd⟩:=h
  refine wp_region_draw fun t=>?_
  refine qnD hF hR hP hRd hPd hL hm hd hls (qkT (w':={ w with drawn:=w.drawn+1 }) Rl rfl ⟨RowKit.Below.drew (RowKit.Below.refl B w),Nat.le_succ _⟩) (fun M' φ' a' w' R' E'=>?_) t
  exact hQ M' φ' a' w' R' ⟨E'.mem,E'.new,E'.later,Bel.trans ⟨RowKit.Below.drew (RowKit.Below.refl B w),Nat.le_succ _⟩ E'.below⟩


theorem qn8 {s:St} {k r:Nat} {b:Blk} (h:(s.keep k).heap[r]?=some b):b = .resv∨s.heap[r]?=some b:=by
 simp only[St.keep,Vo] at h
 split at h
 ·exact .inr h
 ·rw[List.getElem?_replicate] at h
  split at h
  ·exact .inl (K7 h).symm
  ·cases h

theorem qgJ {s:St} {k r:Nat} {b:Blk} (h:s.heap[r]?=some b):(s.keep k).heap[r]?=some b:=by
 simp only[St.keep]
 rw[KG (q0f h)]
 exact h

theorem qfW (s:St) (k:Nat) (φ:Nat→Loc):HLe s.heap.length s.heap (s.keep k).heap φ φ:=
 ⟨by simp [St.keep],fun r b _ hb=>⟨b,qgJ hb,b.le_refl,fun h=>⟨h,rfl⟩⟩⟩

theorem qmw {M:Mem} {φ:Nat→Loc} {B:Nat} {s:St} {a:Act} {w:World} (Rl:Rel fid M φ B s a w) (k:Nat):Rel fid M φ B (s.keep k) a w:=by
 have hle:=qfW s k φ
 have old : ∀ {r b},(s.keep k).heap[r]?=some b→b≠Blk.resv→s.heap[r]?=some b:=fun h hn=>(qn8 h).resolve_left hn
 have h:=Rl.hp
 refine ⟨Rl.tm.mono (fun _ _ _ h=>h) hle,?_,Rl.sz,Rl.df,Rl.tb⟩
 refine ⟨h.mem,fun r n' els' ro' fl' fam' hr=>?_,fun r es hr=>?_,fun r r' n1 e1 o1 f1 a1 n2 e2 o2 f2 a2 hne h1 h2 hb=>?_,fun r r' es es' hne h1 h2=>?_,fun r n' els' ro' fl' fam' hr o u hm=>?_,fun r es hr o=>?_,h.bl.keep id (fun r s q hr=>⟨old hr (by simp),rfl⟩) (fun _ _ _ _ _ _ _ _ e=>e) (fun r n' els' ro' fl' fam' hr=>.inl ⟨r,_,_,_,_,_,old hr (by simp),rfl⟩) (fun _ _ v hm=>.inl ⟨v,hm⟩) fun _ _ _ _ _ _=>rfl⟩
 ·exact (h.row _ _ _ _ _ _ (old hr (by simp))).mono (fun _ _ _ h=>h) hle rfl
 ·exact (h.map _ _ (old hr (by simp))).mono (fun _ _ _ h=>h) hle rfl
 ·exact h.sepRR r r' _ _ _ _ _ _ _ _ _ _ hne (old h1 (by simp)) (old h2 (by simp)) hb
 ·exact h.sepMM r r' _ _ hne (old h1 (by simp)) (old h2 (by simp))
 ·obtain ⟨r2,els2,fl2,h1,h2,h3⟩:=h.ownR _ _ _ _ _ _ (old hr (by simp)) o u hm
  exact ⟨r2,els2,fl2,qgJ h1,h2,h3⟩
 ·exact h.ownM _ _ (old hr (by simp)) o

section
variable (hF:qb4 P fid) (hR : ∀ f a H v H',R f a H v H'→q3h P fid f a H v H') (hP : ∀ f ts v,PR f ts v→q2E P fid f ts v)
  (hRd : ∀ f a H v H',R f a H v H'→∀ v2 H2,R f a H v2 H2→v2=v∧H2=H') (hPd : ∀ f ts v,PR f ts v→∀ v2,PR f ts v2→v2=v)
include hF hR hP hRd hPd

omit hRd hPd in
theorem qak {l:List AOper} {s s':St} (h:OSteps R PR l s s'):s'.base=s.base:=by
 have:=(q7r (pf:=fun _=>false) hF hR hP h).1
 exact this

theorem qmg {l:List AOper} {s s':St} (h:OSteps R PR l s s'):SimX P fid pf (.ops l) s .normal s':=by
 refine ⟨qak hF hR hP h,fun code hc M φ B ac w Rl hb Q hQ=>?_⟩
 obtain ⟨id,ops,draw,k,rfl,hreg⟩:=qnM hc
 refine qau hF hR hP hRd hPd hreg (fun l' hl'=>by rw[Kx.1 hl']; exact h) Rl fun M' φ' a' w' R' E'=>?_
 exact hQ M' φ' a' w' R' (E'.mono hb) (Vc hb E'.later.hle.1)

theorem qku {k:Nat} {ls:List (List AOper)} {s s':St} (hne:ls≠[]) (h : ∀ l,l∈ls→OSteps R PR l (s.keep k) s'):SimX P fid pf (.draw k ls) s .normal { s' with rb:=0 }:=by
 have hbase:s'.base=s.base:=by
  cases ls with
  | nil=>exact (hne rfl).elim
  | cons l ls=>exact (qak hF hR hP (h l (Ku ..))).trans rfl
 refine ⟨hbase,fun code hc M φ B ac w Rl hb Q hQ=>?_⟩
 obtain ⟨id,ops,rfl,hreg⟩:=qkC hc
 refine qau hF hR hP hRd hPd hreg h (qmw Rl k) fun M' φ' a' w' R' E'=>?_
 have hkl:s.heap.length≤(s.keep k).heap.length:=(qfW s k φ).1
 have E2:Ext s.base M M' s.heap s'.heap φ φ' B w w':=by
  have E3:=E'.mono (Vc hb hkl)
  refine ⟨E3.mem,E3.new,?_,E3.below⟩
  exact ((qfW s k φ).mono hb).later.trans E3.later
 refine hQ M' φ' a' w' ⟨R'.tm,R'.hp,R'.sz,R'.df,R'.tb⟩ E2 ?_
 exact Vc hb (Vc hkl E'.later.hle.1)
end
end
end Ago
namespace Ago
open Go
variable {uT:Unit} [TabC uT]

section
variable {P:Program} {fid:FuncId→Option Nat} {pf:Nat→Bool}

def qmv (P:Program) (fid:FuncId→Option Nat) (pf:Nat→Bool) (code:Nat→Option AFn):Prop:=
 ∀ g f fn,fid g=some f→code f=some fn→∃ gf x,P.funcs[g]?=some gf∧q9U P fid pf gf=some x∧x.nt=fn.nt∧x.res=fn.res∧x.body.strip=fn.body.strip

theorem qbY {code:Nat→Option AFn} (h:qmv P fid pf code) {g f:Nat} {fn:AFn} (hg:fid g=some f) (hf:code f=some fn) :
  ∃ gf c,P.funcs[g]?=some gf∧gf.body=some c∧q3a P fid pf c fn.body∧gf.ntmps=fn.nt∧gf.results.toList.map (q5O P)=fn.res∧gf.results.toList.all (qhF P)=true:=by
 obtain ⟨gf,x,h1,h2,h3,h4,h5⟩:=h g f fn hg hf
 unfold q9U at h2
 split at h2
 ·rename_i c hc
  split at h2
  ·rename_i hr
   simp only[Kg] at h2
   obtain ⟨b,hb,rfl⟩:=h2
   exact ⟨gf,c,h1,hc,⟨b,hb,h5⟩,h3,h4,hr⟩
  ·cases h2
 ·cases h2

theorem qbD {M:Mem} {H:Heap} {φ:Nat→Loc} {args:List AV} {us:Array Value} (h:VRels fid M H φ args us.toList) (n:Nat) :
  VRels fid M H φ (args++List.replicate (n-args.length) undef) (us++Array.replicate (n-us.size) Go.undef).toList:=by
 have hl:args.length=us.size:=by simpa using h.1
 rw[Array.toList_append,Array.toList_replicate,hl]
 refine h.append ⟨by simp,fun i x v hx hv=>?_⟩
 rw[List.getElem?_replicate] at hx hv
 split at hx
 ·cases hx
  rw[if_pos (by assumption)] at hv
  cases hv
  exact q3s
 ·cases hx

theorem qlj {code:Nat→Option AFn} (hC:qmv P fid pf code) {f:Nat} {fn:AFn} {args:List AV} {H:Heap} {e:Ex} {s':St} {v:AV} (hf:code f=some fn) (hx:SimX P fid pf fn.body (enter fn args H) e s') (he:e = .normal∨e = .ret)
  (hr:results fn.res s'=some v):q3h P fid f args H ((q7P H.length v s'.heap).tmps.getD 0 .dead) (q7P H.length v s'.heap).heap:=by
 intro g hg M φ B us w hargs hH hB htb
 obtain ⟨gf,c,h1,h2,h3,h4,h5,h6⟩:=qbY hC hg hf
 refine calls_of_wp h1 h2 ?_
 have R0:Rel fid M φ B (enter fn args H) { tmps:=us++Array.replicate (gf.ntmps-us.size) Go.undef,defers:=[] } w:=⟨by
  show VRels fid M H φ (args++List.replicate (fn.nt-args.length) undef) _
  rw[h4]
  exact qbD hargs fn.nt,hH,hB,rfl,htb⟩
 have hbase:s'.base=H.length:=hx.1
 refine hx.toW c h3 M φ B _ w R0 (Kr _) _ fun M' φ' a' w' R' E' hb'=>?_
 obtain ⟨u,hu,hvu⟩:=qao R' h6 (by rw[h5]; exact hr)
 have Rt:Rel fid M' φ' B { tmps:=[v],heap:=s'.heap,base:=H.length } { a' with tmps := #[u] } w':=⟨VRels.cons hvu VRels.nil,R'.hp,R'.sz,R'.df,R'.tb⟩
 obtain ⟨φ2,Rn,Ln,hbn,hle⟩:=qgp Rt hb' [0]
 have hpost:a'.defers=[]∧∃ u,(Go.results gf a'.tmps).run P w' = .ok u w'∧∃ r,Ending.returned u = .returned r∧∃ M2 φ2,VRel fid M2 (q7P H.length v s'.heap).heap φ2 ((q7P H.length v s'.heap).tmps.getD 0 .dead) r∧HRel fid M2 (q7P H.length v s'.heap).heap φ2 B w'∧Ext H.length M M2 H (q7P H.length v s'.heap).heap φ φ2 B w w':=by
  refine ⟨R'.df,u,hu,u,rfl,M',φ2,?_,Rn.hp,⟨E'.mem,E'.new,E'.later.trans Ln,E'.below⟩⟩
  have ht:=Rn.tm
  have hlen:=ht.1
  cases htm:(q7P H.length v s'.heap).tmps with
  | nil=>
   have:(q7P H.length v s'.heap).tmps.length=1:=hlen
   rw[htm] at this
   cases this
  | cons x xs=>
   have h0:(q7P H.length v s'.heap).tmps[0]?=some x:=by rw[htm]; rfl
   exact ht.2 0 x u h0 rfl
 rcases he with rfl | rfl
 ·exact hpost
 ·exact hpost

theorem qix {code:Nat→Option AFn} (hC:qmv P fid pf code) {f:Nat} {fn:AFn} {ts:List AV} {e:Ex} {s':St} {u v:AV} (hf:code f=some fn) (hx:SimX P fid pf fn.body (enter fn ts []) e s') (he:e = .normal∨e = .ret)
  (hr:results fn.res s'=some u) (hv:frz s'.heap 6 u=some v):q2E P fid f ts v:=by
 intro g hg M φ us w hts hM htb
 obtain ⟨gf,c,h1,h2,h3,h4,h5,h6⟩:=qbY hC hg hf
 refine calls_of_wp h1 h2 ?_
 have H0:HRel fid M [] φ w.heap.size w:=⟨hM,fun r n els ro fl fam h=>by simp at h,fun r es h=>by simp at h,fun r r' n els ro fl fam n' els' ro' fl' fam' _ h=>by simp at h,fun r r' es es' _ h=>by simp at h,fun r n els ro fl fam h=>by simp at h,fun r es h=>by simp at h,.none⟩
 have R0:Rel fid M φ w.heap.size (enter fn ts []) { tmps:=us++Array.replicate (gf.ntmps-us.size) Go.undef,defers:=[] } w:=⟨by
  show VRels fid M [] φ (ts++List.replicate (fn.nt-ts.length) undef) _
  rw[h4]
  exact qbD hts fn.nt,H0,Kr _,rfl,htb⟩
 refine hx.toW c h3 M φ _ _ w R0 (Kr _) _ fun M' φ' a' w' R' E' hb'=>?_
 obtain ⟨r,hu,hvu⟩:=qao R' h6 (by rw[h5]; exact hr)
 have hV:=(qcs (M':=q0t M' s'.heap φ' w' (q0q s'.heap 6 u)) (rs:=q0q s'.heap 6 u) R'.hp (fun b o x hm=>q1n R'.hp hm) (fun q n els ro fl fam o x hq k1 k2 k3 k4=>q48 hq k1 k2 k3 k4) 6 (Kr _)).1 u v r hvu hv (fun q hq=>hq)
 have hpost:a'.defers=[]∧∃ u,(Go.results gf a'.tmps).run P w' = .ok u w'∧∃ r,Ending.returned u = .returned r∧∃ M2,VRel fid M2 [] φ v r∧(∀ b o x,M b o=some x→M2 b o=some x)∧(∀ b o x,M2 b o=some x→b<w.heap.size→M b o=some x) ∧
   (∀ b o x,M2 b o=some x→w'.cell? ⟨b,o,none⟩=some x)∧Bel w.heap.size w w':=by
  refine ⟨R'.df,r,hu,r,rfl,q0t M' s'.heap φ' w' (q0q s'.heap 6 u),hV.1.clad,fun b o x hm=>q1n R'.hp (E'.mem _ _ _ hm),fun b o x hm hb=>?_,fun b o x hm=>q1I hm,E'.below⟩
  have hcell:=q1I hm
  unfold q0t at hm
  split at hm
  ·rename_i hc
   rcases hc with hc | ⟨q,n,els,ro,fl,fam,k1,k2,k3,_⟩
   ·obtain ⟨x0,hx0⟩:=K3.1 hc
    have:=R'.hp.mem _ _ _ hx0
    rw[hcell] at this
    cases this
    exact E'.new _ _ _ hx0 hb
   ·have:=(R'.hp.row _ _ _ _ _ _ k2).base
    omega
  ·cases hm
 rcases he with rfl | rfl
 ·exact hpost
 ·exact hpost


structure CtxOk (P:Program) (fid:FuncId→Option Nat) (pf:Nat→Bool) (C:Ctx):Prop where
 fids:qb4 P fid
 coded:qmv P fid pf C.code
 prim : ∀ f args H v H',C.prim f args H v H'→C.code f=none∧q3h P fid f args H v H'∧∀ v2 H2,C.prim f args H v2 H2→v2=v∧H2=H'
 pprim : ∀ f ts v,C.pprim f ts v→C.code f=none∧q2E P fid f ts v∧∀ v2,C.pprim f ts v2→v2=v

def RR (P:Program) (fid:FuncId→Option Nat) (C:Ctx) (f:Nat) (args:List AV) (H:Heap) (v:AV) (H':Heap):Prop:=
 q3h P fid f args H v H'∧BS C (.run f args H v H')∧∀ v2 H2,BS C (.run f args H v2 H2)→v2=v∧H2=H'
def PP (P:Program) (fid:FuncId→Option Nat) (C:Ctx) (f:Nat) (ts:List AV) (v:AV):Prop:=
 q2E P fid f ts v∧BS C (.prun f ts v)∧∀ v2,BS C (.prun f ts v2)→v2=v

def JOk (P:Program) (fid:FuncId→Option Nat) (pf:Nat→Bool) (C:Ctx):J→Prop
 | .ops l s s'=>OSteps (RR P fid C) (PP P fid C) l s s'
 | .exec c s e s'=>SimX P fid pf c s e s'∧∀ e2 s2,BS C (.exec c s e2 s2)→e2=e∧s2=s'
 | .run f args H v H'=>RR P fid C f args H v H'
 | .prun f ts v=>PP P fid C f ts v

theorem qjS {C:Ctx} {l:List AOper} {s s':St} (h:OSteps (RR P fid C) (PP P fid C) l s s') {s2:St} (h2:BS C (.ops l s s2)):s2=s':=
 h.det (R':=q1z C) (PR':=q0m C) (fun f a H v H' h=>h.2.2) (fun f ts v h=>h.2.2) s2 h2.ops_steps

theorem ql1 {C:Ctx} (hC:CtxOk P fid pf C) {j:J} (h:BS C j):JOk P fid pf C j:=by
 have hR : ∀ f a H v H',RR P fid C f a H v H'→q3h P fid f a H v H':=fun _ _ _ _ _ h=>h.1
 have hP : ∀ f ts v,PP P fid C f ts v→q2E P fid f ts v:=fun _ _ _ h=>h.1
 have hRd : ∀ f a H v H',RR P fid C f a H v H'→∀ v2 H2,RR P fid C f a H v2 H2→v2=v∧H2=H':=fun _ _ _ _ _ h v2 H2 h'=>h.2.2 v2 H2 h'.2.1
 have hPd : ∀ f ts v,PP P fid C f ts v→∀ v2,PP P fid C f ts v2→v2=v:=fun _ _ _ h v2 h'=>h.2.2 v2 h'.2.1
 induction h with
 | prim h=>
  obtain ⟨h1,h2,h3⟩:=hC.prim _ _ _ _ _ h
  refine ⟨h2,.prim h,fun v2 H2 h'=>?_⟩
  cases h' with
  | prim h'=>exact h3 _ _ h'
  | run hf _ _ _=>rw[h1] at hf; cases hf
 | pprim h=>
  obtain ⟨h1,h2,h3⟩:=hC.pprim _ _ _ h
  refine ⟨h2,.pprim h,fun v2 h'=>?_⟩
  cases h' with
  | pprim h'=>exact h3 _ h'
  | prun hf _ _ _ _=>rw[h1] at hf; cases hf
 | nil s=>exact .nil s
 | pass hw _ ih=>exact .cons (.pass hw) ih
 | pure hw ho hv _ ih=>exact .cons (.go hw (ho ▸ .pure hv)) ih
 | read hw ho hv _ ih=>exact .cons (.go hw (ho ▸ .read hv)) ih
 | new hw ho hv _ ih=>exact .cons (.go hw (ho ▸ .new hv)) ih
 | newAt hw ho hv hf _ ih=>exact .cons (.go hw (ho ▸ .newAt hv hf)) ih
 | eff hw ho hv _ ih=>exact .cons (.go hw (ho ▸ .eff hv)) ih
 | call hw ho hv _ ihv ih=>exact .cons (.go hw (ho ▸ .call ihv)) ih
 | pcall hw ho ha hr _ ihr ih=>exact .cons (.go hw (ho ▸ .pcall ha ihr)) ih
 | callv hw ho ha hv _ ihv ih=>exact .cons (.go hw (ho ▸ .callv ha ihv)) ih
 | skip s=>
  refine ⟨qa1 (.inl ⟨rfl,rfl⟩),fun e2 s2 h'=>?_⟩
  cases h'
  exact ⟨rfl,rfl⟩
 | ops _ ih=>
  refine ⟨qmg hC.fids hR hP hRd hPd ih,fun e2 s2 h'=>?_⟩
  cases h' with
  | ops h'=>exact ⟨rfl,qjS ih h'⟩
 | @draw k ls s s' hne _ ih=>
  refine ⟨qku hC.fids hR hP hRd hPd hne ih,fun e2 s2 h'=>?_⟩
  cases h' with
  | draw _ h'=>
   cases ls with
   | nil=>exact (hne rfl).elim
   | cons l ls=>
    have:=qjS (ih l (Ku ..)) (h' l (Ku ..))
    subst this
    exact ⟨rfl,rfl⟩
 | seq _ _ ih1 ih2=>
  refine ⟨qm1 ih1.1 ih2.1,fun e2 s2 h'=>?_⟩
  cases h' with
  | seq h3 h4=>
   obtain ⟨_,rfl⟩:=ih1.2 _ _ h3
   exact ih2.2 _ _ h4
  | seqE h3 he=>exact absurd (ih1.2 _ _ h3).1 he
 | seqE _ he ih1=>
  refine ⟨qjP ih1.1 he,fun e2 s2 h'=>?_⟩
  cases h' with
  | seq h3 h4=>exact absurd (ih1.2 _ _ h3).1.symm he
  | seqE h3 _=>exact ih1.2 _ _ h3
 | condT hx _ ih=>
  refine ⟨qeM (t:=true) hx ih.1,fun e2 s2 h'=>?_⟩
  cases h' with
  | condT _ h'=>exact ih.2 _ _ h'
  | condF hx' _=>rw[hx] at hx'; cases hx'
 | condF hx _ ih=>
  refine ⟨qeM (t:=false) hx ih.1,fun e2 s2 h'=>?_⟩
  cases h' with
  | condF _ h'=>exact ih.2 _ _ h'
  | condT hx' _=>rw[hx] at hx'; cases hx'
 | block _ ih=>
  refine ⟨qil ih.1,fun e2 s2 h'=>?_⟩
  cases h' with
  | block h'=>
   obtain ⟨rfl,rfl⟩:=ih.2 _ _ h'
   exact ⟨rfl,rfl⟩
 | scope _ ih=>
  refine ⟨qhI ih.1,fun e2 s2 h'=>?_⟩
  cases h' with
  | scope h'=>exact ih.2 _ _ h'
 | loop _ _ ih1 ih2=>
  refine ⟨qk9 ih1.1 ih2.1,fun e2 s2 h'=>?_⟩
  cases h' with
  | loop h3 h4=>
   obtain ⟨_,rfl⟩:=ih1.2 _ _ h3
   exact ih2.2 _ _ h4
  | loopE h3 he=>exact absurd (ih1.2 _ _ h3).1 he
 | loopE _ he ih1=>
  refine ⟨qhN ih1.1 he,fun e2 s2 h'=>?_⟩
  cases h' with
  | loop h3 h4=>exact absurd (ih1.2 _ _ h3).1.symm he
  | loopE h3 _=>exact ih1.2 _ _ h3
 | exit id s=>
  refine ⟨qa1 (.inr (.inr ⟨id,rfl,rfl⟩)),fun e2 s2 h'=>?_⟩
  cases h'
  exact ⟨rfl,rfl⟩
 | ret s=>
  refine ⟨qa1 (.inr (.inl ⟨rfl,rfl⟩)),fun e2 s2 h'=>?_⟩
  cases h'
  exact ⟨rfl,rfl⟩
 | run hf h he hr ih=>
  refine ⟨qlj hC.coded hf ih.1 he hr,.run hf h he hr,fun v2 H2 h'=>?_⟩
  cases h' with
  | prim h'=>have:=(hC.prim _ _ _ _ _ h').1; rw[hf] at this; cases this
  | run hf' h' he' hr'=>
   rw[hf] at hf'
   cases hf'
   obtain ⟨rfl,rfl⟩:=ih.2 _ _ h'
   rw[hr] at hr'
   cases hr'
   exact ⟨rfl,rfl⟩
 | prun hf h he hr hv ih=>
  refine ⟨qix hC.coded hf ih.1 he hr hv,.prun hf h he hr hv,fun v2 h'=>?_⟩
  cases h' with
  | pprim h'=>have:=(hC.pprim _ _ _ h').1; rw[hf] at this; cases this
  | prun hf' h' he' hr' hv'=>
   rw[hf] at hf'
   cases hf'
   obtain ⟨rfl,rfl⟩:=ih.2 _ _ h'
   rw[hr] at hr'
   cases hr'
   rw[hv] at hv'
   cases hv'
   rfl
end
end Ago
namespace Ago
open Go
variable {uT:Unit} [TabC uT]

section
variable {P:Program} {fid:FuncId→Option Nat} {pf:Nat→Bool}

theorem qek {T e:TypeId} (hT:P.underlying T=some (.slice e)) (a:Option Addr) (l c:Nat) (x y:Operand) (w:World) :
  (do
    eqGuard .eql T x y (.slice a l c) (.slice none 0 0); binOp .eql T (.slice a l c) (.slice none 0 0):Sem Value).run P w = .ok (.bool a.isNone) w:=by
 have he0 : ∀ d:Nat,(Op.equalIn (d+1) T (.slice a l c) (.slice none 0 0)).run P w = .ok a.isNone w:=fun d=>by
  cases a with
  | none=>
   simp only[Op.equalIn,Sem.run_bind,run_underlying hT,Result.andThen_ok]
   rfl
  | some a=>
   simp only[Op.equalIn,Sem.run_bind,run_underlying hT,Result.andThen_ok]
   rfl
 have he:(Op.equal T (.slice a l c) (.slice none 0 0)).run P w = .ok a.isNone w:=he0 9999
 simp [eqGuard,binOp,he]

structure CloneOf (P:Program) (fid:FuncId→Option Nat) (pf:Nat→Bool) (fn:Func) (n bytes:Nat) (t e i0 i1 i2 i3 k:Nat) (r0 r1 r2 r3:Array Oper) (o0 o1:Oper):Prop where
 ty:P.underlying t=some (.slice e)
 body:fn.body=some (.seq (.region i0 r0 false) (.seq (.seq (.region i1 r1 false) (.cond (.tmp 4) (.seq (.region i2 r2 false) .ret) .skip)) (.seq (.region i3 r3 false) .ret)))
 nt:fn.ntmps=8
 res:fn.results = #[.tmp 2]
 c0:q1L (q2x P fid pf r0) r0.toList=some [⟨some 2,.pure .move,[.c (.snil n)],none⟩]
 e1:r1 = #[o0,o1]
 c1:q2x P fid pf r1 o0=some ⟨some 3,.pure .move,[.t 0],none⟩
 o1op:o1.op = .binOp .eql t (.tmp 3) (.const (.slice none 0 0)) k
 o1dst:o1.dst=some 4
 o1guard:o1.guard=none
 c2:q1L (q2x P fid pf r2) r2.toList=some [⟨some 2,.pure .move,[.c (.snil n)],none⟩]
 c3:q1L (q2x P fid pf r3) r3.toList=some [⟨some 5,.new (.buildSlice n [] []),[],none⟩,⟨some 6,.pure .move,[.t 0],none⟩,⟨some 7,.eff (.append n bytes),[.t 5,.t 6],none⟩,⟨some 2,.pure .move,[.t 7],none⟩]

abbrev noR:Nat→List AV→Heap→AV→Heap→Prop:=fun _ _ _ _ _=>False
abbrev noP:Nat→List AV→AV→Prop:=fun _ _ _=>False

theorem qlI (hF:qb4 P fid) {l:List AOper} {s s':St} (h:OSteps noR noP l s s'):q1P P fid pf l s s':=
 q7r hF (fun _ _ _ _ _ h=>h.elim) (fun _ _ _ h=>h.elim) h

theorem qj4 {fid:FuncId→Option Nat} {M:Mem} {H:Heap} {φ:Nat→Loc} {x:AV} {len cap:Nat} {n:Nat} {news:List AV} (hx:VRel fid M H φ x (.slice none len cap)) (hn:(H++[Blk.gone]).elems n x=some news):news=[]:=by
 cases hx with
 | dead=>cases hn
 | snil=>cases hn; rfl
 | tsl _ l _ _ _ b o vf hl hc ha hnn hm hv=>
  have h0:len=0:=by
   cases Nat.eq_zero_or_pos len with
   | inl h=>exact h
   | inr h=>have:=ha h; cases this
  rw[h0] at hl
  have:=KE hl
  subst this
  simp [Heap.elems] at hn
  exact hn
 | sref _ r i _ _ _ hc ha hp hs=>
  have h0:len=0:=by
   cases Nat.eq_zero_or_pos len with
   | inl h=>exact h
   | inr h=>have:=ha h; cases this
  subst h0
  simp only[Heap.elems] at hn
  obtain ⟨_,_,_,_,_,_,h⟩:=q3A hn
  split at h
  ·simpa using h.symm
  ·cases h

theorem qdM (H:Heap) (φ:Nat→Loc):HLe H.length H (H++[Blk.gone]) φ φ:=
 ⟨by simp,fun r b hr hb=>⟨b,by rw[KG hr]; exact hb,b.le_refl,fun h=>⟨h,rfl⟩⟩⟩

theorem qer (hF:qb4 P fid) {f n bytes:Nat} (hcl : ∀ g,fid g=some f→∃ fn t e i0 i1 i2 i3 k r0 r1 r2 r3 o0 o1,P.funcs[g]?=some fn∧CloneOf P fid pf fn n bytes t e i0 i1 i2 i3 k r0 r1 r2 r3 o0 o1)
  {x v:AV} {H H':Heap} (hx:q2D n bytes (H++[.gone]) [.snil n,x]=some (v,H')):q3h P fid f [x] H v H':=by
 intro g hg M φ B us w hargs hH hB htb
 obtain ⟨fn,t,e,i0,i1,i2,i3,k,r0,r1,r2,r3,o0,o1,hfn,hc⟩:=hcl g hg
 obtain ⟨u0,rfl⟩ : ∃ u0,us = #[u0]:=by
  have h1:=hargs.1
  simp at h1
  cases hus:us.toList with
  | nil=>rw[←VV,hus] at h1; simp at h1
  | cons u l=>
   have h2:us.toList.length=1:=by simpa using h1.symm
   rw[hus] at h2
   have:l=[]:=by simpa using h2
   subst this
   exact ⟨u,by rw[←Array.toArray_toList (xs:=us),hus]⟩
 have hxu:VRel fid M H φ x u0:=hargs.head
 -- what is read of it
 simp only[q2D,VM] at hx
 obtain ⟨news,hnews,happ⟩:=hx
 obtain ⟨a,len,cap,rfl⟩ : ∃ a len cap,u0 = .slice a len cap:=by
  cases hxu with
  | dead=>cases hnews
  | snil=>exact ⟨_,_,_,rfl⟩
  | tsl=>exact ⟨_,_,_,rfl⟩
  | sref=>exact ⟨_,_,_,rfl⟩
  | _=>cases hnews
 refine calls_of_wp hfn hc.body ?_
 let s0:St:={ tmps:=[x,undef,undef,undef,undef,undef,undef,undef],heap:=H,base:=H.length }
 have R0:Rel fid M φ B s0 { tmps := #[.slice a len cap]++Array.replicate (fn.ntmps-(#[Value.slice a len cap]:Array Value).size) Go.undef,defers:=[] } w:=by
  refine ⟨?_,hH,hB,rfl,htb⟩
  rw[hc.nt]
  exact VRels.cons hxu (VRels.cons q3s (VRels.cons q3s (VRels.cons q3s (VRels.cons q3s (VRels.cons q3s (VRels.cons q3s (VRels.cons q3s VRels.nil)))))))
 refine wp_seq ?_
 -- region 0
 have S0:q1P P fid pf [⟨some 2,.pure .move,[.c (.snil n)],none⟩] s0 (s0.put (some 2) (.snil n) H):=qlI hF (.cons (.go rfl (.pure rfl)) (.nil _))
 refine qm9 hc.c0 S0 R0 (Kr _) fun M1 φ1 a1 w1 R1 E1 hb1=>?_
 show Code.wp P _ _ a1 w1
 refine wp_seq (wp_seq ?_)
 -- region 1
 refine wp_region ?_
 rw[hc.e1]
 have hat0:OpAt P fid pf #[o0,o1] 0 o0 ⟨some 3,.pure .move,[.t 0],none⟩:=by
  have:=hc.c1
  rw[hc.e1] at this
  exact q9E rfl this
 obtain ⟨op0,k1,k2⟩:=hat0.real (by intro h0; cases h0)
 rcases k2 with k2 | ⟨_,_,_,k2⟩
 ·have hs:=q7T hF R1 k1
  rw[←k2] at hs
  obtain ⟨r,k3,k4⟩:=hs x rfl
  show wpOps P #[o0,o1] _ [0,1] a1 w1
  refine q2U hat0.at_ (q2b R1 hat0.guard rfl) k3 (.inl rfl) ?_
  have R2:=R1.put (fun _ _ _ h=>h) (HLe.refl _ _ _) R1.hp k4 (Bel.refl _ _) (some 3)
  rw[show o0.dst=some 3 from hat0.dst.symm]
  -- the comparison
  generalize ha2:a1.put (some 3) r=a2 at R2
  have hx3:VRel fid M1 (s0.put (some 2) (.snil n) H).heap φ1 x (a2.eval (.tmp 3)):=qfV P R2 3
  obtain ⟨a',len',cap',hu3⟩ : ∃ a' len' cap',a2.eval (.tmp 3) = .slice a' len' cap':=by
   generalize a2.eval (.tmp 3)=u3 at hx3
   cases hx3 with
   | dead=>cases hnews
   | snil=>exact ⟨_,_,_,rfl⟩
   | tsl=>exact ⟨_,_,_,rfl⟩
   | sref=>exact ⟨_,_,_,rfl⟩
   | _=>cases hnews
  rw[hu3] at hx3
  have hrun:(execOp a2.eval o1).run P w1 = .ok (.value (.bool a'.isNone)) w1:=by
   refine q2S (s:=(do eqGuard .eql t (.tmp 3) (.const (.slice none 0 0)) (a2.eval (.tmp 3)) (a2.eval (.const (.slice none 0 0))); binOp .eql t (a2.eval (.tmp 3)) (a2.eval (.const (.slice none 0 0))):Sem Value)) (by simp only[execOp,hc.o1op]) ?_
   rw[hu3]
   exact qek hc.ty a' len' cap' _ _ w1
  refine q2U (i:=1) (o:=o1) rfl (by simp [Region.wanted,hc.o1guard]) hrun (.inl rfl) ?_
  rw[hc.o1dst]
  have R3:=R2.put (fun _ _ _ h=>h) (HLe.refl _ _ _) R2.hp (.bool a'.isNone) (Bel.refl _ _) (some 4)
  generalize a2.put (some 4) (.bool a'.isNone)=a3 at R3
  show (Code.cond (.tmp 4) (.seq (.region i2 r2 false) .ret) .skip).wp P _ a3 w1
  let C:Ctx:={ code:=fun _=>none,prim:=noR,pprim:=noP }
  have hC:CtxOk P fid pf C:=⟨hF,fun _ _ _ _ h=>(by cases h),fun _ _ _ _ _ h=>h.elim,fun _ _ _ h=>h.elim⟩
  let s3:Bool→St:=fun b=>{ tmps:=[x,undef,.snil n,x,.bool b,undef,undef,undef],heap:=H,base:=H.length }
  have hcomp:q3a P fid pf (.cond (.tmp 4) (.seq (.region i2 r2 false) .ret) .skip) (.cond (.t 4) (.seq (.ops [⟨some 2,.pure .move,[.c (.snil n)],none⟩]) .ret) .skip):=⟨_,by simp [comp,qdr,hc.c2],rfl⟩
  have hres:fn.results.toList.all (qhF P)=true:=by rw[hc.res]; rfl
  have fin : ∀ (s4:St) (M4:Mem) (φ4:Nat→Loc) (a4:Act) (w4:World),s4.tmps.getD 2 undef=v→s4.heap=H'→Rel fid M4 φ4 B s4 a4 w4→Ext H.length M M4 H s4.heap φ φ4 B w w4 →
    a4.defers=[]∧∃ u,(Go.results fn a4.tmps).run P w4 = .ok u w4∧∃ r,Ending.returned u = .returned r∧∃ M2 φ2,VRel fid M2 H' φ2 v r∧HRel fid M2 H' φ2 B w4∧Ext H.length M M2 H H' φ φ2 B w w4:=by
   intro s4 M4 φ4 a4 w4 hv4 hh4 R4 E4
   obtain ⟨u,hu,hvu⟩:=qao (P:=P) (v:=v) R4 hres (by rw[hc.res]; simp only[List.map,q5O,results,q1L,q6v,hv4])
   rw[hh4] at hvu E4
   have:=R4.hp
   rw[hh4] at this
   exact ⟨R4.df,u,hu,u,rfl,M4,φ4,hvu,this,E4⟩
  cases ha':a' with
  | none=>
   subst ha'
   have hn0:=qj4 (n:=n) hx3 hnews
   subst hn0
   have hv:v = .snil n∧H'=H++[.gone]:=by
    simp only[Heap.append,q3t,List.length_nil,Nat.zero_mul,Kn,and_self,if_true,Kq,Vm] at happ
    exact ⟨happ.1.symm,happ.2.symm⟩
   obtain ⟨rfl,rfl⟩:=hv
   have X:SimX P fid pf (.cond (.t 4) (.seq (.ops [⟨some 2,.pure .move,[.c (.snil n)],none⟩]) .ret) .skip) (s3 true) .ret (s3 true):=(ql1 hC (j:=.exec _ _ _ _) (.condT rfl (.seq (.ops (.pure rfl rfl rfl (.nil _))) (.ret _)))).1
   refine X.toW _ hcomp M1 φ1 B a3 w1 R3 (Kr _) _ fun M4 φ4 a4 w4 R4 E4 hb4=>?_
   have E:=E1.trans (k:=H.length) E4
   have R5:Rel fid M4 φ4 B { tmps:=(s3 true).tmps,heap:=H++[.gone],base:=H.length } a4 w4:=⟨R4.tm.mono (fun _ _ _ h=>h) (qdM H φ4),R4.hp.placeGone (Placed.push H .gone),R4.sz,R4.df,R4.tb⟩
   exact fin { tmps:=(s3 true).tmps,heap:=H++[.gone],base:=H.length } M4 φ4 a4 w4 rfl rfl R5 ⟨E.mem,E.new,E.later.trans ((qdM H φ4).mono (Kr _)).later,E.below⟩
  | some ad=>
   subst ha'
   have X:SimX P fid pf (.cond (.t 4) (.seq (.ops [⟨some 2,.pure .move,[.c (.snil n)],none⟩]) .ret) .skip) (s3 false) .normal (s3 false):=(ql1 hC (j:=.exec _ _ _ _) (.condF rfl (.skip _))).1
   refine X.toW _ hcomp M1 φ1 B a3 w1 R3 (Kr _) _ fun M4 φ4 a4 w4 R4 E4 hb4=>?_
   have hcomp3:q3a P fid pf (.seq (.region i3 r3 false) .ret) (.seq (.ops [⟨some 5,.new (.buildSlice n [] []),[],none⟩,⟨some 6,.pure .move,[.t 0],none⟩,⟨some 7,.eff (.append n bytes),[.t 5,.t 6],none⟩,⟨some 2,.pure .move,[.t 7],none⟩]) .ret):=⟨_,by simp [comp,hc.c3],rfl⟩
   have hap:EOp.exec (.append n bytes) [.snil n,x] (H++[.gone])=some (v,H'):=by
    simp only[EOp.exec,q2D,hnews,VK]
    exact happ
   have X3:SimX P fid pf (.seq (.ops [⟨some 5,.new (.buildSlice n [] []),[],none⟩,⟨some 6,.pure .move,[.t 0],none⟩,⟨some 7,.eff (.append n bytes),[.t 5,.t 6],none⟩,⟨some 2,.pure .move,[.t 7],none⟩]) .ret) (s3 false) .ret
     { tmps:=[x,undef,v,x,.bool false,.snil n,x,v],heap:=H',base:=H.length }:=
    (ql1 hC (j:=.exec _ _ _ _) (.seq (.ops (.new (v:=.snil n) (b:=.gone) rfl rfl rfl (.pure (v:=x) rfl rfl rfl (.eff (v:=v) (H':=H') rfl rfl hap (.pure (v:=v) rfl rfl rfl (.nil _)))))) (.ret _))).1
   show (Code.seq (.region i3 r3 false) .ret).wp P _ a4 w4
   refine X3.toW _ hcomp3 M4 φ4 B a4 w4 R4 (Kr _) _ fun M5 φ5 a5 w5 R5 E5 hb5=>?_
   exact fin _ M5 φ5 a5 w5 rfl rfl R5 ((E1.trans (k:=H.length) E4).trans E5)
 ·cases k2

theorem qbh {f:Nat} {ts:List AV} {v u:AV} {H':Heap} (h:q3h P fid f ts [] v H') (hv:frz H' 6 v=some u):q2E P fid f ts u:=by
 intro g hg M φ us w hts hM htb
 have H0:HRel fid M [] φ w.heap.size w:=⟨hM,fun r n els ro fl fam h=>by simp at h,fun r es h=>by simp at h,fun r r' n els ro fl fam n' els' ro' fl' fam' _ h=>by simp at h,fun r r' es es' _ h=>by simp at h,fun r n els ro fl fam h=>by simp at h,fun r es h=>by simp at h,.none⟩
 refine (h g hg M φ w.heap.size us w hts H0 (Kr _) htb).mono fun e w' he=>?_
 obtain ⟨r,rfl,M',φ',hvu,hH',E'⟩:=he
 have hV:=(qcs (M':=q0t M' H' φ' w' (q0q H' 6 v)) (rs:=q0q H' 6 v) hH' (fun b o x hm=>q1n hH' hm) (fun q n els ro fl fam o x hq k1 k2 k3 k4=>q48 hq k1 k2 k3 k4) 6 (Kr _)).1 v u r hvu hv (fun q hq=>hq)
 refine ⟨r,rfl,q0t M' H' φ' w' (q0q H' 6 v),hV.1.clad,fun b o x hm=>q1n hH' (E'.mem _ _ _ hm),fun b o x hm hb=>?_,fun b o x hm=>q1I hm,E'.below⟩
 have hcell:=q1I hm
 unfold q0t at hm
 split at hm
 ·rename_i hc
  rcases hc with hc | ⟨q,n,els,ro,fl,fam,k1,k2,k3,_⟩
  ·obtain ⟨x0,hx0⟩:=K3.1 hc
   have:=hH'.mem _ _ _ hx0
   rw[hcell] at this
   cases this
   exact E'.new _ _ _ hx0 hb
  ·have:=(hH'.row _ _ _ _ _ _ k2).base
   omega
 ·cases hm

theorem qiP (hF:qb4 P fid) {f n bytes:Nat} (hcl : ∀ g,fid g=some f→∃ fn t e i0 i1 i2 i3 k r0 r1 r2 r3 o0 o1,P.funcs[g]?=some fn∧CloneOf P fid pf fn n bytes t e i0 i1 i2 i3 k r0 r1 r2 r3 o0 o1)
  {l:List AV} (hl:l.length≤lim) (hb:l.length * bytes≤2^40):q2E P fid f [.tsl n l] (.tsl n l):=by
 have hx:q2D n bytes ([]++[.gone]) [.snil n,.tsl n l]=some (q3t [.gone] n n true l):=by
  simp [q2D,Heap.elems,Heap.append,Heap.flatOf,hl,hb]
 have h:=qer (pf:=pf) hF hcl (x:=.tsl n l) (H:=[]) hx
 refine qbh h ?_
 cases l with
 | nil=>rfl
 | cons x xs=>simp [q3t,frz]
end
end Ago
namespace Ago
open Go

structure BulkFn {H:Type} (bulk:DataW H→Nat) (bulkAll:List (DataW H)→Nat):Prop where
 one : ∀ d,1≤bulk d
 str : ∀ b,bulk (.lit (.string b))=b.length+1
 slice : ∀ e s,bulk (.slice e s)=bulkAll e+bulkAll s+1
 agg : ∀ p,bulk (.agg p)=bulkAll p+1
 nil:bulkAll []=0
 cons : ∀ d l,bulkAll (d::l)=bulk d+bulkAll l

def q6P (g:TypeId→List AV→Prop):List Go.Field→List AV→Prop
 | [],as=>as=[]
 | f::fs,as=>∃ a b,as=a++b∧g f.type a∧q6P g fs b

def qln (g:List AV→Prop):Nat→List AV→Prop
 | 0,as=>as=[]
 | n+1,as=>∃ a b,as=a++b∧g a∧qln g n b

def q11 (P:Program):Nat→TypeId→List AV→Prop
 | 0,_,_=>False
 | k+1,t,as=>
  match P.underlying t with
  | some .bool=>∃ b,as=[.bool b]
  | some (.int kk)=>∃ n,as=[.int kk n]∧(Lit.int kk n).wf=true
  | some .string=>∃ s,as=[.str s]
  | some (.slice e)=>∃ l,as=[.tsl (q0n P e) l]∧∀ x,x∈l→q8F (q0v P e) x.cells=some x∧q11 P k e x.cells
  | some (.struct fs)=>q6P (q11 P k) fs.toList as
  | some (.array n e)=>qln (q11 P k e) n as
  | _=>False

def qe8 (P:Program):List Go.Field→Nat→Nat→Bool
 | [],o,n=>o == n
 | f::fs,o,n=>f.offset == o && qe8 P fs (o+q0n P f.type) n

def qkP (P:Program) (S:List TypeId):Bool:=
 S.all fun t=>
  match P.underlying t with
  | some .bool=>true
  | some (.int _)=>true
  | some .string=>true
  | some (.slice e)=>S.contains e && decide (0<q0n P e)
  | some (.struct fs)=>fs.toList.all (fun f=>S.contains f.type) && qe8 P fs.toList 0 (q0n P t)
  | some (.array n e)=>S.contains e && q0n P t == n * q0n P e
  | _=>false

def qbe (w:World):Mem:=fun b o=>w.cell? ⟨b,o,none⟩

theorem q4n {β:Type} {f:Nat→Option β} : ∀ {n:Nat} {ys:List β},(List.range n).mapM f=some ys→ys.length=n∧∀ (i:Nat) (y:β),ys[i]?=some y→f i=some y:=by
 have key : ∀ (l:List Nat) (ys:List β),l.mapM f=some ys→ys.length=l.length∧∀ (i:Nat) (y:β) (j:Nat),ys[i]?=some y→l[i]?=some j→f j=some y:=by
  intro l
  induction l with
  | nil=>intro ys h; simp at h; subst h; exact ⟨rfl,fun i y j h=>by simp at h⟩
  | cons a l ih=>
   intro ys h
   rw[List.mapM_cons] at h
   cases ha:f a with
   | none=>rw[ha] at h; cases h
   | some b=>
    rw[ha] at h
    cases hl:l.mapM f with
    | none=>rw[hl] at h; cases h
    | some bs=>
     rw[hl] at h
     cases h
     obtain ⟨h1,h2⟩:=ih bs hl
     refine ⟨by simp [h1],fun i y j hy hj=>?_⟩
     cases i with
     | zero=>simp at hy hj; subst hy; subst hj; exact ha
     | succ i=>exact h2 i y j (by simpa using hy) (by simpa using hj)
 intro n ys h
 obtain ⟨h1,h2⟩:=key _ _ h
 rw[List.length_range] at h1
 exact ⟨h1,fun i y hy=>h2 i y i hy (VF (h1▸q0f hy))⟩

section
variable {H:Type} {enc:TypeId × Value→H} {P:Program} {fid:FuncId→Option Nat} {φ:Nat→Loc} {w:World} {S:List TypeId} {bulk:DataW H→Nat} {bulkAll:List (DataW H)→Nat}

theorem qgj (hB:BulkFn bulk bulkAll) : ∀ (l:List AV) (ds:List (DataW H)),l.length=ds.length→(∀ (i:Nat) (x:AV) (d:DataW H),l[i]?=some x→ds[i]?=some d→AV.bulk x≤bulk d)→AV.bulks l≤bulkAll ds
 | [],ds,hl,_=>by simp [AV.bulks]
 | x::l,[],hl,_=>by simp at hl
 | x::l,d::ds,hl,h=>by
  rw[AV.bulks,hB.cons]
  exact Nat.add_le_add (h 0 x d rfl rfl) (qgj hB l ds (by simpa using hl) fun i x d h1 h2=>h (i+1) x d (by simpa using h1) (by simpa using h2))

def qho (P:Program) (fid:FuncId→Option Nat) (φ:Nat→Loc) (w:World) (k:Nat) (t:TypeId) (n:Nat) (cs:List Value):Prop:=
 ∃ as,VRels fid (qbe w) [] φ as cs∧q11 P k t as∧as.all AV.one=true∧(∀ y,y∈as→AV.pureN 5 y=true)∧AV.bulks as+(q0v P t).toNat≤n

theorem q4x {k:Nat} {t:TypeId} {n:Nat} {x:AV} {v:Value} (hr:VRel fid (qbe w) [] φ x v) (ht:q11 P k t [x]) (h1:x.one=true) (hp:AV.pureN 5 x=true) (hg:q0v P t=false) (hb:x.bulk≤n):qho P fid φ w k t n [v]:=
 ⟨[x],VRels.cons hr VRels.nil,ht,by simp [h1],fun y hy=>by rw[Kx.1 hy]; exact hp,by simpa [AV.bulks,hg] using hb⟩

theorem qiC {b o n:Nat} {cs:List Value} (h:w.cells? 0 (⟨b,o,none⟩:Addr) n=some cs):cs.length=n∧∀ (j:Nat) (u:Value),cs[j]?=some u→w.cell? ⟨b,o+j,none⟩=some u:=by
 unfold World.cells? at h
 rw[if_pos (Kn _)] at h
 obtain ⟨h1,h2⟩:=q4n h
 exact ⟨h1,fun j u hj=>by have:=h2 j u hj; rw[q2v] at this; exact this⟩

theorem qkv {k:Nat} {t:TypeId} {as:List AV} (h:q11 P k t as) (h1:as.all AV.one=true) (hp : ∀ y,y∈as→AV.pureN 5 y=true) : ∃ x,q8F (q0v P t) as=some x∧x.cells=as∧x.isPure=true∧x.bulk≤AV.bulks as+(q0v P t).toNat:=by
 have single : ∀ x:AV,as=[x]→q0v P t=false→∃ x,q8F (q0v P t) as=some x∧x.cells=as∧x.isPure=true∧x.bulk≤AV.bulks as+(q0v P t).toNat:=fun x e hg=>by
  subst e
  have hx:x.one=true:=by simpa using h1
  refine ⟨x,by rw[hg]; rfl,qa8 hx,q29 5 x (hp x (by simp)),by simp [AV.bulks]⟩
 cases k with
 | zero=>exact h.elim
 | succ k=>
  unfold q11 at h
  split at h
  ·rename_i hu
   obtain ⟨b,rfl⟩:=h
   exact single _ rfl (by simp [q0v,hu])
  ·rename_i kk hu
   obtain ⟨b,rfl,_⟩:=h
   exact single _ rfl (by simp [q0v,hu])
  ·rename_i hu
   obtain ⟨b,rfl⟩:=h
   exact single _ rfl (by simp [q0v,hu])
  ·rename_i e hu
   obtain ⟨b,rfl,_⟩:=h
   exact single _ rfl (by simp [q0v,hu])
  ·rename_i fs hu
   have hg:q0v P t=true:=by simp [q0v,hu]
   rw[hg]
   exact ⟨.agg as,rfl,rfl,Kp.2 hp,by simp [AV.bulk]⟩
  ·rename_i n e hu
   have hg:q0v P t=true:=by simp [q0v,hu]
   rw[hg]
   exact ⟨.agg as,rfl,rfl,Kp.2 hp,by simp [AV.bulk]⟩
  ·exact h.elim

theorem qaL (hB:BulkFn bulk bulkAll) {k:Nat} {cs:List Value}
  (ih : ∀ (t:TypeId) (cs:List Value) (d:DataW H) (ps:List MemPlace),t∈S→DataW.trod enc P w 0 (fun _=>true) true k t cs=some (d,ps)→qho P fid φ w k t (bulk d) cs) :
  ∀ (fs:List Go.Field) (o:Nat) (xs:List (DataW H × List MemPlace)),qe8 P fs o cs.length=true→(fs.all fun f=>S.contains f.type)=true→xs.length=fs.length →
   (∀ (i:Nat) (f:Go.Field),fs[i]?=some f→DataW.trod enc P w 0 (fun _=>true) true k f.type ((cs.drop f.offset).take (P.cellsOf f.type))=xs[i]?) →
   ∃ as,VRels fid (qbe w) [] φ as (cs.drop o)∧q6P (q11 P k) fs as∧as.all AV.one=true∧(∀ y,y∈as→AV.pureN 5 y=true)∧AV.bulks as≤bulkAll (xs.map (·.1))
 | [],o,xs,ht,_,hl,_=>by
  have ho:o=cs.length:=by simpa [qe8] using ht
  subst ho
  exact ⟨[],by rw[List.drop_length]; exact VRels.nil,rfl,rfl,fun y hy=>(by cases hy),by simp [AV.bulks]⟩
 | f::fs,o,[],_,_,hl,_=>by simp at hl
 | f::fs,o,(d,ps)::xs,ht,hs,hl,hx=>by
  simp only[qe8,Kk,beq_iff_eq] at ht
  simp only[Vy,Kk] at hs
  obtain ⟨rfl,ht⟩:=ht
  have h0:=hx 0 f rfl
  obtain ⟨a,h1,h2,h3,h4,h5⟩:=ih f.type _ d ps (by simpa using hs.1) h0
  obtain ⟨b,k1,k2,k3,k4,k5⟩:=qaL hB ih fs (f.offset+q0n P f.type) xs ht hs.2 (by simpa using hl) (fun i g hg=>by have:=hx (i+1) g (by simpa using hg); simpa using this)
  refine ⟨a++b,?_,⟨a,b,rfl,h2,k2⟩,by simp [h3,k3],fun y hy=>(Kv.1 hy).elim (h4 y) (k4 y),?_⟩
  ·have e:cs.drop f.offset=(cs.drop f.offset).take (P.cellsOf f.type)++cs.drop (f.offset+q0n P f.type):=by
    rw[←List.drop_drop]
    exact (Vl _ _).symm
   rw[e]
   exact h1.append k1
  ·rw[q2k,Kd,hB.cons]
   have:AV.bulks a≤bulk d:=by omega
   exact Nat.add_le_add this k5

theorem qbQ (hB:BulkFn bulk bulkAll) {k:Nat} {cs:List Value} {e:TypeId} (he:e∈S)
  (ih : ∀ (t:TypeId) (cs:List Value) (d:DataW H) (ps:List MemPlace),t∈S→DataW.trod enc P w 0 (fun _=>true) true k t cs=some (d,ps)→qho P fid φ w k t (bulk d) cs) :
  ∀ (n o:Nat) (xs:List (DataW H × List MemPlace)),cs.length=(o+n) * q0n P e→xs.length=n →
   (∀ (i:Nat),i<n→DataW.trod enc P w 0 (fun _=>true) true k e ((cs.drop ((o+i) * P.cellsOf e)).take (P.cellsOf e))=xs[i]?) →
   ∃ as,VRels fid (qbe w) [] φ as (cs.drop (o * q0n P e))∧qln (q11 P k e) n as∧as.all AV.one=true∧(∀ y,y∈as→AV.pureN 5 y=true)∧AV.bulks as≤bulkAll (xs.map (·.1))
 | 0,o,xs,hl,_,_=>by
  refine ⟨[],?_,rfl,rfl,fun y hy=>(by cases hy),by simp [AV.bulks]⟩
  rw[KX (by rw[hl]; simp)]
  exact VRels.nil
 | n+1,o,[],_,hx,_=>by simp at hx
 | n+1,o,(d,ps)::xs,hl,hx,h=>by
  have h0:=h 0 (by omega)
  rw[Vs] at h0
  obtain ⟨a,h1,h2,h3,h4,h5⟩:=ih e _ d ps he h0
  obtain ⟨b,k1,k2,k3,k4,k5⟩:=qbQ hB he ih n (o+1) xs (by rw[hl]; congr 1; omega) (by simpa using hx) (fun i hi=>by
   have:=h (i+1) (by omega)
   rw[show o+(i+1)=o+1+i by omega] at this
   simpa using this)
  refine ⟨a++b,?_,⟨a,b,rfl,h2,k2⟩,by simp [h3,k3],fun y hy=>(Kv.1 hy).elim (h4 y) (k4 y),?_⟩
  ·have e1:cs.drop (o * q0n P e)=(cs.drop (o * P.cellsOf e)).take (P.cellsOf e)++cs.drop ((o+1) * q0n P e):=by
    rw[Vi,Nat.one_mul,←List.drop_drop]
    exact (Vl _ _).symm
   rw[e1]
   exact h1.append k1
  ·rw[q2k,Kd,hB.cons]
   have:AV.bulks a≤bulk d:=by omega
   exact Nat.add_le_add this k5

theorem qmK {base:Nat} {spare:Nat→Bool} {held:Bool} {m n:Nat} {t e:TypeId} {cs:List Value} {x:DataW H × List MemPlace} (ht:P.underlying t=some (.array n e)) (h:DataW.trod enc P w base spare held (m+1) t cs=some x) :
  ∃ xs:List (DataW H × List MemPlace),x=(.agg (xs.map (·.1)),xs.flatMap (·.2))∧cs.length=P.cellsOf t∧xs.length=n ∧
   ∀ (i:Nat),i<n→DataW.trod enc P w base spare held m e ((cs.drop (i * P.cellsOf e)).take (P.cellsOf e))=xs[i]?:=by
 unfold DataW.trod at h
 rw[ht] at h
 split at h<;>simp_all
 obtain ⟨hl,xs,hp,hd⟩:=h
 obtain ⟨h1,h2⟩:=q4n hp
 refine ⟨xs,hd.symm,h1,fun i hi=>?_⟩
 rw[Ki (by omega)]
 exact h2 i _ (Ki (by omega))

theorem qeU (hB:BulkFn bulk bulkAll) (hS:qkP P S=true) : ∀ (k:Nat) (t:TypeId) (cs:List Value) (d:DataW H) (ps:List MemPlace),t∈S→DataW.trod enc P w 0 (fun _=>true) true k t cs=some (d,ps)→qho P fid φ w k t (bulk d) cs:=by
 intro k
 induction k with
 | zero=>intro t cs d ps _ h; cases h
 | succ k ih=>
  intro t cs d ps ht h
  have hok:=Kp.1 hS t ht
  cases hu:P.underlying t with
  | none=>simp [hu] at hok
  | some desc=>
   cases desc with
   | bool=>
    obtain ⟨b,rfl,h2⟩:=DataW.trod_bool hu h
    cases h2
    exact q4x (.bool b) (by simp only[q11,hu]; exact ⟨b,rfl⟩) rfl rfl (by simp [q0v,hu]) (by simpa [AV.bulk] using hB.one _)
   | int kk=>
    obtain ⟨n,rfl,h2,h3⟩:=DataW.trod_int hu h
    cases h2
    exact q4x (.int kk n) (by simp only[q11,hu]; exact ⟨n,rfl,h3⟩) rfl rfl (by simp [q0v,hu]) (by simpa [AV.bulk] using hB.one _)
   | string=>
    obtain ⟨s,rfl,h2,h3⟩:=DataW.trod_string hu h
    cases h2
    exact q4x (.str s _ rfl) (by simp only[q11,hu]; exact ⟨_,rfl⟩) rfl rfl (by simp [q0v,hu]) (by simp [AV.bulk,hB.str])
   | slice e=>
    simp only[hu,Kk,decide_eq_true_eq] at hok
    obtain ⟨he,hsz⟩:=hok
    have heS:e∈S:=by simpa using he
    rcases DataW.trod_slice hu h with ⟨rfl,h2⟩ | ⟨a,len,cap,elems,rest,n,hn,rfl,h2,_,hlc,_,hel,hget,_,_⟩
    ·cases h2
     refine q4x (x:=.tsl (q0n P e) []) (.tsl _ _ none 0 0 0 0 (fun _ _=>Go.undef) rfl (Kr _) (fun h=>absurd h (by simp)) (fun i x h=>by simp at h) (fun i j h=>absurd h (by simp)) (fun i x j y h=>by simp at h)) ?_ rfl rfl (by simp [q0v,hu]) (by simpa [AV.bulk,AV.bulks] using hB.one _)
     simp only[q11,hu]
     exact ⟨[],rfl,fun x hx=>by cases hx⟩
    ·cases hn
     cases h2
     have hspot : ∀ i,i<len→∃ y csi,elems[i]?=some y∧w.cells? 0 (a.add (i * P.cellsOf e)) (P.cellsOf e)=some csi∧DataW.trod enc P w 0 (fun _=>true) true k e csi=some y:=fun i hi=>by
      have h0:=hget i hi
      have hlt:i<elems.length:=by rw[hel]; exact hi
      rw[Ki hlt,VM] at h0
      obtain ⟨csi,h1,h2⟩:=h0
      exact ⟨_,csi,Ki hlt,h1,h2⟩
     have hsp:0<len→a.spot=none:=fun h0=>by
      obtain ⟨_,csi,_,h1,_⟩:=hspot 0 h0
      rw[Nat.zero_mul] at h1
      unfold World.cells? at h1
      rw[if_pos (Kn _)] at h1
      obtain ⟨h2,h3⟩:=q4n h1
      have hsz':0<csi.length:=by rw[h2]; exact hsz
      have h4:=h3 0 _ (Ki hsz')
      have e1:(a.add 0).add 0=a:=by simp [Addr.add]
      rw[e1] at h4
      unfold World.cell? at h4
      split at h4
      ·split at h4
       ·cases h4
       ·rename_i hs
        simpa using hs
      ·cases h4
     have hel' : ∀ i,∃ x:AV,i<len→(q8F (q0v P e) x.cells=some x∧q11 P k e x.cells∧x.isPure=true∧x.cells.length=q0n P e∧x.cells.all AV.one=true∧(∀ y,elems[i]?=some y→x.bulk≤bulk y.1) ∧
       ∀ (j:Nat) (z:AV),x.cells[j]?=some z→∃ u,w.cell? ⟨a.block,a.off+i * q0n P e+j,none⟩=some u∧VRel fid (qbe w) [] φ z u):=fun i=>by
      by_cases hi:i<len
      ·obtain ⟨y,csi,h1,h2,h3⟩:=hspot i hi
       have hsp0:=hsp (by omega)
       have ea:a.add (i * P.cellsOf e)=⟨a.block,a.off+i * q0n P e,none⟩:=by
        obtain ⟨b,o,s⟩:=a
        cases hsp0
        exact q2v b o _
       rw[ea] at h2
       obtain ⟨hcl,hcell⟩:=qiC h2
       obtain ⟨as,k1,k2,k3,k4,k5⟩:=ih e csi y.1 y.2 heS h3
       obtain ⟨x,m1,m2,m3,m4⟩:=qkv k2 k3 k4
       refine ⟨x,fun _=>⟨by rw[m2]; exact m1,by rw[m2]; exact k2,m3,by rw[m2,k1.1]; exact hcl,by rw[m2]; exact k3,fun y' hy'=>?_,fun j z hz=>?_⟩⟩
       ·rw[h1] at hy'
        cases hy'
        omega
       ·rw[m2] at hz
        obtain ⟨u,h4,h5⟩:=q1i k1 hz
        exact ⟨u,hcell j u h4,h5⟩
      ·exact ⟨.dead,fun h=>absurd h hi⟩
     obtain ⟨f,hf⟩:=Classical.axiomOfChoice hel'
     have hlg : ∀ (i:Nat) (x:AV),((List.range len).map f)[i]?=some x→i<len∧x=f i:=fun i x hx=>by
      have hi:=q0f hx
      simp only[Ka,List.length_range] at hi
      simp only[KH,VF hi,KM,Kq] at hx
      exact ⟨hi,hx.symm⟩
     refine q4x (x:=.tsl (q0n P e) ((List.range len).map f)) ?_ ?_ rfl rfl (by simp [q0v,hu]) ?_
     ·refine .tsl _ _ (some a) len cap a.block a.off (fun i j=>(w.cell? ⟨a.block,a.off+i * q0n P e+j,none⟩).getD Go.undef) (by simp) hlc (fun h0=>?_) (fun i x hx=>?_) (fun i j hi hj=>?_) (fun i x j y hx hy=>?_)
      ·have:=hsp h0
       obtain ⟨b,o,s⟩:=a
       cases this
       rfl
      ·obtain ⟨hi,rfl⟩:=hlg i x hx
       obtain ⟨_,_,h1,h2,h3,_⟩:=hf i hi
       exact ⟨h1,h2,h3⟩
      ·obtain ⟨_,_,_,h2,_,_,h3⟩:=hf i hi
       obtain ⟨u,h4,_⟩:=h3 j _ (Ki (by rw[h2]; exact hj))
       show w.cell? _=some ((w.cell? _).getD Go.undef)
       rw[h4]
       rfl
      ·obtain ⟨hi,rfl⟩:=hlg i x hx
       obtain ⟨_,_,_,_,_,_,h3⟩:=hf i hi
       obtain ⟨u,h4,h5⟩:=h3 j y hy
       show VRel fid (qbe w) [] φ y ((w.cell? _).getD Go.undef)
       rw[h4]
       exact h5
     ·simp only[q11,hu]
      refine ⟨_,rfl,fun x hx=>?_⟩
      obtain ⟨i,hi,rfl⟩:=KV.1 hx
      obtain ⟨h1,h2,_⟩:=hf i (List.mem_range.1 hi)
      exact ⟨h1,h2⟩
     ·rw[AV.bulk,hB.slice]
      have:AV.bulks ((List.range len).map f)≤bulkAll (elems.map (·.1)):=qgj hB _ _ (by simp [hel]) (fun i x d hx hd=>by
       obtain ⟨hi,rfl⟩:=hlg i x hx
       obtain ⟨_,_,_,_,_,h1,_⟩:=hf i hi
       rw[KH,Kg] at hd
       obtain ⟨y,hy,rfl⟩:=hd
       exact h1 y hy)
      omega
   | struct fs=>
    simp only[hu,Kk] at hok
    obtain ⟨xs,n,hn,h2,h3,h4,h5⟩:=DataW.trod_struct hu h
    cases hn
    cases h2
    obtain ⟨as,k1,k2,k3,k4,k5⟩:=qaL (fid:=fid) (φ:=φ) hB ih fs.toList 0 xs (by rw[h3]; exact hok.2) hok.1 (by simpa using h4) (fun i f hf=>h5 i f (by simpa using hf))
    refine ⟨as,by simpa using k1,by simp only[q11,hu]; exact k2,k3,k4,?_⟩
    rw[hB.agg]
    have:(q0v P t).toNat≤1:=by cases q0v P t<;>simp
    omega
   | array n e=>
    simp only[hu,Kk,beq_iff_eq] at hok
    obtain ⟨he,hsz⟩:=hok
    obtain ⟨xs,h2,h3,h4,h5⟩:=qmK hu h
    cases h2
    obtain ⟨as,k1,k2,k3,k4,k5⟩:=qbQ (fid:=fid) (φ:=φ) (cs:=cs) hB (by simpa using he) ih n 0 xs (by rw[h3,KS]; exact hsz) h4 (fun i hi=>by rw[KS]; exact h5 i hi)
    rw[Nat.zero_mul,List.drop_zero] at k1
    refine ⟨as,k1,by simp only[q11,hu]; exact k2,k3,k4,?_⟩
    rw[hB.agg]
    have:(q0v P t).toNat≤1:=by cases q0v P t<;>simp
    omega
   | _=>simp [hu] at hok
end
end Ago
namespace Ago
open Go Go.ChangeShapes Go.WideShapes Go.ChangeAt Go.RowKit
variable {uT:Unit} [TabC uT]

def qqT (P:Program) (t:TypeId) (x:AV):Prop:=∃ k,q8F (q0v P t) x.cells=some x∧q11 P k t x.cells

def qgI (P:Program):List TypeId→List AV→Prop
 | [],[]=>True
 | t::ts,x::xs=>qqT P t x∧qgI P ts xs
 | _,_=>False

section
variable {H:Type} {enc:TypeId × Value→H} {P:Program} {fid:FuncId→Option Nat} {pf:Nat→Bool} {φ:Nat→Loc} {W:World} {S:List TypeId} {bulk:DataW H→Nat} {bulkAll:List (DataW H)→Nat}

theorem qog (hB:BulkFn bulk bulkAll) (hS:qkP P S=true) {r:Reach} {base:Nat} {t:TypeId} {v:Value} {d:DataW H} {ps:List MemPlace} (ht:t∈S) (hv:Value.okWide P W r base t v) (hd:DataW.Trod enc P W 0 (fun _=>true) true t v d ps) :
  ∃ x,VRel fid (qbe W) [] φ x v∧qqT P t x∧x.bulk≤bulk d:=by
 obtain ⟨k,hk⟩:=hd
 obtain ⟨as,h1,h2,h3,h4,h5⟩:=qeU (fid:=fid) (φ:=φ) hB hS k t _ d ps ht hk
 obtain ⟨x,m1,m2,m3,m4⟩:=qkv h2 h3 h4
 refine ⟨x,?_,⟨k,by rw[m2]; exact m1,by rw[m2]; exact h2⟩,by omega⟩
 have hok:=Kp.1 hS t ht
 have single:q0v P t=false→v.cells = #[v]→VRel fid (qbe W) [] φ x v:=fun hg hc=>by
  rw[hc] at h1
  rw[hg] at m1
  cases as with
  | nil=>cases m1
  | cons y ys=>
   cases ys with
   | nil=>
    cases m1
    exact h1.head
   | cons z zs=>cases m1
 cases hu:P.underlying t with
 | none=>simp [hu] at hok
 | some desc=>
  cases desc with
  | bool=>
   obtain ⟨b,rfl⟩:=okWide_bool hu hv
   exact single (by simp [q0v,hu]) rfl
  | int kk=>
   obtain ⟨b,rfl⟩:=okWide_int hu hv
   exact single (by simp [q0v,hu]) rfl
  | string=>
   obtain ⟨b,rfl⟩:=okWide_string hu hv
   exact single (by simp [q0v,hu]) rfl
  | slice e=>
   obtain ⟨a,l,c,rfl⟩:=okWide_slice hu hv
   exact single (by simp [q0v,hu]) rfl
  | struct fs=>
   obtain ⟨cs,rfl,_⟩:=okWide_struct hu hv
   have hg:q0v P t=true:=by simp [q0v,hu]
   rw[hg] at m1
   cases m1
   exact .agg as cs (by simpa [Value.cells] using h1.1) (fun i y u hy hu'=>h1.2 i y u hy (by simpa [Value.cells] using hu'))
  | array n e=>
   obtain ⟨cs,rfl,_⟩ : ∃ cs,v = .agg cs∧cs.size=P.cellsOf t:=by
    simp only[Value.okWide,hu] at hv
    obtain ⟨cs,h1,h2,_⟩:=hv
    exact ⟨cs,h1,h2⟩
   have hg:q0v P t=true:=by simp [q0v,hu]
   rw[hg] at m1
   cases m1
   exact .agg as cs (by simpa [Value.cells] using h1.1) (fun i y u hy hu'=>h1.2 i y u hy (by simpa [Value.cells] using hu'))
  | _=>simp [hu] at hok

theorem qdl (hB:BulkFn bulk bulkAll) (hS:qkP P S=true) {r:Reach} {base:Nat} : ∀ (ts:List TypeId) (vs:List Value) (ds:List (DataW H)) (ps:List MemPlace),(∀ t,t∈ts→t∈S) →
  (∀ (j:Nat) t v,ts[j]?=some t→vs[j]?=some v→Value.okWide P W r base t v)→DataW.TrodAll enc P W 0 (fun _=>true) true ts vs ds ps→∃ xs,VRels fid (qbe W) [] φ xs vs∧qgI P ts xs∧AV.bulks xs≤bulkAll ds
 | [],vs,ds,ps,_,_,h=>by
  obtain ⟨rfl,rfl,rfl⟩:=trodAll_nil h
  exact ⟨[],VRels.nil,trivial,by simp [AV.bulks]⟩
 | t::ts,vs,ds,ps,hts,hv,h=>by
  obtain ⟨v,vs',d,ds',p,q,rfl,rfl,rfl,h1,h2⟩:=trodAll_cons h
  obtain ⟨x,k1,k2,k3⟩:=qog (fid:=fid) (φ:=φ) hB hS (hts t (Ku ..)) (hv 0 t v rfl rfl) h1
  obtain ⟨xs,m1,m2,m3⟩:=qdl hB hS ts vs' ds' q (fun t ht=>hts t (Kt _ ht)) (fun j t v h1 h2=>hv (j+1) t v (by simpa using h1) (by simpa using h2)) h2
  refine ⟨x::xs,VRels.cons k1 m1,⟨k2,m2⟩,?_⟩
  rw[AV.bulks,hB.cons]
  exact Nat.add_le_add k3 m3

theorem qdx {W':World} (hl:laidOutB P=true) (hb:Below W.heap.size W W') : ∀ (ts:List TypeId) (vs:List Value) (ds:List (DataW H)) (ps:List MemPlace),(ts.all fun t=>P.readableRec t && decide (t<P.types.size))=true→(∀ x,x∈ps→x.block<W.heap.size) →
  DataW.TrodAll enc P W 0 (fun _=>true) true ts vs ds ps→DataW.TrodAll enc P W' 0 (fun b=>decide (b<W.heap.size)) true ts vs ds ps
 | [],vs,ds,ps,_,_,h=>by
  obtain ⟨rfl,rfl,rfl⟩:=trodAll_nil h
  exact trodAll_mk0
 | t::ts,vs,ds,ps,hr,hlt,h=>by
  simp only[Vy,Kk,decide_eq_true_eq] at hr
  obtain ⟨v,vs',d,ds',p,q,rfl,rfl,rfl,h1,h2⟩:=trodAll_cons h
  exact trodAll_cons_mk (Below.trod hl hr.1.1 hr.1.2 h1 hb fun x hx=>hlt x (List.mem_append_left _ hx)) (qdx hl hb ts vs' ds' q hr.2 (fun x hx=>hlt x (List.mem_append_right _ hx)) h2)

theorem qet {C:Ctx} (hC:CtxOk P fid pf C) (hl:laidOutB P=true) (hB:BulkFn bulk bulkAll) (hS:qkP P S=true) {s:ChangeSpec} {fn:Func} {g f tb N:Nat} (hs:s.vars=[])
  (hsf : ∀ ds:List (DataW H),ds.length=fn.params.size→s.fn H ds={ results:=[.lit (.bool true)],args:=ds }) (hg:fid g=some f) (hp : ∀ t,t∈fn.params.toList→t∈S)
  (hr:(fn.params.toList.all fun t=>P.readableRec t && decide (t<P.types.size))=true) (hres:fn.resultTypes.toList=[tb]) (htb:P.underlying tb=some .bool)
  (hrun : ∀ xs,qgI P fn.params.toList xs→AV.bulks xs≤N→BS C (.prun f xs (.bool true)))
  {base:Nat} {args:Array Value} {ds gs:List (DataW H)} {before:List MemPlace} {apart:Bool} (hval : ∀ (j:Nat) t v,fn.params[j]?=some t→args[j]?=some v→Value.okWide P W .any base t v)
  (hW:DataW.Whole enc P fn.params.toList s.vars apart W args.toList ds gs before) (hk:bulkAll (ds++gs)≤N) (hTab:TabC.ok W.heap.size W:=by trivial):Calls P g args W fun e W'=>∃ v,e = .returned v∧s.post enc P fn apart true false false W args v W':=by
 have hW':=hW
 obtain ⟨p,q,hA,hV,rfl,hfz,hnd⟩:=hW
 rw[hs] at hV
 obtain ⟨rfl,rfl⟩:=trodVars_none hV
 rw[Kj] at hk
 obtain ⟨xs,h1,h2,h3⟩:=qdl (fid:=fid) (φ:=fun _=>⟨0,0,0⟩) hB hS fn.params.toList args.toList ds p hp (fun j t v h1 h2=>hval j t v (by simpa using h1) (by simpa using h2)) hA
 have hlen:ds.length=fn.params.size:=by
  have:=(trodAll_length hA).2
  simpa using this
 have hrun':=(ql1 hC (hrun xs h2 (Vc h3 hk))).1
 refine (hrun' g hg (qbe W) _ args W h1 (fun b o u h=>h) hTab).mono fun e W' he=>?_
 obtain ⟨r,rfl,M',hr',_,_,_,hbel⟩:=he
 have hrv:r = .bool true:=by cases hr'; rfl
 subst hrv
 refine ⟨_,rfl,ds,[],p++[],[],p,[],hW',?_,?_,?_,hbel.toBelow.frame _,fun h=>by cases h⟩
 ·rw[Kj,hsf ds hlen,hres]
  have hsz:fn.resultTypes.size=1:=by rw[←VV,hres]; rfl
  rw[hsz]
  exact trodAll_cons_mk (shut_bool htb true) trodAll_mk0
 ·rw[Kj,hsf ds hlen]
  exact qdx hl hbel.toBelow _ _ _ _ hr (fun x hx=>hW'.lt x (by simpa using hx)) hA
 ·rw[Kj,hsf ds hlen,hs]
  exact rfl
end
end Ago
namespace Ago
open Go
variable {uT:Unit} [TabC uT]

def AFn.str (f:AFn):Nat × List ResV × ACode:=(f.nt,f.res,f.body.strip)

def q2B (l:List (Nat × Nat)) (g:FuncId):Option Nat:=(l.find? fun p=>p.1 == g).map (·.2)

structure CodedAt (P:Program) (fid:FuncId→Option Nat) (pf:Nat→Bool) (code:Nat→Option AFn) (p:Nat × Nat):Prop where
 fn : ∃ gf c,P.funcs[p.1]? = some gf ∧ gf.body = some c ∧ (gf.name == "runtime.NumGoroutine") = false
 code : ∀ a,code p.2=some a→∃ gf x,P.funcs[p.1]?=some gf∧q9U P fid pf gf=some x∧x.nt=a.nt∧x.res=a.res∧x.body.strip=a.body.strip

theorem q01 {P:Program} {fid:FuncId→Option Nat} {pf:Nat→Bool} {code:Nat→Option AFn} {g f:Nat} {gf:Func} {a:AFn} (hc:code f=some a) (hg:P.funcs[g]?=some gf)
  (h : (q9U P fid pf gf).map AFn.str = some a.str) (hn : (gf.name == "runtime.NumGoroutine") = false) : CodedAt P fid pf code (g,f) := by
 obtain ⟨x,hx,hs⟩:=Kg.1 h
 simp only[AFn.str,Vm] at hs
 refine ⟨?_,fun b hb=>?_⟩
 ·have hx':=hx
  unfold q9U at hx'
  split at hx'
  ·rename_i c hc'
   exact ⟨gf,c,hg,hc',hn⟩
  ·cases hx'
 ·rw[hc] at hb
  cases hb
  exact ⟨gf,x,hg,hx,hs.1,hs.2.1,hs.2.2⟩

theorem q1q {l:List (Nat × Nat)} {g f:Nat} (h:q2B l g=some f):(g,f)∈l:=by
 unfold q2B at h
 rw[Kg] at h
 obtain ⟨p,h1,h2⟩:=h
 have h3:=List.find?_some h1
 have h4:=VI h1
 have:p=(g,f):=by
  obtain ⟨a,b⟩:=p
  simp only[beq_iff_eq] at h3 h2
  rw[h3,h2]
 rw[←this]
 exact h4

def q4M (P:Program) (fid:FuncId→Option Nat) (pf:Nat→Bool) (f:Nat) (p:Nat × Nat):Prop:=
 ∀ g,fid g=some f→∃ fn t e i0 i1 i2 i3 k r0 r1 r2 r3 o0 o1,P.funcs[g]?=some fn∧CloneOf P fid pf fn p.1 p.2 t e i0 i1 i2 i3 k r0 r1 r2 r3 o0 o1

theorem q03 {P : Program} {fid : FuncId → Option Nat} {pf : Nat → Bool} {code : Nat → Option AFn} {g f : Nat} {gf : Func} {c : Code} (hc : code f = none) (hg : P.funcs[g]? = some gf) (hb : gf.body = some c) (hn : (gf.name == "runtime.NumGoroutine") = false) :
  CodedAt P fid pf code (g,f):=⟨⟨gf,c,hg,hb,hn⟩,fun a ha=>by rw[hc] at ha; cases ha⟩

theorem qhj {P:Program} {pf:Nat→Bool} {code:Nat→Option AFn} {clR clP:Nat→Option (Nat × Nat)} {l:List (Nat × Nat)} (h : ∀ p,p∈l→CodedAt P (q2B l) pf code p)
  (hR : ∀ f p,clR f=some p→code f=none∧q4M P (q2B l) pf f p) (hP : ∀ f p,clP f=some p→code f=none∧q4M P (q2B l) pf f p) :
  CtxOk P (q2B l) pf (qac code clR clP):=by
 have hF:qb4 P (q2B l):=fun g f hg=>by
  obtain ⟨gf,c,h1,h2,h3⟩:=(h _ (q1q hg)).fn
  exact ⟨gf,h1,by rw[h2]; rfl,h3⟩
 refine ⟨hF,fun g f fn hg hf=>(h _ (q1q hg)).code fn hf,fun f args H v H' hp=>?_,fun f ts v hp=>?_⟩
 ·obtain ⟨p,x,h1,rfl,h2⟩:=hp
  refine ⟨(hR f p h1).1,qer hF (hR f p h1).2 h2,fun v2 H2 hp2=>?_⟩
  obtain ⟨p',x',k1,k2,k3⟩:=hp2
  rw[h1] at k1
  cases k1
  cases k2
  rw[h2] at k3
  cases k3
  exact ⟨rfl,rfl⟩
 ·obtain ⟨p,x,h1,rfl,h2,h3,rfl⟩:=hp
  refine ⟨(hP f p h1).1,qiP hF (hP f p h1).2 h2 h3,fun v2 hp2=>?_⟩
  obtain ⟨p',x',k1,k2,_,_,k3⟩:=hp2
  rw[h1] at k1
  cases k1
  cases k2
  exact k3
end Ago
