/- The abstract machine computed by simp: the transformer's equations,one an operation,the continuation behind a word that simp does not enter. -/
import Derived.Test.YtkibapblgbdhmaaGreatDoorMachA
import Derived.Attr
set_option linter.unusedSimpArgs false
set_option linter.unusedVariables false
namespace Ago
section
variable {R:Nat→List AV→Heap→AV→Heap→Prop} {PR:Nat→List AV→AV→Prop}

class KF (α:Type) where
 k:α→Prop
class KP where
 p:Prop
class KC where
 k:AV→Heap→Prop
class KN where
 k:Nat→List AV→Prop
class KL where
 R:Nat→List AV→Heap→AV→Heap→Prop
 PR:Nat→List AV→AV→Prop
 b:ACode
 Q:Ex→St→Prop

def q4I {α:Type} (x:Option α) [c:KF α]:Prop:=q2w x c.k
def q1Z (x:AV) [a:KP] [b:KP]:Prop:=q5Z x a.p b.p
def q0L (x:Option Bool) [a:KP] [b:KP]:Prop:=q2d x a.p b.p
def qm8 (x:Option (AV × Blk)) (y:Option Blk) [c:KF (AV × Blk)]:Prop:=qls x y c.k
def qmL (l:List AV) [c:KN]:Prop:=qlu l c.k
def q0Y (s:St) [c:KF St]:Prop:=c.k s
def qat (R:Nat→List AV→Heap→AV→Heap→Prop) (f:Nat) (args:List AV) (H:Heap) [c:KC]:Prop:=qh6 R f args H c.k
def qcv (PR:Nat→List AV→AV→Prop) (f:Nat) (ts:List AV) [c:KF AV]:Prop:=qlw PR f ts c.k
def qdh (live:List Nat) (s:St) [c:KL]:Prop:=aw c.R c.PR (.loop live c.b) c.Q s

@[go_sem] theorem qlk {α:Type} (v:α) (c:KF α) : @q4I α (some v) c=c.k v:=(rfl)
@[go_sem] theorem qlq {α:Type} (c:KF α) : @q4I α none c=False:=(rfl)
@[go_sem] theorem qlt (a b:KP) : @q1Z (.bool true) a b=a.p:=(rfl)
@[go_sem] theorem qj0 (a b:KP) : @q1Z (.bool false) a b=b.p:=(rfl)
@[go_sem] theorem qlg (a b:KP) : @q0L (some true) a b=a.p:=(rfl)
@[go_sem] theorem qkg (a b:KP) : @q0L (some false) a b=b.p:=(rfl)
@[go_sem] theorem qnu (v:AV × Blk) (c:KF (AV × Blk)) : @qm8 (some v) (some .resv) c=c.k v:=(rfl)
@[go_sem] theorem qpU (f:Nat) (cap args:List AV) (c:KN) : @qmL (.fn f cap::args) c=c.k f (args++cap):=(rfl)
@[go_sem] theorem qnq (tm:List AV) (h:Heap) (b rb:Nat) (c:KF St) : @q0Y ⟨tm,h,b,rb⟩ c=c.k ⟨tm,h,b,rb⟩:=(rfl)

@[go_sem] theorem qqu (tm:List AV) (h H:Heap) (b rb d:Nat) (v:AV):St.put ⟨tm,h,b,rb⟩ (some d) v H=⟨tm.set d v,H,b,rb⟩:=(rfl)
@[go_sem] theorem qpX (tm:List AV) (h H:Heap) (b rb:Nat) (v:AV):St.put ⟨tm,h,b,rb⟩ none v H=⟨tm,H,b,rb⟩:=(rfl)
@[go_sem] theorem qrq (tm:List AV) (h:Heap) (b rb i:Nat):St.eval ⟨tm,h,b,rb⟩ (.t i)=tm.getD i undef:=(rfl)
@[go_sem] theorem qry (s:St) (v:AV):s.eval (.c v)=v:=(rfl)

@[go_sem ↓] theorem qpm (K:St→Prop) (s:St):q0W R PR [] K s=K s:=(rfl)
@[go_sem ↓] theorem qnj (dst:Option Nat) (p:POp) (args:List Opd) (l:List AOper) (K:St→Prop) (s:St) :
  q0W R PR (⟨dst,.pure p,args,none⟩::l) K s = @q4I _ (p.exec (args.map s.eval)) ⟨fun v=>@q0Y (s.put dst v s.heap) ⟨q0W R PR l K⟩⟩:=(rfl)
@[go_sem ↓] theorem qnr (dst:Option Nat) (p:ROp) (args:List Opd) (l:List AOper) (K:St→Prop) (s:St) :
  q0W R PR (⟨dst,.read p,args,none⟩::l) K s = @q4I _ (p.exec (args.map s.eval) s.heap) ⟨fun v=>@q0Y (s.put dst v s.heap) ⟨q0W R PR l K⟩⟩:=(rfl)
@[go_sem ↓] theorem qov (dst:Option Nat) (p:NOp) (args:List Opd) (l:List AOper) (K:St→Prop) (s:St) :
  q0W R PR (⟨dst,.new p,args,none⟩::l) K s = @q4I _ (p.exec (args.map s.eval) s.heap.length) ⟨fun v=>@q0Y (s.put dst v.1 (s.heap++[v.2])) ⟨q0W R PR l K⟩⟩:=(rfl)
@[go_sem ↓] theorem qnc (dst:Option Nat) (j:Nat) (p:NOp) (args:List Opd) (l:List AOper) (K:St→Prop) (s:St) :
  q0W R PR (⟨dst,.newAt j p,args,none⟩::l) K s = @qm8 (p.exec (args.map s.eval) (s.rb+j)) s.heap[s.rb+j]? ⟨fun v=>@q0Y (s.put dst v.1 (s.heap.set (s.rb+j) v.2)) ⟨q0W R PR l K⟩⟩:=(rfl)
@[go_sem ↓] theorem qnB (dst:Option Nat) (p:EOp) (args:List Opd) (l:List AOper) (K:St→Prop) (s:St) :
  q0W R PR (⟨dst,.eff p,args,none⟩::l) K s = @q4I _ (p.exec (args.map s.eval) s.heap) ⟨fun v=>@q0Y (s.put dst v.1 v.2) ⟨q0W R PR l K⟩⟩:=(rfl)
@[go_sem ↓] theorem qnm (dst:Option Nat) (f:Nat) (args:List Opd) (l:List AOper) (K:St→Prop) (s:St) :
  q0W R PR (⟨dst,.call f,args,none⟩::l) K s = @qat R f (args.map s.eval) s.heap ⟨fun v H'=>@q0Y (s.put dst v H') ⟨q0W R PR l K⟩⟩:=(rfl)
@[go_sem ↓] theorem qlL (dst:Option Nat) (f:Nat) (args:List Opd) (l:List AOper) (K:St→Prop) (s:St) :
  q0W R PR (⟨dst,.pcall f,args,none⟩::l) K s =
   @q4I _ (q1v (frz s.heap 6) (args.map s.eval)) ⟨fun ts=>@qcv PR f ts ⟨fun v=>@q0Y (s.put dst v (q0t s.heap (args.map s.eval) v)) ⟨q0W R PR l K⟩⟩⟩:=(rfl)
@[go_sem ↓] theorem qlZ (dst:Option Nat) (args:List Opd) (l:List AOper) (K:St→Prop) (s:St) :
  q0W R PR (⟨dst,.callv,args,none⟩::l) K s = @qmL (args.map s.eval) ⟨fun f as=>@qat R f as s.heap ⟨fun v H'=>@q0Y (s.put dst v H') ⟨q0W R PR l K⟩⟩⟩:=(rfl)
@[go_sem ↓] theorem qnb (dst:Option Nat) (op:AOp) (args:List Opd) (t:Nat) (b:Bool) (l:List AOper) (K:St→Prop) (s:St) :
  q0W R PR (⟨dst,op,args,some (t,b)⟩::l) K s = @q0L (s.wanted (some (t,b))) ⟨q0W R PR (⟨dst,op,args,none⟩::l) K s⟩ ⟨@q0Y (s.put dst undef s.heap) ⟨q0W R PR l K⟩⟩:=(rfl)

@[go_sem ↓] theorem qqI (Q:Ex→St→Prop) (s:St):aw R PR .skip Q s=Q .normal s:=(rfl)
@[go_sem ↓] theorem qrt (l:List AOper) (Q:Ex→St→Prop) (s:St):aw R PR (.ops l) Q s=q0W R PR l (Q .normal) s:=(rfl)
@[go_sem ↓] theorem qrr (a b:ACode) (Q:Ex→St→Prop) (s:St):aw R PR (.seq a b) Q s=aw R PR a (q6E (aw R PR b Q) Q) s:=(rfl)
@[go_sem ↓] theorem qqx (x:Opd) (a b:ACode) (Q:Ex→St→Prop) (s:St):aw R PR (.cond x a b) Q s = @q1Z (s.eval x) ⟨aw R PR a Q s⟩ ⟨aw R PR b Q s⟩:=(rfl)
@[go_sem ↓] theorem qq7 (id:Nat) (b:ACode) (Q:Ex→St→Prop) (s:St):aw R PR (.block id b) Q s=aw R PR b (q4A id Q) s:=(rfl)
@[go_sem ↓] theorem qq1 (live:List Nat) (b:ACode) (Q:Ex→St→Prop) (s:St):aw R PR (.loop live b) Q s = @qdh live s ⟨R,PR,b,Q⟩:=(rfl)
@[go_sem ↓] theorem qq4 (b:ACode) (Q:Ex→St→Prop) (s:St):aw R PR (.scope b) Q s=aw R PR b Q s:=(rfl)
@[go_sem ↓] theorem qiU (id:Nat) (Q:Ex→St→Prop) (s:St):q4A id Q .normal s=Q .normal s:=(rfl)
@[go_sem ↓] theorem qmr (id:Nat) (Q:Ex→St→Prop) (s:St):q4A id Q .ret s=Q .ret s:=(rfl)
@[go_sem ↓] theorem qlz (id:Nat) (Q:Ex→St→Prop) (s:St):q4A id Q (.exit id) s=Q .normal s:=by
 unfold q4A Ex.out
 simp only[if_true]
theorem qan {id i:Nat} (h : ¬ i=id) (Q:Ex→St→Prop) (s:St):q4A id Q (.exit i) s=Q (.exit i) s:=by
 unfold q4A Ex.out
 simp only[h,if_false]
attribute [go_sem] qan
@[go_sem ↓] theorem qqA (id:Nat) (Q:Ex→St→Prop) (s:St):aw R PR (.exit id) Q s=Q (.exit id) s:=(rfl)
@[go_sem ↓] theorem qrw (Q:Ex→St→Prop) (s:St):aw R PR .ret Q s=Q .ret s:=(rfl)
@[go_sem ↓] theorem qja (next:St→Prop) (Q:Ex→St→Prop) (s:St):q6E next Q .normal s=next s:=(rfl)
@[go_sem ↓] theorem qmn (next:St→Prop) (Q:Ex→St→Prop) (i:Nat) (s:St):q6E next Q (.exit i) s=Q (.exit i) s:=(rfl)
@[go_sem ↓] theorem qno (next:St→Prop) (Q:Ex→St→Prop) (s:St):q6E next Q .ret s=Q .ret s:=(rfl)

attribute [go_sem] POp.exec ROp.exec NOp.exec EOp.exec qkP qjW q8p qq0 qpx qpK qpH qma q8M xUn qkN q77 qpC qec qaB q9Z qe9 qaf qeE qa8 qjE qk3 qpQ qqy xMM qnp qdZ
 qlU qhy qhT q7h qre qhH q2p q3p part q2M q7w qaw q87 q7j q7f q7m bounds q5V qb4 undef AV.cells
 qhj Heap.load q64 q6U qa1 oneCell qcT q4g q4s qmq q7Q qfA q4k findKey q3Y q7C AV.one AV.solid
 qnw qog q3m q5w q9h q8s qiK qea q2B q4Z qkZ qdU q5v qhi qgP qb5 qai q5B q7n q49
 Heap.store q7d q2X setCells qn7 Heap.strike q1i Heap.elems q37 Heap.append Heap.flatOf q1v St.wanted AV.aged AV.young AV.isPure AV.pureN AV.isPlain AV.plainN q0t q0k q1t

attribute [go_sem] List.map_cons List.map_nil List.getD_cons_zero List.getD_cons_succ List.getD_nil List.getElem?_cons_zero List.getElem?_cons_succ List.getElem?_nil List.length_cons List.length_nil List.set_cons_zero List.set_cons_succ List.cons_append List.nil_append
 List.replicate_succ List.replicate_zero List.drop_zero List.drop_succ_cons List.take_zero List.take_succ_cons List.take_nil List.drop_nil List.zip_cons_cons List.zip_nil_left List.zip_nil_right List.all_cons List.all_nil List.foldl_cons List.foldl_nil
 if_true if_false ite_true ite_false and_self and_true true_and and_false false_and or_false false_or or_true true_or not_true_eq_false not_false_eq_true ne_eq reduceCtorEq Option.map_some Option.map_none Option.bind_some Option.bind_none
 Bool.and_true Bool.true_and Bool.and_false Bool.false_and Bool.not_true Bool.not_false Bool.false_eq_true decide_true decide_false eq_self Nat.zero_add Nat.add_zero beq_self_eq_true

attribute [go_sem] Nat.reduceAdd Nat.reduceSub Nat.reduceMul Nat.reduceDiv Nat.reduceMod Nat.reduceEqDiff Nat.reduceLeDiff Nat.reduceLT Nat.reduceBEq Nat.reducePow Int.reduceAdd Int.reduceSub Int.reduceMul Int.reduceEq Int.reduceLT Int.reduceLE Int.reduceToNat Int.reduceNeg Int.reduceBEq Int.reduceBNe
def qjb (res:List ResV) (v:AV) (e:Ex) (s:St):Prop:=(e = .normal∨e = .ret)∧∃ u,results res s=some u∧frz s.heap 6 u=some v
theorem qdW {res:List ResV} {v:AV} {e:Ex} {s:St} (he:e = .normal∨e = .ret) (h:(results res s).bind (frz s.heap 6)=some v):qjb res v e s:=by
 cases hr:results res s with
 | none=>rw[hr] at h; cases h
 | some u=>rw[hr] at h; exact ⟨he,u,hr,h⟩
theorem qbz (res:List ResV) (v:AV) (s:St):qjb res v .ret s=((results res s).bind (frz s.heap 6)=some v):=by
 apply propext
 constructor
 ·rintro ⟨_,u,h1,h2⟩
  rw[h1]; exact h2
 ·exact fun h=>qdW (.inr rfl) h
theorem q81 (res:List ResV) (v:AV) (s:St):qjb res v .normal s=((results res s).bind (frz s.heap 6)=some v):=by
 apply propext
 constructor
 ·rintro ⟨_,u,h1,h2⟩
  rw[h1]; exact h2
 ·exact fun h=>qdW (.inl rfl) h
attribute [go_sem] qbz q81 results q8a
@[go_sem] theorem qqr (H:Heap) (k:Go.IntKind) (n:Int):frz H 1 (.int k n)=some (.int k n):=(rfl)
@[go_sem] theorem qob (H:Heap) (b:Bool):frz H 1 (.bool b)=some (.bool b):=(rfl)
@[go_sem] theorem qpD (H:Heap) (b:List UInt8):frz H 1 (.str b)=some (.str b):=(rfl)
@[go_sem] theorem qny (H:Heap)  : frz H 1 .nilp=some .nilp:=(rfl)
@[go_sem] theorem qo5 (H:Heap)  : frz H 1 .nilf=some .nilf:=(rfl)
@[go_sem] theorem qpc (H:Heap)  : frz H 1 .nili=some .nili:=(rfl)
@[go_sem] theorem qpk (H:Heap)  : frz H 1 .nilm=some .nilm:=(rfl)
@[go_sem] theorem qq8 (H:Heap) (n:Nat) (l:List AV):frz H 1 (.tsl n l)=some (.tsl n l):=(rfl)
@[go_sem] theorem qoM (H:Heap) (cs:List AV) (o:Nat):frz H 1 (.tptr cs o)=some (.tptr cs o):=(rfl)
@[go_sem] theorem qnC (H:Heap) (n:Nat):frz H 1 (.snil n)=some (.tsl n []):=(rfl)
@[go_sem] theorem qqb (H:Heap) (cs:List AV):frz H 1 (.agg cs)=(q1v (frz H 0) cs).map .agg:=(rfl)
@[go_sem] theorem qqi (H:Heap) (cs:List AV):frz H 1 (.tup cs)=(q1v (frz H 0) cs).map .tup:=(rfl)
@[go_sem] theorem qqN (H:Heap) (f:Nat) (cap:List AV):frz H 1 (.fn f cap)=(q1v (frz H 0) cap).map (.fn f):=(rfl)
@[go_sem] theorem qqt (H:Heap) (n r i off:Nat):frz H 1 (.ptr n r i off) =
  match H[r]? with
  | some (.row n' els _ fl _)=>if n'=n then (match els[i]? with | some e=>if fl then some (.tptr e.cells off) else (q1v (frz H 0) e.cells).map fun cs=>.tptr cs off | none=>none) else none
  | _=>none:=(rfl)
@[go_sem] theorem qoh (H:Heap) (n r i len:Nat):frz H 1 (.sref n r i len) =
  match H[r]? with
  | some (.row n' els _ fl _)=>if n'=n∧i+len≤els.length then (if fl then some (.tsl n ((els.drop i).take len)) else (q1v (frz H 0) ((els.drop i).take len)).map (.tsl n)) else none
  | _=>none:=(rfl)
@[go_sem] theorem qpL (H:Heap) (k:Go.IntKind) (n:Int):frz H 2 (.int k n)=some (.int k n):=(rfl)
@[go_sem] theorem qoO (H:Heap) (b:Bool):frz H 2 (.bool b)=some (.bool b):=(rfl)
@[go_sem] theorem qql (H:Heap) (b:List UInt8):frz H 2 (.str b)=some (.str b):=(rfl)
@[go_sem] theorem qoe (H:Heap)  : frz H 2 .nilp=some .nilp:=(rfl)
@[go_sem] theorem qnF (H:Heap)  : frz H 2 .nilf=some .nilf:=(rfl)
@[go_sem] theorem qpo (H:Heap)  : frz H 2 .nili=some .nili:=(rfl)
@[go_sem] theorem qpj (H:Heap)  : frz H 2 .nilm=some .nilm:=(rfl)
@[go_sem] theorem qqo (H:Heap) (n:Nat) (l:List AV):frz H 2 (.tsl n l)=some (.tsl n l):=(rfl)
@[go_sem] theorem qoH (H:Heap) (cs:List AV) (o:Nat):frz H 2 (.tptr cs o)=some (.tptr cs o):=(rfl)
@[go_sem] theorem qof (H:Heap) (n:Nat):frz H 2 (.snil n)=some (.tsl n []):=(rfl)
@[go_sem] theorem qq9 (H:Heap) (cs:List AV):frz H 2 (.agg cs)=(q1v (frz H 1) cs).map .agg:=(rfl)
@[go_sem] theorem qpO (H:Heap) (cs:List AV):frz H 2 (.tup cs)=(q1v (frz H 1) cs).map .tup:=(rfl)
@[go_sem] theorem qqJ (H:Heap) (f:Nat) (cap:List AV):frz H 2 (.fn f cap)=(q1v (frz H 1) cap).map (.fn f):=(rfl)
@[go_sem] theorem qpV (H:Heap) (n r i off:Nat):frz H 2 (.ptr n r i off) =
  match H[r]? with
  | some (.row n' els _ fl _)=>if n'=n then (match els[i]? with | some e=>if fl then some (.tptr e.cells off) else (q1v (frz H 1) e.cells).map fun cs=>.tptr cs off | none=>none) else none
  | _=>none:=(rfl)
@[go_sem] theorem qoz (H:Heap) (n r i len:Nat):frz H 2 (.sref n r i len) =
  match H[r]? with
  | some (.row n' els _ fl _)=>if n'=n∧i+len≤els.length then (if fl then some (.tsl n ((els.drop i).take len)) else (q1v (frz H 1) ((els.drop i).take len)).map (.tsl n)) else none
  | _=>none:=(rfl)
@[go_sem] theorem qqa (H:Heap) (k:Go.IntKind) (n:Int):frz H 3 (.int k n)=some (.int k n):=(rfl)
@[go_sem] theorem qnT (H:Heap) (b:Bool):frz H 3 (.bool b)=some (.bool b):=(rfl)
@[go_sem] theorem qpS (H:Heap) (b:List UInt8):frz H 3 (.str b)=some (.str b):=(rfl)
@[go_sem] theorem qpu (H:Heap)  : frz H 3 .nilp=some .nilp:=(rfl)
@[go_sem] theorem qpf (H:Heap)  : frz H 3 .nilf=some .nilf:=(rfl)
@[go_sem] theorem qoJ (H:Heap)  : frz H 3 .nili=some .nili:=(rfl)
@[go_sem] theorem qoY (H:Heap)  : frz H 3 .nilm=some .nilm:=(rfl)
@[go_sem] theorem qpT (H:Heap) (n:Nat) (l:List AV):frz H 3 (.tsl n l)=some (.tsl n l):=(rfl)
@[go_sem] theorem qnJ (H:Heap) (cs:List AV) (o:Nat):frz H 3 (.tptr cs o)=some (.tptr cs o):=(rfl)
@[go_sem] theorem qpw (H:Heap) (n:Nat):frz H 3 (.snil n)=some (.tsl n []):=(rfl)
@[go_sem] theorem qpG (H:Heap) (cs:List AV):frz H 3 (.agg cs)=(q1v (frz H 2) cs).map .agg:=(rfl)
@[go_sem] theorem qqn (H:Heap) (cs:List AV):frz H 3 (.tup cs)=(q1v (frz H 2) cs).map .tup:=(rfl)
@[go_sem] theorem qqC (H:Heap) (f:Nat) (cap:List AV):frz H 3 (.fn f cap)=(q1v (frz H 2) cap).map (.fn f):=(rfl)
@[go_sem] theorem qpA (H:Heap) (n r i off:Nat):frz H 3 (.ptr n r i off) =
  match H[r]? with
  | some (.row n' els _ fl _)=>if n'=n then (match els[i]? with | some e=>if fl then some (.tptr e.cells off) else (q1v (frz H 2) e.cells).map fun cs=>.tptr cs off | none=>none) else none
  | _=>none:=(rfl)
@[go_sem] theorem qnM (H:Heap) (n r i len:Nat):frz H 3 (.sref n r i len) =
  match H[r]? with
  | some (.row n' els _ fl _)=>if n'=n∧i+len≤els.length then (if fl then some (.tsl n ((els.drop i).take len)) else (q1v (frz H 2) ((els.drop i).take len)).map (.tsl n)) else none
  | _=>none:=(rfl)
@[go_sem] theorem qpP (H:Heap) (k:Go.IntKind) (n:Int):frz H 4 (.int k n)=some (.int k n):=(rfl)
@[go_sem] theorem qo6 (H:Heap) (b:Bool):frz H 4 (.bool b)=some (.bool b):=(rfl)
@[go_sem] theorem qpB (H:Heap) (b:List UInt8):frz H 4 (.str b)=some (.str b):=(rfl)
@[go_sem] theorem qpv (H:Heap)  : frz H 4 .nilp=some .nilp:=(rfl)
@[go_sem] theorem qoa (H:Heap)  : frz H 4 .nilf=some .nilf:=(rfl)
@[go_sem] theorem qp8 (H:Heap)  : frz H 4 .nili=some .nili:=(rfl)
@[go_sem] theorem qox (H:Heap)  : frz H 4 .nilm=some .nilm:=(rfl)
@[go_sem] theorem qpR (H:Heap) (n:Nat) (l:List AV):frz H 4 (.tsl n l)=some (.tsl n l):=(rfl)
@[go_sem] theorem qo4 (H:Heap) (cs:List AV) (o:Nat):frz H 4 (.tptr cs o)=some (.tptr cs o):=(rfl)
@[go_sem] theorem qow (H:Heap) (n:Nat):frz H 4 (.snil n)=some (.tsl n []):=(rfl)
@[go_sem] theorem qpY (H:Heap) (cs:List AV):frz H 4 (.agg cs)=(q1v (frz H 3) cs).map .agg:=(rfl)
@[go_sem] theorem qqw (H:Heap) (cs:List AV):frz H 4 (.tup cs)=(q1v (frz H 3) cs).map .tup:=(rfl)
@[go_sem] theorem qqR (H:Heap) (f:Nat) (cap:List AV):frz H 4 (.fn f cap)=(q1v (frz H 3) cap).map (.fn f):=(rfl)
@[go_sem] theorem qq3 (H:Heap) (n r i off:Nat):frz H 4 (.ptr n r i off) =
  match H[r]? with
  | some (.row n' els _ fl _)=>if n'=n then (match els[i]? with | some e=>if fl then some (.tptr e.cells off) else (q1v (frz H 3) e.cells).map fun cs=>.tptr cs off | none=>none) else none
  | _=>none:=(rfl)
@[go_sem] theorem qoc (H:Heap) (n r i len:Nat):frz H 4 (.sref n r i len) =
  match H[r]? with
  | some (.row n' els _ fl _)=>if n'=n∧i+len≤els.length then (if fl then some (.tsl n ((els.drop i).take len)) else (q1v (frz H 3) ((els.drop i).take len)).map (.tsl n)) else none
  | _=>none:=(rfl)
@[go_sem] theorem qqg (H:Heap) (k:Go.IntKind) (n:Int):frz H 5 (.int k n)=some (.int k n):=(rfl)
@[go_sem] theorem qoy (H:Heap) (b:Bool):frz H 5 (.bool b)=some (.bool b):=(rfl)
@[go_sem] theorem qqs (H:Heap) (b:List UInt8):frz H 5 (.str b)=some (.str b):=(rfl)
@[go_sem] theorem qpr (H:Heap)  : frz H 5 .nilp=some .nilp:=(rfl)
@[go_sem] theorem qnH (H:Heap)  : frz H 5 .nilf=some .nilf:=(rfl)
@[go_sem] theorem qoN (H:Heap)  : frz H 5 .nili=some .nili:=(rfl)
@[go_sem] theorem qnV (H:Heap)  : frz H 5 .nilm=some .nilm:=(rfl)
@[go_sem] theorem qqq (H:Heap) (n:Nat) (l:List AV):frz H 5 (.tsl n l)=some (.tsl n l):=(rfl)
@[go_sem] theorem qoD (H:Heap) (cs:List AV) (o:Nat):frz H 5 (.tptr cs o)=some (.tptr cs o):=(rfl)
@[go_sem] theorem qpq (H:Heap) (n:Nat):frz H 5 (.snil n)=some (.tsl n []):=(rfl)
@[go_sem] theorem qpI (H:Heap) (cs:List AV):frz H 5 (.agg cs)=(q1v (frz H 4) cs).map .agg:=(rfl)
@[go_sem] theorem qpy (H:Heap) (cs:List AV):frz H 5 (.tup cs)=(q1v (frz H 4) cs).map .tup:=(rfl)
@[go_sem] theorem qr5 (H:Heap) (f:Nat) (cap:List AV):frz H 5 (.fn f cap)=(q1v (frz H 4) cap).map (.fn f):=(rfl)
@[go_sem] theorem qqp (H:Heap) (n r i off:Nat):frz H 5 (.ptr n r i off) =
  match H[r]? with
  | some (.row n' els _ fl _)=>if n'=n then (match els[i]? with | some e=>if fl then some (.tptr e.cells off) else (q1v (frz H 4) e.cells).map fun cs=>.tptr cs off | none=>none) else none
  | _=>none:=(rfl)
@[go_sem] theorem qnK (H:Heap) (n r i len:Nat):frz H 5 (.sref n r i len) =
  match H[r]? with
  | some (.row n' els _ fl _)=>if n'=n∧i+len≤els.length then (if fl then some (.tsl n ((els.drop i).take len)) else (q1v (frz H 4) ((els.drop i).take len)).map (.tsl n)) else none
  | _=>none:=(rfl)
@[go_sem] theorem qpW (H:Heap) (k:Go.IntKind) (n:Int):frz H 6 (.int k n)=some (.int k n):=(rfl)
@[go_sem] theorem qp7 (H:Heap) (b:Bool):frz H 6 (.bool b)=some (.bool b):=(rfl)
@[go_sem] theorem qqh (H:Heap) (b:List UInt8):frz H 6 (.str b)=some (.str b):=(rfl)
@[go_sem] theorem qoX (H:Heap)  : frz H 6 .nilp=some .nilp:=(rfl)
@[go_sem] theorem qnP (H:Heap)  : frz H 6 .nilf=some .nilf:=(rfl)
@[go_sem] theorem qoP (H:Heap)  : frz H 6 .nili=some .nili:=(rfl)
@[go_sem] theorem qpp (H:Heap)  : frz H 6 .nilm=some .nilm:=(rfl)
@[go_sem] theorem qq5 (H:Heap) (n:Nat) (l:List AV):frz H 6 (.tsl n l)=some (.tsl n l):=(rfl)
@[go_sem] theorem qnZ (H:Heap) (cs:List AV) (o:Nat):frz H 6 (.tptr cs o)=some (.tptr cs o):=(rfl)
@[go_sem] theorem qp2 (H:Heap) (n:Nat):frz H 6 (.snil n)=some (.tsl n []):=(rfl)
@[go_sem] theorem qpF (H:Heap) (cs:List AV):frz H 6 (.agg cs)=(q1v (frz H 5) cs).map .agg:=(rfl)
@[go_sem] theorem qqf (H:Heap) (cs:List AV):frz H 6 (.tup cs)=(q1v (frz H 5) cs).map .tup:=(rfl)
@[go_sem] theorem qqS (H:Heap) (f:Nat) (cap:List AV):frz H 6 (.fn f cap)=(q1v (frz H 5) cap).map (.fn f):=(rfl)
@[go_sem] theorem qpz (H:Heap) (n r i off:Nat):frz H 6 (.ptr n r i off) =
  match H[r]? with
  | some (.row n' els _ fl _)=>if n'=n then (match els[i]? with | some e=>if fl then some (.tptr e.cells off) else (q1v (frz H 5) e.cells).map fun cs=>.tptr cs off | none=>none) else none
  | _=>none:=(rfl)
@[go_sem] theorem qoG (H:Heap) (n r i len:Nat):frz H 6 (.sref n r i len) =
  match H[r]? with
  | some (.row n' els _ fl _)=>if n'=n∧i+len≤els.length then (if fl then some (.tsl n ((els.drop i).take len)) else (q1v (frz H 5) ((els.drop i).take len)).map (.tsl n)) else none
  | _=>none:=(rfl)
end
section
variable {C:Ctx}
theorem q04 {f:Nat} (fn:AFn) {ts:List AV} {v:AV} (hf:C.code f=some fn) (h : @q0Y (enter fn ts []) ⟨aw (q1M C) (q0f C) fn.body (qjb fn.res v)⟩):q0f C f ts v:=qg0 hf h
end
section
variable {R:Nat→List AV→Heap→AV→Heap→Prop} {PR:Nat→List AV→AV→Prop}
theorem q08 {α:Type} {live:List Nat} {b:ACode} {Q:Ex→St→Prop} {s:St} (st:α→St) (Inv:α→Prop) (μ:α→Nat) (a0:α) (h0:s.norm live=st a0) (hi:Inv a0)
  (round : ∀ a,Inv a→aw R PR b (q6E (fun t=>∃ a',t.norm live=st a'∧Inv a'∧μ a'<μ a) Q) (st a)) : @qdh live s ⟨R,PR,b,Q⟩:=qmE st Inv μ a0 h0 hi round
theorem q00 {f:Nat} {ts:List AV} {k:AV→Prop} (v:AV) (h:PR f ts v) (hk:k v) : @qcv PR f ts ⟨k⟩:=⟨v,h,hk⟩
theorem q0l {f:Nat} {args:List AV} {H:Heap} {k:AV→Heap→Prop} (v:AV) (H':Heap) (h:R f args H v H') (hk:k v H') : @qat R f args H ⟨k⟩:=⟨v,H',h,hk⟩
end
end Ago


namespace Ago
open Go (IntKind)

theorem w64 {n:Int} (h1 : -9223372036854775808≤n) (h2:n<9223372036854775808):IntKind.wrap .i64 n=n:=by
 simp [IntKind.wrap,IntKind.bits,IntKind.signed]
 split<;>omega
theorem qrK (c:UInt8):IntKind.wrap .i64 (c.toNat:Int)=c.toNat:=by
 have:=c.toNat_lt
 exact w64 (by omega) (by omega)
theorem w8 {n:Int} (h1:0≤n) (h2:n<256):IntKind.wrap .u8 n=n:=by
 simp [IntKind.wrap,IntKind.bits,IntKind.signed]
 omega

theorem dT {a b:Int} (h:a<b):decide (a<b)=true:=by simp [h]
theorem dF {a b:Int} (h:b≤a):decide (a<b)=false:=by simp; omega
theorem dlT {a b:Int} (h:a≤b):decide (a≤b)=true:=by simp [h]
theorem dlF {a b:Int} (h:b<a):decide (a≤b)=false:=by simp; omega
theorem qrG {a b:Int} (h:a=b):(a == b)=true:=by simp [h]
theorem qrQ {a b:Int} (h : ¬ a=b):(a == b)=false:=by simp [h]
theorem qrL {a b:Int} (h : ¬ a=b):(a != b)=true:=by simp [h]
theorem qrH {a b:Int} (h:a=b):(a != b)=false:=by simp [h]
theorem leT {a b:Int} (h:a≤b):(a≤b)=True:=by simp [h]
theorem ltT {a b:Int} (h:a<b):(a<b)=True:=by simp [h]
theorem qrR {a b:Nat} (h:a≤b):(a≤b)=True:=by simp [h]

@[go_sem] theorem qnk (s:St) (t:Nat) (b:Bool) (h:s.tmps[t]?=some (.tup [])):s.wanted (some (t,b))=some false:=by simp [St.wanted,h]

def q0i (n:Nat) (l:List (Nat × AV)):List AV:=l.foldl (fun s x=>s.set x.1 x.2) (List.replicate n .dead)
end Ago
namespace Ago
section
variable {p:Prop} [Decidable p] {A B:Prop} {a b:Int} {c:Bool}
theorem qh3 (h1 : ¬ p→A) (h2:p→B) : @q0L (some (decide p == false)) ⟨A⟩ ⟨B⟩:=by
 by_cases h:p
 ·simpa [q0L,q2d,h] using h2 h
 ·simpa [q0L,q2d,h] using h1 h
theorem qhZ (h1:p→A) (h2 : ¬ p→B) : @q0L (some (decide p == true)) ⟨A⟩ ⟨B⟩:=by
 by_cases h:p
 ·simpa [q0L,q2d,h] using h1 h
 ·simpa [q0L,q2d,h] using h2 h
theorem q6B:(a == b)=decide (a=b):=by by_cases h:a=b<;>simp [h]
theorem q7t:(a != b)=decide (¬ a=b):=by by_cases h:a=b<;>simp [h]
theorem qos (h1 : ¬ a=b→A) (h2:a=b→B) : @q0L (some ((a == b) == false)) ⟨A⟩ ⟨B⟩:=by
 rw[q6B]
 exact qh3 h1 h2
theorem qot (h1:a=b→A) (h2 : ¬ a=b→B) : @q0L (some ((a == b) == true)) ⟨A⟩ ⟨B⟩:=by
 rw[q6B]
 exact qhZ h1 h2
theorem qoB (h1:a=b→A) (h2 : ¬ a=b→B) : @q0L (some ((a != b) == false)) ⟨A⟩ ⟨B⟩:=by
 rw[q7t]
 exact qh3 (fun h=>h1 (Classical.not_not.1 h)) h2
theorem qnA (h1 : ¬ a=b→A) (h2:a=b→B) : @q0L (some ((a != b) == true)) ⟨A⟩ ⟨B⟩:=by
 rw[q7t]
 exact qhZ h1 (fun h=>h2 (Classical.not_not.1 h))
theorem qnx (h1:c=false→A) (h2:c=true→B) : @q0L (some (c == false)) ⟨A⟩ ⟨B⟩:=by
 cases c
 ·exact h1 rfl
 ·exact h2 rfl
theorem qpd (h1:c=true→A) (h2:c=false→B) : @q0L (some (c == true)) ⟨A⟩ ⟨B⟩:=by
 cases c
 ·exact h2 rfl
 ·exact h1 rfl
theorem qnf (h1:p→A) (h2 : ¬ p→B) : @q1Z (.bool (decide p)) ⟨A⟩ ⟨B⟩:=by
 by_cases h:p
 ·simpa [q1Z,q5Z,h] using h1 h
 ·simpa [q1Z,q5Z,h] using h2 h
theorem qrg (h1:a=b→A) (h2 : ¬ a=b→B) : @q1Z (.bool (a == b)) ⟨A⟩ ⟨B⟩:=by
 rw[q6B]
 exact qnf h1 h2
theorem qqY (h1 : ¬ a=b→A) (h2:a=b→B) : @q1Z (.bool (a != b)) ⟨A⟩ ⟨B⟩:=by
 rw[q7t]
 exact qnf h1 (fun h=>h2 (Classical.not_not.1 h))
theorem qqK (h1:c=true→A) (h2:c=false→B) : @q1Z (.bool c) ⟨A⟩ ⟨B⟩:=by
 cases c
 ·exact h2 rfl
 ·exact h1 rfl
theorem qoo (h1:c=false→A) (h2:c=true→B) : @q1Z (.bool (!c)) ⟨A⟩ ⟨B⟩:=by
 cases c
 ·exact h1 rfl
 ·exact h2 rfl
theorem qm1 (h1:c=true→A) (h2:c=false→B) : @q0L (some ((!c) == false)) ⟨A⟩ ⟨B⟩:=by
 cases c
 ·exact h2 rfl
 ·exact h1 rfl
theorem qmf (h1:c=false→A) (h2:c=true→B) : @q0L (some ((!c) == true)) ⟨A⟩ ⟨B⟩:=by
 cases c
 ·exact h1 rfl
 ·exact h2 rfl
end
end Ago
namespace Ago
@[go_sem] theorem bTT:(true == true)=true:=(rfl)
@[go_sem] theorem bTF:(true == false)=false:=(rfl)
@[go_sem] theorem bFT:(false == true)=false:=(rfl)
@[go_sem] theorem bFF:(false == false)=true:=(rfl)
end Ago
namespace Ago
def qfv (res:List ResV) (k:AV→Prop) (e:Ex) (s:St):Prop:=(e = .normal∨e = .ret)∧q2w ((results res s).bind (frz s.heap 6)) k
@[go_sem] theorem qnO (res:List ResV) (k:AV→Prop) (s:St):qfv res k .ret s=q2w ((results res s).bind (frz s.heap 6)) k:=by simp [qfv]
@[go_sem] theorem qlr (res:List ResV) (k:AV→Prop) (s:St):qfv res k .normal s=q2w ((results res s).bind (frz s.heap 6)) k:=by simp [qfv]
@[go_sem] theorem qmX {α:Type} (v:α) (k:α→Prop):q2w (some v) k=k v:=(rfl)
theorem q3A {C:Ctx} {f:Nat} (fn:AFn) {ts:List AV} {k:AV→Prop} (hf:C.code f=some fn) (h : @q0Y (enter fn ts []) ⟨aw (q1M C) (q0f C) fn.body (qfv fn.res k)⟩) : ∃ v,q0f C f ts v∧k v:=by
 obtain ⟨e,s,h1,he,h2⟩:=q22 fn.body (qfv fn.res k) _ h
 obtain ⟨v,h3,h4⟩:=q1a h2
 obtain ⟨u,h5,h6⟩:=Option.bind_eq_some_iff.1 h3
 exact ⟨v,.prun hf h1 he h5 h6,h4⟩
theorem qnX:lim=2147483648:=(rfl)
theorem qr6:((0:Nat):Int)=0:=(rfl)
theorem qr8:((1:Nat):Int)=1:=(rfl)
attribute [go_sem] q0i List.flatMap_cons List.flatMap_nil List.append_nil qrK qnX Int.reducePow qr6 qr8 Int.cast_ofNat_Int w64 w8 dT dF dlT dlF qrG qrQ qrL qrH leT ltT qrR Int.toNat_natCast

def q5g (code:Nat→Option AFn) (clR clP:Nat→Option (Nat × Nat)):Ctx where
 code:=code
 prim f args H v H':=∃ p x,clR f=some p∧args=[x]∧q2B p.1 p.2 (H++[.gone]) [.snil p.1,x]=some (v,H')
 pprim f ts v:=∃ p l,clP f=some p∧ts=[.tsl p.1 l]∧l.length≤lim∧l.length * p.2≤2^40∧v = .tsl p.1 l
theorem qll {code:Nat→Option AFn} {clR clP:Nat→Option (Nat × Nat)} {f n b:Nat} (h:clP f=some (n,b)) (l:List AV) (h1:l.length≤lim) (h2:l.length * b≤2^40):q0f (q5g code clR clP) f [.tsl n l] (.tsl n l):=
 .pprim ⟨(n,b),l,h,rfl,h1,h2,rfl⟩
attribute [irreducible] q4I q1Z q0L qm8 qmL q0Y qat qcv qdh
end Ago
namespace Ago
section
variable {R:Nat→List AV→Heap→AV→Heap→Prop} {PR:Nat→List AV→AV→Prop}

theorem q15 : ∀ (l:List AOper) (K:St→Prop) (s:St),q0W R PR l K s→∃ s',q0W R PR l (fun t=>t=s') s∧K s'
 | [],K,s,h=>⟨s,rfl,h⟩
 | ⟨dst,op,args,g⟩::l,K,s,h=>by
  unfold q0W at h
  rcases q7X h with ⟨hw,h⟩ | ⟨hw,h⟩
  ·cases op with
   | pure p=>
    obtain ⟨v,hv,h⟩:=q1a h
    obtain ⟨s',h1,h2⟩:=q15 l K _ h
    refine ⟨s',?_,h2⟩
    unfold q0W
    simp only[hw,q2d,hv,q2w]
    exact h1
   | read p=>
    obtain ⟨v,hv,h⟩:=q1a h
    obtain ⟨s',h1,h2⟩:=q15 l K _ h
    refine ⟨s',?_,h2⟩
    unfold q0W
    simp only[hw,q2d,hv,q2w]
    exact h1
   | new p=>
    obtain ⟨v,hv,h⟩:=q1a h
    obtain ⟨s',h1,h2⟩:=q15 l K _ h
    refine ⟨s',?_,h2⟩
    unfold q0W
    simp only[hw,q2d,hv,q2w]
    exact h1
   | newAt j p=>
    obtain ⟨v,hv,hf,h⟩:=qbM h
    obtain ⟨s',h1,h2⟩:=q15 l K _ h
    refine ⟨s',?_,h2⟩
    unfold q0W
    simp only[hw,q2d,hv,hf,qls]
    exact h1
   | eff p=>
    obtain ⟨v,hv,h⟩:=q1a h
    obtain ⟨s',h1,h2⟩:=q15 l K _ h
    refine ⟨s',?_,h2⟩
    unfold q0W
    simp only[hw,q2d,hv,q2w]
    exact h1
   | call f=>
    obtain ⟨v,H',hr,h⟩:=h
    obtain ⟨s',h1,h2⟩:=q15 l K _ h
    refine ⟨s',?_,h2⟩
    unfold q0W
    simp only[hw,q2d]
    exact ⟨v,H',hr,h1⟩
   | pcall f=>
    obtain ⟨ts,ha,v,hr,h⟩:=q1a h
    obtain ⟨s',h1,h2⟩:=q15 l K _ h
    refine ⟨s',?_,h2⟩
    unfold q0W
    simp only[hw,q2d,ha,q2w]
    exact ⟨v,hr,h1⟩
   | callv=>
    obtain ⟨f,cap,as,ha,v,H',hr,h⟩:=qb9 h
    obtain ⟨s',h1,h2⟩:=q15 l K _ h
    refine ⟨s',?_,h2⟩
    unfold q0W
    simp only[hw,q2d,ha,qlu]
    exact ⟨v,H',hr,h1⟩
   | bad=>exact h.elim
  ·obtain ⟨s',h1,h2⟩:=q15 l K _ h
   refine ⟨s',?_,h2⟩
   unfold q0W
   simp only[hw,q2d]
   exact h1

@[go_sem ↓] theorem qpM (k:Nat) (l:List AOper) (Q:Ex→St→Prop) (s:St):aw R PR (.draw k [l]) Q s = @q0Y (s.keep k) ⟨q0W R PR l fun t=>Q .normal { t with rb:=0 }⟩:=by
 apply propext
 unfold q0Y
 constructor
 ·rintro ⟨s',_,h1,h2⟩
  exact q1u (fun t ht=>by rw[ht]; exact h2) l _ (h1 l (by simp))
 ·intro h
  obtain ⟨s',h1,h2⟩:=q15 l _ _ h
  exact ⟨s',by simp,fun l' hl'=>by rw[List.mem_singleton.1 hl']; exact h1,h2⟩

@[go_sem] theorem q4j (tm:List AV) (h:Heap) (b rb k:Nat):St.keep ⟨tm,h,b,rb⟩ k=⟨tm,h++List.replicate k .resv,b,h.length⟩:=(rfl)
end
end Ago
namespace Ago
theorem q8W {C C':Ctx} (h1 : ∀ f fn,C.code f=some fn→C'.code f=some fn) (h2 : ∀ f a H v H',C.prim f a H v H'→C'.prim f a H v H') (h3 : ∀ f t v,C.pprim f t v→C'.pprim f t v) {j:J} (h:BS C j):BS C' j:=by
 induction h with
 | prim h=>exact .prim (h2 _ _ _ _ _ h)
 | pprim h=>exact .pprim (h3 _ _ _ h)
 | nil s=>exact .nil s
 | pass hw _ ih=>exact .pass hw ih
 | pure hw ho hv _ ih=>exact .pure hw ho hv ih
 | read hw ho hv _ ih=>exact .read hw ho hv ih
 | new hw ho hv _ ih=>exact .new hw ho hv ih
 | newAt hw ho hv hf _ ih=>exact .newAt hw ho hv hf ih
 | eff hw ho hv _ ih=>exact .eff hw ho hv ih
 | call hw ho _ _ ihv ih=>exact .call hw ho ihv ih
 | pcall hw ho ha _ _ ihr ih=>exact .pcall hw ho ha ihr ih
 | callv hw ho ha _ _ ihv ih=>exact .callv hw ho ha ihv ih
 | skip s=>exact .skip s
 | ops _ ih=>exact .ops ih
 | draw hne _ ih=>exact .draw hne ih
 | seq _ _ ih1 ih2=>exact .seq ih1 ih2
 | seqE _ he ih=>exact .seqE ih he
 | condT hx _ ih=>exact .condT hx ih
 | condF hx _ ih=>exact .condF hx ih
 | block _ ih=>exact .block ih
 | scope _ ih=>exact .scope ih
 | loop _ _ ih1 ih2=>exact .loop ih1 ih2
 | loopE _ he ih=>exact .loopE ih he
 | exit id s=>exact .exit id s
 | ret s=>exact .ret s
 | run hf _ he hr ih=>exact .run (by rw[h1]; exact hf) ih he hr
 | prun hf _ he hr hv ih=>exact .prun (by rw[h1]; exact hf) ih he hr hv
end Ago

namespace Ago
class Spl (p:Prop) (a b:outParam Prop):Prop where
 go:a→b→p
theorem spl {p a b:Prop} [s:Spl p a b] (h1:a) (h2:b):p:=s.go h1 h2
section
variable {p:Prop} [Decidable p] {A B:Prop} {a b:Int} {c:Bool}
instance:Spl (@q1Z (.bool c) ⟨A⟩ ⟨B⟩) (c=true→A) (c=false→B):=⟨qqK⟩
instance:Spl (@q1Z (.bool (!c)) ⟨A⟩ ⟨B⟩) (c=false→A) (c=true→B):=⟨qoo⟩
instance:Spl (@q1Z (.bool (a != b)) ⟨A⟩ ⟨B⟩) (¬ a=b→A) (a=b→B):=⟨qqY⟩
instance:Spl (@q1Z (.bool (a == b)) ⟨A⟩ ⟨B⟩) (a=b→A) (¬ a=b→B):=⟨qrg⟩
instance:Spl (@q1Z (.bool (decide p)) ⟨A⟩ ⟨B⟩) (p→A) (¬ p→B):=⟨qnf⟩
instance:Spl (@q0L (some (c == true)) ⟨A⟩ ⟨B⟩) (c=true→A) (c=false→B):=⟨qpd⟩
instance:Spl (@q0L (some (c == false)) ⟨A⟩ ⟨B⟩) (c=false→A) (c=true→B):=⟨qnx⟩
instance:Spl (@q0L (some ((!c) == true)) ⟨A⟩ ⟨B⟩) (c=false→A) (c=true→B):=⟨qmf⟩
instance:Spl (@q0L (some ((!c) == false)) ⟨A⟩ ⟨B⟩) (c=true→A) (c=false→B):=⟨qm1⟩
instance:Spl (@q0L (some ((a != b) == true)) ⟨A⟩ ⟨B⟩) (¬ a=b→A) (a=b→B):=⟨qnA⟩
instance:Spl (@q0L (some ((a != b) == false)) ⟨A⟩ ⟨B⟩) (a=b→A) (¬ a=b→B):=⟨qoB⟩
instance:Spl (@q0L (some ((a == b) == true)) ⟨A⟩ ⟨B⟩) (a=b→A) (¬ a=b→B):=⟨qot⟩
instance:Spl (@q0L (some ((a == b) == false)) ⟨A⟩ ⟨B⟩) (¬ a=b→A) (a=b→B):=⟨qos⟩
instance:Spl (@q0L (some (decide p == true)) ⟨A⟩ ⟨B⟩) (p→A) (¬ p→B):=⟨qhZ⟩
instance:Spl (@q0L (some (decide p == false)) ⟨A⟩ ⟨B⟩) (¬ p→A) (p→B):=⟨qh3⟩
end
end Ago
