/- The abstract machine computed by simp: the transformer's equations,one an operation,the continuation behind a word that simp does not enter. -/
import Derived.Test.YtjeahlpkonkjiaaGreatDoorOMachA
import Derived.Attr
set_option linter.unusedSimpArgs false
set_option linter.unusedVariables false
namespace Ago
section
variable {R:Nat→List AV→Heap→AV→Heap→Prop} {PR:Nat→List AV→AV→Prop}

class KF (α:Type) where
 k:α→Prop
class KP where
 p:Prop
class KC where
 k:AV→Heap→Prop
class KN where
 k:Nat→List AV→Prop
class KL where
 R:Nat→List AV→Heap→AV→Heap→Prop
 PR:Nat→List AV→AV→Prop
 b:ACode
 Q:Ex→St→Prop

def q5e {α:Type} (x:Option α) [c:KF α]:Prop:=q2Y x c.k
def q2g (x:AV) [a:KP] [b:KP]:Prop:=q6R x a.p b.p
def q0Q (x:Option Bool) [a:KP] [b:KP]:Prop:=q2A x a.p b.p
def qqI (x:Option (AV × Blk)) (y:Option Blk) [c:KF (AV × Blk)]:Prop:=qoK x y c.k
def qrd (l:List AV) [c:KN]:Prop:=qoo l c.k
def q0N (s:St) [c:KF St]:Prop:=c.k s
def qaW (R:Nat→List AV→Heap→AV→Heap→Prop) (f:Nat) (args:List AV) (H:Heap) [c:KC]:Prop:=qje R f args H c.k
def qeV (PR:Nat→List AV→AV→Prop) (f:Nat) (ts:List AV) [c:KF AV]:Prop:=qoX PR f ts c.k
def qeo (live:List Nat) (s:St) [c:KL]:Prop:=aw c.R c.PR (.loop live c.b) c.Q s

@[go_sem] theorem qp7 {α:Type} (v:α) (c:KF α) : @q5e α (some v) c=c.k v:=(rfl)
@[go_sem] theorem qoC {α:Type} (c:KF α) : @q5e α none c=False:=(rfl)
@[go_sem] theorem qoI (a b:KP) : @q2g (.bool true) a b=a.p:=(rfl)
@[go_sem] theorem qmw (a b:KP) : @q2g (.bool false) a b=b.p:=(rfl)
@[go_sem] theorem qol (a b:KP) : @q0Q (some true) a b=a.p:=(rfl)
@[go_sem] theorem qmI (a b:KP) : @q0Q (some false) a b=b.p:=(rfl)
@[go_sem] theorem qru (v:AV × Blk) (c:KF (AV × Blk)) : @qqI (some v) (some .resv) c=c.k v:=(rfl)
@[go_sem] theorem qvQ (f:Nat) (cap args:List AV) (c:KN) : @qrd (.fn f cap::args) c=c.k f (args++cap):=(rfl)
@[go_sem] theorem qrx (tm:List AV) (h:Heap) (b rb:Nat) (c:KF St) : @q0N ⟨tm,h,b,rb⟩ c=c.k ⟨tm,h,b,rb⟩:=(rfl)

@[go_sem] theorem qwn (tm:List AV) (h H:Heap) (b rb d:Nat) (v:AV):St.put ⟨tm,h,b,rb⟩ (some d) v H=⟨tm.set d v,H,b,rb⟩:=(rfl)
@[go_sem] theorem qvY (tm:List AV) (h H:Heap) (b rb:Nat) (v:AV):St.put ⟨tm,h,b,rb⟩ none v H=⟨tm,H,b,rb⟩:=(rfl)
@[go_sem] theorem qxT (tm:List AV) (h:Heap) (b rb i:Nat):St.eval ⟨tm,h,b,rb⟩ (.t i)=tm.getD i undef:=(rfl)
@[go_sem] theorem qxP (s:St) (v:AV):s.eval (.c v)=v:=(rfl)

@[go_sem ↓] theorem qti (K:St→Prop) (s:St):q0X R PR [] K s=K s:=(rfl)
@[go_sem ↓] theorem qrr (dst:Option Nat) (p:POp) (args:List Opd) (l:List AOper) (K:St→Prop) (s:St) :
  q0X R PR (⟨dst,.pure p,args,none⟩::l) K s = @q5e _ (p.exec (args.map s.eval)) ⟨fun v=>@q0N (s.put dst v s.heap) ⟨q0X R PR l K⟩⟩:=(rfl)
@[go_sem ↓] theorem qrp (dst:Option Nat) (p:ROp) (args:List Opd) (l:List AOper) (K:St→Prop) (s:St) :
  q0X R PR (⟨dst,.read p,args,none⟩::l) K s = @q5e _ (p.exec (args.map s.eval) s.heap) ⟨fun v=>@q0N (s.put dst v s.heap) ⟨q0X R PR l K⟩⟩:=(rfl)
@[go_sem ↓] theorem qst (dst:Option Nat) (p:NOp) (args:List Opd) (l:List AOper) (K:St→Prop) (s:St) :
  q0X R PR (⟨dst,.new p,args,none⟩::l) K s = @q5e _ (p.exec (args.map s.eval) s.heap.length) ⟨fun v=>@q0N (s.put dst v.1 (s.heap++[v.2])) ⟨q0X R PR l K⟩⟩:=(rfl)
@[go_sem ↓] theorem qq0 (dst:Option Nat) (j:Nat) (p:NOp) (args:List Opd) (l:List AOper) (K:St→Prop) (s:St) :
  q0X R PR (⟨dst,.newAt j p,args,none⟩::l) K s = @qqI (p.exec (args.map s.eval) (s.rb+j)) s.heap[s.rb+j]? ⟨fun v=>@q0N (s.put dst v.1 (s.heap.set (s.rb+j) v.2)) ⟨q0X R PR l K⟩⟩:=(rfl)
@[go_sem ↓] theorem qs4 (dst:Option Nat) (p:EOp) (args:List Opd) (l:List AOper) (K:St→Prop) (s:St) :
  q0X R PR (⟨dst,.eff p,args,none⟩::l) K s = @q5e _ (p.exec (args.map s.eval) s.heap) ⟨fun v=>@q0N (s.put dst v.1 v.2) ⟨q0X R PR l K⟩⟩:=(rfl)
@[go_sem ↓] theorem qrv (dst:Option Nat) (f:Nat) (args:List Opd) (l:List AOper) (K:St→Prop) (s:St) :
  q0X R PR (⟨dst,.call f,args,none⟩::l) K s = @qaW R f (args.map s.eval) s.heap ⟨fun v H'=>@q0N (s.put dst v H') ⟨q0X R PR l K⟩⟩:=(rfl)
@[go_sem ↓] theorem qqq (dst:Option Nat) (f:Nat) (args:List Opd) (l:List AOper) (K:St→Prop) (s:St) :
  q0X R PR (⟨dst,.pcall f,args,none⟩::l) K s =
   @q5e _ (q1y (frz s.heap 6) (args.map s.eval)) ⟨fun ts=>@qeV PR f ts ⟨fun v=>@q0N (s.put dst v (q0A s.heap (args.map s.eval) v)) ⟨q0X R PR l K⟩⟩⟩:=(rfl)
@[go_sem ↓] theorem qq9 (dst:Option Nat) (args:List Opd) (l:List AOper) (K:St→Prop) (s:St) :
  q0X R PR (⟨dst,.callv,args,none⟩::l) K s = @qrd (args.map s.eval) ⟨fun f as=>@qaW R f as s.heap ⟨fun v H'=>@q0N (s.put dst v H') ⟨q0X R PR l K⟩⟩⟩:=(rfl)
@[go_sem ↓] theorem qpx (dst:Option Nat) (op:AOp) (args:List Opd) (t:Nat) (b:Bool) (l:List AOper) (K:St→Prop) (s:St) :
  q0X R PR (⟨dst,op,args,some (t,b)⟩::l) K s = @q0Q (s.wanted (some (t,b))) ⟨q0X R PR (⟨dst,op,args,none⟩::l) K s⟩ ⟨@q0N (s.put dst undef s.heap) ⟨q0X R PR l K⟩⟩:=(rfl)

@[go_sem ↓] theorem qx3 (Q:Ex→St→Prop) (s:St):aw R PR .skip Q s=Q .normal s:=(rfl)
@[go_sem ↓] theorem qxR (l:List AOper) (Q:Ex→St→Prop) (s:St):aw R PR (.ops l) Q s=q0X R PR l (Q .normal) s:=(rfl)
@[go_sem ↓] theorem qxO (a b:ACode) (Q:Ex→St→Prop) (s:St):aw R PR (.seq a b) Q s=aw R PR a (q7Q (aw R PR b Q) Q) s:=(rfl)
@[go_sem ↓] theorem qx2 (x:Opd) (a b:ACode) (Q:Ex→St→Prop) (s:St):aw R PR (.cond x a b) Q s = @q2g (s.eval x) ⟨aw R PR a Q s⟩ ⟨aw R PR b Q s⟩:=(rfl)
@[go_sem ↓] theorem qw9 (id:Nat) (b:ACode) (Q:Ex→St→Prop) (s:St):aw R PR (.block id b) Q s=aw R PR b (q5g id Q) s:=(rfl)
@[go_sem ↓] theorem qvL (live:List Nat) (b:ACode) (Q:Ex→St→Prop) (s:St):aw R PR (.loop live b) Q s = @qeo live s ⟨R,PR,b,Q⟩:=(rfl)
@[go_sem ↓] theorem qvx (b:ACode) (Q:Ex→St→Prop) (s:St):aw R PR (.scope b) Q s=aw R PR b Q s:=(rfl)
@[go_sem ↓] theorem qlo (id:Nat) (Q:Ex→St→Prop) (s:St):q5g id Q .normal s=Q .normal s:=(rfl)
@[go_sem ↓] theorem qpY (id:Nat) (Q:Ex→St→Prop) (s:St):q5g id Q .ret s=Q .ret s:=(rfl)
@[go_sem ↓] theorem qp2 (id:Nat) (Q:Ex→St→Prop) (s:St):q5g id Q (.exit id) s=Q .normal s:=by
 unfold q5g Ex.out
 simp only[if_true]
theorem qbZ {id i:Nat} (h : ¬ i=id) (Q:Ex→St→Prop) (s:St):q5g id Q (.exit i) s=Q (.exit i) s:=by
 unfold q5g Ex.out
 simp only[h,if_false]
attribute [go_sem] qbZ
@[go_sem ↓] theorem qwY (id:Nat) (Q:Ex→St→Prop) (s:St):aw R PR (.exit id) Q s=Q (.exit id) s:=(rfl)
@[go_sem ↓] theorem qxJ (Q:Ex→St→Prop) (s:St):aw R PR .ret Q s=Q .ret s:=(rfl)
@[go_sem ↓] theorem qmY (next:St→Prop) (Q:Ex→St→Prop) (s:St):q7Q next Q .normal s=next s:=(rfl)
@[go_sem ↓] theorem qql (next:St→Prop) (Q:Ex→St→Prop) (i:Nat) (s:St):q7Q next Q (.exit i) s=Q (.exit i) s:=(rfl)
@[go_sem ↓] theorem qry (next:St→Prop) (Q:Ex→St→Prop) (s:St):q7Q next Q .ret s=Q .ret s:=(rfl)

attribute [go_sem] POp.exec ROp.exec NOp.exec EOp.exec qmU qlx q9G qwi qvK qvO qvR qpC qa3 xUn qnh q8c qvA qfq qba qbp qfl qaY qgj qbz qlT qo5 qvS qx6 xMM qrw qfG
 qpH qjq qjn q8n qwv qjl q2J q3X part q3j q93 qbF q9a q8l q8e q86 q2U q72 qct undef AV.cells
 qip Heap.load q6M q84 qbT oneCell qf8 q4M q5n qqK q8O qh4 q4U findKey q4V q9t AV.one AV.solid
 qv5 qsI q3L q6E qar q9N qid qfF q3a q5L qmy qfS q66 qkR qku qdp qbJ q6p q8k q4G
 Heap.store q8m q3q setCells qpS Heap.strike q1i Heap.elems q3x Heap.append Heap.flatOf q1y St.wanted AV.aged AV.young AV.isPure AV.pureN AV.isPlain AV.plainN q0A q0l q0U

attribute [go_sem] Km Kx VH VI List.getD_nil K0 List.getElem?_cons_succ List.getElem?_nil Kb Kg List.set_cons_zero List.set_cons_succ Kr Kv
 Vs List.replicate_zero VF List.drop_succ_cons List.take_zero List.take_succ_cons List.take_nil List.drop_nil List.zip_cons_cons List.zip_nil_left List.zip_nil_right K7 VV VD List.foldl_nil
 if_true if_false ite_true ite_false and_self and_true true_and and_false false_and or_false false_or or_true true_or not_true_eq_false not_false_eq_true ne_eq reduceCtorEq KI Option.map_none Vy Option.bind_none
 VG KH Vq K2 V4 VM Ke decide_true decide_false eq_self Vo Vu beq_self_eq_true

attribute [go_sem] Nat.reduceAdd Nat.reduceSub Nat.reduceMul Nat.reduceDiv Nat.reduceMod Nat.reduceEqDiff Nat.reduceLeDiff Nat.reduceLT Nat.reduceBEq Nat.reducePow Int.reduceAdd Int.reduceSub Int.reduceMul Int.reduceEq Int.reduceLT Int.reduceLE Int.reduceToNat Int.reduceNeg Int.reduceBEq Int.reduceBNe
def qnU (res:List ResV) (v:AV) (e:Ex) (s:St):Prop:=(e = .normal∨e = .ret)∧∃ u,results res s=some u∧frz s.heap 6 u=some v
theorem qgu {res:List ResV} {v:AV} {e:Ex} {s:St} (he:e = .normal∨e = .ret) (h:(results res s).bind (frz s.heap 6)=some v):qnU res v e s:=by
 cases hr:results res s with
 | none=>rw[hr] at h; cases h
 | some u=>rw[hr] at h; exact ⟨he,u,hr,h⟩
theorem qcD (res:List ResV) (v:AV) (s:St):qnU res v .ret s=((results res s).bind (frz s.heap 6)=some v):=by
 apply propext
 constructor
 ·rintro ⟨_,u,h1,h2⟩
  rw[h1]; exact h2
 ·exact fun h=>qgu (.inr rfl) h
theorem q94 (res:List ResV) (v:AV) (s:St):qnU res v .normal s=((results res s).bind (frz s.heap 6)=some v):=by
 apply propext
 constructor
 ·rintro ⟨_,u,h1,h2⟩
  rw[h1]; exact h2
 ·exact fun h=>qgu (.inl rfl) h
attribute [go_sem] qcD q94 results q8J
@[go_sem] theorem qvX (H:Heap) (k:Go.IntKind) (n:Int):frz H 1 (.int k n)=some (.int k n):=(rfl)
@[go_sem] theorem qsP (H:Heap) (b:Bool):frz H 1 (.bool b)=some (.bool b):=(rfl)
@[go_sem] theorem qvC (H:Heap) (b:List UInt8):frz H 1 (.str b)=some (.str b):=(rfl)
@[go_sem] theorem qrY (H:Heap)  : frz H 1 .nilp=some .nilp:=(rfl)
@[go_sem] theorem qrU (H:Heap)  : frz H 1 .nilf=some .nilf:=(rfl)
@[go_sem] theorem qvb (H:Heap)  : frz H 1 .nili=some .nili:=(rfl)
@[go_sem] theorem qt8 (H:Heap)  : frz H 1 .nilm=some .nilm:=(rfl)
@[go_sem] theorem qvI (H:Heap) (n:Nat) (l:List AV):frz H 1 (.tsl n l)=some (.tsl n l):=(rfl)
@[go_sem] theorem qto (H:Heap) (cs:List AV) (o:Nat):frz H 1 (.tptr cs o)=some (.tptr cs o):=(rfl)
@[go_sem] theorem qub (H:Heap) (n:Nat):frz H 1 (.snil n)=some (.tsl n []):=(rfl)
@[go_sem] theorem qvB (H:Heap) (cs:List AV):frz H 1 (.agg cs)=(q1y (frz H 0) cs).map .agg:=(rfl)
@[go_sem] theorem qvM (H:Heap) (cs:List AV):frz H 1 (.tup cs)=(q1y (frz H 0) cs).map .tup:=(rfl)
@[go_sem] theorem qxe (H:Heap) (f:Nat) (cap:List AV):frz H 1 (.fn f cap)=(q1y (frz H 0) cap).map (.fn f):=(rfl)
@[go_sem] theorem qwt (H:Heap) (n r i off:Nat):frz H 1 (.ptr n r i off) =
  match H[r]? with
  | some (.row n' els _ fl _)=>if n'=n then (match els[i]? with | some e=>if fl then some (.tptr e.cells off) else (q1y (frz H 0) e.cells).map fun cs=>.tptr cs off | none=>none) else none
  | _=>none:=(rfl)
@[go_sem] theorem qs2 (H:Heap) (n r i len:Nat):frz H 1 (.sref n r i len) =
  match H[r]? with
  | some (.row n' els _ fl _)=>if n'=n∧i+len≤els.length then (if fl then some (.tsl n ((els.drop i).take len)) else (q1y (frz H 0) ((els.drop i).take len)).map (.tsl n)) else none
  | _=>none:=(rfl)
@[go_sem] theorem qwj (H:Heap) (k:Go.IntKind) (n:Int):frz H 2 (.int k n)=some (.int k n):=(rfl)
@[go_sem] theorem qtj (H:Heap) (b:Bool):frz H 2 (.bool b)=some (.bool b):=(rfl)
@[go_sem] theorem qwe (H:Heap) (b:List UInt8):frz H 2 (.str b)=some (.str b):=(rfl)
@[go_sem] theorem qtH (H:Heap)  : frz H 2 .nilp=some .nilp:=(rfl)
@[go_sem] theorem qtL (H:Heap)  : frz H 2 .nilf=some .nilf:=(rfl)
@[go_sem] theorem qtO (H:Heap)  : frz H 2 .nili=some .nili:=(rfl)
@[go_sem] theorem qtm (H:Heap)  : frz H 2 .nilm=some .nilm:=(rfl)
@[go_sem] theorem qwu (H:Heap) (n:Nat) (l:List AV):frz H 2 (.tsl n l)=some (.tsl n l):=(rfl)
@[go_sem] theorem qsT (H:Heap) (cs:List AV) (o:Nat):frz H 2 (.tptr cs o)=some (.tptr cs o):=(rfl)
@[go_sem] theorem qtp (H:Heap) (n:Nat):frz H 2 (.snil n)=some (.tsl n []):=(rfl)
@[go_sem] theorem qvZ (H:Heap) (cs:List AV):frz H 2 (.agg cs)=(q1y (frz H 1) cs).map .agg:=(rfl)
@[go_sem] theorem qw6 (H:Heap) (cs:List AV):frz H 2 (.tup cs)=(q1y (frz H 1) cs).map .tup:=(rfl)
@[go_sem] theorem qx7 (H:Heap) (f:Nat) (cap:List AV):frz H 2 (.fn f cap)=(q1y (frz H 1) cap).map (.fn f):=(rfl)
@[go_sem] theorem qw3 (H:Heap) (n r i off:Nat):frz H 2 (.ptr n r i off) =
  match H[r]? with
  | some (.row n' els _ fl _)=>if n'=n then (match els[i]? with | some e=>if fl then some (.tptr e.cells off) else (q1y (frz H 1) e.cells).map fun cs=>.tptr cs off | none=>none) else none
  | _=>none:=(rfl)
@[go_sem] theorem qvn (H:Heap) (n r i len:Nat):frz H 2 (.sref n r i len) =
  match H[r]? with
  | some (.row n' els _ fl _)=>if n'=n∧i+len≤els.length then (if fl then some (.tsl n ((els.drop i).take len)) else (q1y (frz H 1) ((els.drop i).take len)).map (.tsl n)) else none
  | _=>none:=(rfl)
@[go_sem] theorem qw5 (H:Heap) (k:Go.IntKind) (n:Int):frz H 3 (.int k n)=some (.int k n):=(rfl)
@[go_sem] theorem qvu (H:Heap) (b:Bool):frz H 3 (.bool b)=some (.bool b):=(rfl)
@[go_sem] theorem qvJ (H:Heap) (b:List UInt8):frz H 3 (.str b)=some (.str b):=(rfl)
@[go_sem] theorem qu5 (H:Heap)  : frz H 3 .nilp=some .nilp:=(rfl)
@[go_sem] theorem qu7 (H:Heap)  : frz H 3 .nilf=some .nilf:=(rfl)
@[go_sem] theorem quB (H:Heap)  : frz H 3 .nili=some .nili:=(rfl)
@[go_sem] theorem qt5 (H:Heap)  : frz H 3 .nilm=some .nilm:=(rfl)
@[go_sem] theorem qvT (H:Heap) (n:Nat) (l:List AV):frz H 3 (.tsl n l)=some (.tsl n l):=(rfl)
@[go_sem] theorem qrz (H:Heap) (cs:List AV) (o:Nat):frz H 3 (.tptr cs o)=some (.tptr cs o):=(rfl)
@[go_sem] theorem qrA (H:Heap) (n:Nat):frz H 3 (.snil n)=some (.tsl n []):=(rfl)
@[go_sem] theorem qwo (H:Heap) (cs:List AV):frz H 3 (.agg cs)=(q1y (frz H 2) cs).map .agg:=(rfl)
@[go_sem] theorem qwk (H:Heap) (cs:List AV):frz H 3 (.tup cs)=(q1y (frz H 2) cs).map .tup:=(rfl)
@[go_sem] theorem qxr (H:Heap) (f:Nat) (cap:List AV):frz H 3 (.fn f cap)=(q1y (frz H 2) cap).map (.fn f):=(rfl)
@[go_sem] theorem qw7 (H:Heap) (n r i off:Nat):frz H 3 (.ptr n r i off) =
  match H[r]? with
  | some (.row n' els _ fl _)=>if n'=n then (match els[i]? with | some e=>if fl then some (.tptr e.cells off) else (q1y (frz H 2) e.cells).map fun cs=>.tptr cs off | none=>none) else none
  | _=>none:=(rfl)
@[go_sem] theorem quN (H:Heap) (n r i len:Nat):frz H 3 (.sref n r i len) =
  match H[r]? with
  | some (.row n' els _ fl _)=>if n'=n∧i+len≤els.length then (if fl then some (.tsl n ((els.drop i).take len)) else (q1y (frz H 2) ((els.drop i).take len)).map (.tsl n)) else none
  | _=>none:=(rfl)
@[go_sem] theorem qw8 (H:Heap) (k:Go.IntKind) (n:Int):frz H 4 (.int k n)=some (.int k n):=(rfl)
@[go_sem] theorem qv6 (H:Heap) (b:Bool):frz H 4 (.bool b)=some (.bool b):=(rfl)
@[go_sem] theorem qvF (H:Heap) (b:List UInt8):frz H 4 (.str b)=some (.str b):=(rfl)
@[go_sem] theorem qrC (H:Heap)  : frz H 4 .nilp=some .nilp:=(rfl)
@[go_sem] theorem qtn (H:Heap)  : frz H 4 .nilf=some .nilf:=(rfl)
@[go_sem] theorem qrN (H:Heap)  : frz H 4 .nili=some .nili:=(rfl)
@[go_sem] theorem qv7 (H:Heap)  : frz H 4 .nilm=some .nilm:=(rfl)
@[go_sem] theorem qwm (H:Heap) (n:Nat) (l:List AV):frz H 4 (.tsl n l)=some (.tsl n l):=(rfl)
@[go_sem] theorem qrQ (H:Heap) (cs:List AV) (o:Nat):frz H 4 (.tptr cs o)=some (.tptr cs o):=(rfl)
@[go_sem] theorem qrR (H:Heap) (n:Nat):frz H 4 (.snil n)=some (.tsl n []):=(rfl)
@[go_sem] theorem qwc (H:Heap) (cs:List AV):frz H 4 (.agg cs)=(q1y (frz H 3) cs).map .agg:=(rfl)
@[go_sem] theorem qw2 (H:Heap) (cs:List AV):frz H 4 (.tup cs)=(q1y (frz H 3) cs).map .tup:=(rfl)
@[go_sem] theorem qxd (H:Heap) (f:Nat) (cap:List AV):frz H 4 (.fn f cap)=(q1y (frz H 3) cap).map (.fn f):=(rfl)
@[go_sem] theorem qw0 (H:Heap) (n r i off:Nat):frz H 4 (.ptr n r i off) =
  match H[r]? with
  | some (.row n' els _ fl _)=>if n'=n then (match els[i]? with | some e=>if fl then some (.tptr e.cells off) else (q1y (frz H 3) e.cells).map fun cs=>.tptr cs off | none=>none) else none
  | _=>none:=(rfl)
@[go_sem] theorem qvs (H:Heap) (n r i len:Nat):frz H 4 (.sref n r i len) =
  match H[r]? with
  | some (.row n' els _ fl _)=>if n'=n∧i+len≤els.length then (if fl then some (.tsl n ((els.drop i).take len)) else (q1y (frz H 3) ((els.drop i).take len)).map (.tsl n)) else none
  | _=>none:=(rfl)
@[go_sem] theorem qvP (H:Heap) (k:Go.IntKind) (n:Int):frz H 5 (.int k n)=some (.int k n):=(rfl)
@[go_sem] theorem qtM (H:Heap) (b:Bool):frz H 5 (.bool b)=some (.bool b):=(rfl)
@[go_sem] theorem qvG (H:Heap) (b:List UInt8):frz H 5 (.str b)=some (.str b):=(rfl)
@[go_sem] theorem qtE (H:Heap)  : frz H 5 .nilp=some .nilp:=(rfl)
@[go_sem] theorem qtq (H:Heap)  : frz H 5 .nilf=some .nilf:=(rfl)
@[go_sem] theorem qul (H:Heap)  : frz H 5 .nili=some .nili:=(rfl)
@[go_sem] theorem quL (H:Heap)  : frz H 5 .nilm=some .nilm:=(rfl)
@[go_sem] theorem qwb (H:Heap) (n:Nat) (l:List AV):frz H 5 (.tsl n l)=some (.tsl n l):=(rfl)
@[go_sem] theorem qsE (H:Heap) (cs:List AV) (o:Nat):frz H 5 (.tptr cs o)=some (.tptr cs o):=(rfl)
@[go_sem] theorem qsZ (H:Heap) (n:Nat):frz H 5 (.snil n)=some (.tsl n []):=(rfl)
@[go_sem] theorem qvw (H:Heap) (cs:List AV):frz H 5 (.agg cs)=(q1y (frz H 4) cs).map .agg:=(rfl)
@[go_sem] theorem qwf (H:Heap) (cs:List AV):frz H 5 (.tup cs)=(q1y (frz H 4) cs).map .tup:=(rfl)
@[go_sem] theorem qxf (H:Heap) (f:Nat) (cap:List AV):frz H 5 (.fn f cap)=(q1y (frz H 4) cap).map (.fn f):=(rfl)
@[go_sem] theorem qwd (H:Heap) (n r i off:Nat):frz H 5 (.ptr n r i off) =
  match H[r]? with
  | some (.row n' els _ fl _)=>if n'=n then (match els[i]? with | some e=>if fl then some (.tptr e.cells off) else (q1y (frz H 4) e.cells).map fun cs=>.tptr cs off | none=>none) else none
  | _=>none:=(rfl)
@[go_sem] theorem qrZ (H:Heap) (n r i len:Nat):frz H 5 (.sref n r i len) =
  match H[r]? with
  | some (.row n' els _ fl _)=>if n'=n∧i+len≤els.length then (if fl then some (.tsl n ((els.drop i).take len)) else (q1y (frz H 4) ((els.drop i).take len)).map (.tsl n)) else none
  | _=>none:=(rfl)
@[go_sem] theorem qvW (H:Heap) (k:Go.IntKind) (n:Int):frz H 6 (.int k n)=some (.int k n):=(rfl)
@[go_sem] theorem qrD (H:Heap) (b:Bool):frz H 6 (.bool b)=some (.bool b):=(rfl)
@[go_sem] theorem qvV (H:Heap) (b:List UInt8):frz H 6 (.str b)=some (.str b):=(rfl)
@[go_sem] theorem qvt (H:Heap)  : frz H 6 .nilp=some .nilp:=(rfl)
@[go_sem] theorem qs7 (H:Heap)  : frz H 6 .nilf=some .nilf:=(rfl)
@[go_sem] theorem qtK (H:Heap)  : frz H 6 .nili=some .nili:=(rfl)
@[go_sem] theorem qtN (H:Heap)  : frz H 6 .nilm=some .nilm:=(rfl)
@[go_sem] theorem qvD (H:Heap) (n:Nat) (l:List AV):frz H 6 (.tsl n l)=some (.tsl n l):=(rfl)
@[go_sem] theorem quX (H:Heap) (cs:List AV) (o:Nat):frz H 6 (.tptr cs o)=some (.tptr cs o):=(rfl)
@[go_sem] theorem qrG (H:Heap) (n:Nat):frz H 6 (.snil n)=some (.tsl n []):=(rfl)
@[go_sem] theorem qvU (H:Heap) (cs:List AV):frz H 6 (.agg cs)=(q1y (frz H 5) cs).map .agg:=(rfl)
@[go_sem] theorem qwh (H:Heap) (cs:List AV):frz H 6 (.tup cs)=(q1y (frz H 5) cs).map .tup:=(rfl)
@[go_sem] theorem qwM (H:Heap) (f:Nat) (cap:List AV):frz H 6 (.fn f cap)=(q1y (frz H 5) cap).map (.fn f):=(rfl)
@[go_sem] theorem qw4 (H:Heap) (n r i off:Nat):frz H 6 (.ptr n r i off) =
  match H[r]? with
  | some (.row n' els _ fl _)=>if n'=n then (match els[i]? with | some e=>if fl then some (.tptr e.cells off) else (q1y (frz H 5) e.cells).map fun cs=>.tptr cs off | none=>none) else none
  | _=>none:=(rfl)
@[go_sem] theorem quP (H:Heap) (n r i len:Nat):frz H 6 (.sref n r i len) =
  match H[r]? with
  | some (.row n' els _ fl _)=>if n'=n∧i+len≤els.length then (if fl then some (.tsl n ((els.drop i).take len)) else (q1y (frz H 5) ((els.drop i).take len)).map (.tsl n)) else none
  | _=>none:=(rfl)
end
section
variable {C:Ctx}
theorem q04 {f:Nat} (fn:AFn) {ts:List AV} {v:AV} (hf:C.code f=some fn) (h : @q0N (enter fn ts []) ⟨aw (q1u C) (q0k C) fn.body (qnU fn.res v)⟩):q0k C f ts v:=qgR hf h
end
section
variable {R:Nat→List AV→Heap→AV→Heap→Prop} {PR:Nat→List AV→AV→Prop}
theorem q07 {α:Type} {live:List Nat} {b:ACode} {Q:Ex→St→Prop} {s:St} (st:α→St) (Inv:α→Prop) (μ:α→Nat) (a0:α) (h0:s.norm live=st a0) (hi:Inv a0)
  (round : ∀ a,Inv a→aw R PR b (q7Q (fun t=>∃ a',t.norm live=st a'∧Inv a'∧μ a'<μ a) Q) (st a)) (hz:q8E live=[]:=by rfl) : @qeo live s ⟨R,PR,b,Q⟩:=by
 refine qqQ st Inv μ a0 (by rw[qdC hz]; exact h0) hi ?_
 simp only[qdC hz]
 exact round
theorem q00 {f:Nat} {ts:List AV} {k:AV→Prop} (v:AV) (h:PR f ts v) (hk:k v) : @qeV PR f ts ⟨k⟩:=⟨v,h,hk⟩
theorem q0f {f:Nat} {args:List AV} {H:Heap} {k:AV→Heap→Prop} (v:AV) (H':Heap) (h:R f args H v H') (hk:k v H') : @qaW R f args H ⟨k⟩:=⟨v,H',h,hk⟩
end
end Ago


namespace Ago
open Go (IntKind)

theorem w64 {n:Int} (h1 : -9223372036854775808≤n) (h2:n<9223372036854775808):IntKind.wrap .i64 n=n:=by
 simp [IntKind.wrap,IntKind.bits,IntKind.signed]
 split<;>omega
theorem qyb (c:UInt8):IntKind.wrap .i64 (c.toNat:Int)=c.toNat:=by
 have:=c.toNat_lt
 exact w64 (by omega) (by omega)
theorem w8 {n:Int} (h1:0≤n) (h2:n<256):IntKind.wrap .u8 n=n:=by
 simp [IntKind.wrap,IntKind.bits,IntKind.signed]
 omega

theorem dT {a b:Int} (h:a<b):decide (a<b)=true:=by simp [h]
theorem dF {a b:Int} (h:b≤a):decide (a<b)=false:=by simp; omega
theorem dlT {a b:Int} (h:a≤b):decide (a≤b)=true:=by simp [h]
theorem dlF {a b:Int} (h:b<a):decide (a≤b)=false:=by simp; omega
theorem qy5 {a b:Int} (h:a=b):(a == b)=true:=by simp [h]
theorem qyd {a b:Int} (h : ¬ a=b):(a == b)=false:=by simp [h]
theorem qyf {a b:Int} (h : ¬ a=b):(a != b)=true:=by simp [h]
theorem qy7 {a b:Int} (h:a=b):(a != b)=false:=by simp [h]
theorem leT {a b:Int} (h:a≤b):(a≤b)=True:=by simp [h]
theorem ltT {a b:Int} (h:a<b):(a<b)=True:=by simp [h]
theorem qy6 {a b:Nat} (h:a≤b):(a≤b)=True:=by simp [h]

@[go_sem] theorem qrs (s:St) (t:Nat) (b:Bool) (h:s.tmps[t]?=some (.tup [])):s.wanted (some (t,b))=some false:=by simp [St.wanted,h]

def q0q (n:Nat) (l:List (Nat × AV)):List AV:=l.foldl (fun s x=>s.set x.1 x.2) (List.replicate n .dead)
end Ago
namespace Ago
section
variable {p:Prop} [Decidable p] {A B:Prop} {a b:Int} {c:Bool}
theorem qja (h1 : ¬ p→A) (h2:p→B) : @q0Q (some (decide p == false)) ⟨A⟩ ⟨B⟩:=by
 by_cases h:p
 ·simpa [q0Q,q2A,h] using h2 h
 ·simpa [q0Q,q2A,h] using h1 h
theorem qkE (h1:p→A) (h2 : ¬ p→B) : @q0Q (some (decide p == true)) ⟨A⟩ ⟨B⟩:=by
 by_cases h:p
 ·simpa [q0Q,q2A,h] using h1 h
 ·simpa [q0Q,q2A,h] using h2 h
theorem qbN:(a == b)=decide (a=b):=by by_cases h:a=b<;>simp [h]
theorem qbe:(a != b)=decide (¬ a=b):=by by_cases h:a=b<;>simp [h]
theorem qsf (h1 : ¬ a=b→A) (h2:a=b→B) : @q0Q (some ((a == b) == false)) ⟨A⟩ ⟨B⟩:=by
 rw[qbN]
 exact qja h1 h2
theorem qtP (h1:a=b→A) (h2 : ¬ a=b→B) : @q0Q (some ((a == b) == true)) ⟨A⟩ ⟨B⟩:=by
 rw[qbN]
 exact qkE h1 h2
theorem qtR (h1:a=b→A) (h2 : ¬ a=b→B) : @q0Q (some ((a != b) == false)) ⟨A⟩ ⟨B⟩:=by
 rw[qbe]
 exact qja (fun h=>h1 (Classical.not_not.1 h)) h2
theorem quA (h1 : ¬ a=b→A) (h2:a=b→B) : @q0Q (some ((a != b) == true)) ⟨A⟩ ⟨B⟩:=by
 rw[qbe]
 exact qkE h1 (fun h=>h2 (Classical.not_not.1 h))
theorem quC (h1:c=false→A) (h2:c=true→B) : @q0Q (some (c == false)) ⟨A⟩ ⟨B⟩:=by
 cases c
 ·exact h1 rfl
 ·exact h2 rfl
theorem qvf (h1:c=true→A) (h2:c=false→B) : @q0Q (some (c == true)) ⟨A⟩ ⟨B⟩:=by
 cases c
 ·exact h2 rfl
 ·exact h1 rfl
theorem qpF (h1:p→A) (h2 : ¬ p→B) : @q2g (.bool (decide p)) ⟨A⟩ ⟨B⟩:=by
 by_cases h:p
 ·simpa [q2g,q6R,h] using h1 h
 ·simpa [q2g,q6R,h] using h2 h
theorem qxl (h1:a=b→A) (h2 : ¬ a=b→B) : @q2g (.bool (a == b)) ⟨A⟩ ⟨B⟩:=by
 rw[qbN]
 exact qpF h1 h2
theorem qwH (h1 : ¬ a=b→A) (h2:a=b→B) : @q2g (.bool (a != b)) ⟨A⟩ ⟨B⟩:=by
 rw[qbe]
 exact qpF h1 (fun h=>h2 (Classical.not_not.1 h))
theorem qxs (h1:c=true→A) (h2:c=false→B) : @q2g (.bool c) ⟨A⟩ ⟨B⟩:=by
 cases c
 ·exact h2 rfl
 ·exact h1 rfl
theorem qv8 (h1:c=false→A) (h2:c=true→B) : @q2g (.bool (!c)) ⟨A⟩ ⟨B⟩:=by
 cases c
 ·exact h1 rfl
 ·exact h2 rfl
theorem qqG (h1:c=true→A) (h2:c=false→B) : @q0Q (some ((!c) == false)) ⟨A⟩ ⟨B⟩:=by
 cases c
 ·exact h2 rfl
 ·exact h1 rfl
theorem qpZ (h1:c=false→A) (h2:c=true→B) : @q0Q (some ((!c) == true)) ⟨A⟩ ⟨B⟩:=by
 cases c
 ·exact h1 rfl
 ·exact h2 rfl
end
end Ago
namespace Ago
@[go_sem] theorem bTT:(true == true)=true:=(rfl)
@[go_sem] theorem bTF:(true == false)=false:=(rfl)
@[go_sem] theorem bFT:(false == true)=false:=(rfl)
@[go_sem] theorem bFF:(false == false)=true:=(rfl)
end Ago
namespace Ago
def qhT (res:List ResV) (k:AV→Prop) (e:Ex) (s:St):Prop:=(e = .normal∨e = .ret)∧q2Y ((results res s).bind (frz s.heap 6)) k
@[go_sem] theorem qsU (res:List ResV) (k:AV→Prop) (s:St):qhT res k .ret s=q2Y ((results res s).bind (frz s.heap 6)) k:=by simp [qhT]
@[go_sem] theorem qoB (res:List ResV) (k:AV→Prop) (s:St):qhT res k .normal s=q2Y ((results res s).bind (frz s.heap 6)) k:=by simp [qhT]
@[go_sem] theorem qrb {α:Type} (v:α) (k:α→Prop):q2Y (some v) k=k v:=(rfl)
theorem q4H {C:Ctx} {f:Nat} (fn:AFn) {ts:List AV} {k:AV→Prop} (hf:C.code f=some fn) (h : @q0N (enter fn ts []) ⟨aw (q1u C) (q0k C) fn.body (qhT fn.res k)⟩) : ∃ v,q0k C f ts v∧k v:=by
 obtain ⟨e,s,h1,he,h2⟩:=q2q fn.body (qhT fn.res k) _ h
 obtain ⟨v,h3,h4⟩:=q1a h2
 obtain ⟨u,h5,h6⟩:=VA.1 h3
 exact ⟨v,.prun hf h1 he h5 h6,h4⟩
theorem qtc:lim=2147483648:=(rfl)
theorem qwy:((0:Nat):Int)=0:=(rfl)
theorem qwC:((1:Nat):Int)=1:=(rfl)
attribute [go_sem] q0q List.flatMap_cons List.flatMap_nil KY qyb qtc Int.reducePow qwy qwC Int.cast_ofNat_Int w64 w8 dT dF dlT dlF qy5 qyd qyf qy7 leT ltT qy6 Int.toNat_natCast

def q69 (code:Nat→Option AFn) (clR clP:Nat→Option (Nat × Nat)):Ctx where
 code:=code
 prim f args H v H':=∃ p x,clR f=some p∧args=[x]∧q3a p.1 p.2 (H++[.gone]) [.snil p.1,x]=some (v,H')
 pprim f ts v:=∃ p l,clP f=some p∧ts=[.tsl p.1 l]∧l.length≤lim∧l.length * p.2≤2^40∧v = .tsl p.1 l
theorem qoF {code:Nat→Option AFn} {clR clP:Nat→Option (Nat × Nat)} {f n b:Nat} (h:clP f=some (n,b)) (l:List AV) (h1:l.length≤lim) (h2:l.length * b≤2^40):q0k (q69 code clR clP) f [.tsl n l] (.tsl n l):=
 .pprim ⟨(n,b),l,h,rfl,h1,h2,rfl⟩
attribute [irreducible] q5e q2g q0Q qqI qrd q0N qaW qeV qeo
end Ago
namespace Ago
abbrev Za (d i:Nat):AOper:=⟨some d,.pure .move,[.t i],none⟩
abbrev Zb (d i t:Nat) (b:Bool):AOper:=⟨some d,.pure .move,[.t i],some (t,b)⟩
abbrev Zc (d:Nat) (c:AV):AOper:=⟨some d,.pure .move,[.c c],none⟩
abbrev Zd (d i:Nat):AOper:=⟨some d,.read (.load none),[.t i],none⟩
abbrev Ze (d i t:Nat) (b:Bool):AOper:=⟨some d,.read (.load none),[.t i],some (t,b)⟩
abbrev Zf (d i n:Nat):AOper:=⟨some d,.read (.load (some n)),[.t i],none⟩
abbrev Zg (d i n t:Nat) (b:Bool):AOper:=⟨some d,.read (.load (some n)),[.t i],some (t,b)⟩
abbrev Zh (d i n:Nat):AOper:=⟨some d,.pure (.faddr n),[.t i],none⟩
abbrev Zi (d i n t:Nat) (b:Bool):AOper:=⟨some d,.pure (.faddr n),[.t i],some (t,b)⟩
abbrev Zj (d i j n:Nat):AOper:=⟨some d,.pure (.iaddrS n),[.t i,.t j],none⟩
abbrev Zk (d i j n t:Nat) (b:Bool):AOper:=⟨some d,.pure (.iaddrS n),[.t i,.t j],some (t,b)⟩
abbrev Zl (d i j:Nat) (o:Go.BinOp):AOper:=⟨some d,.pure (.bin o),[.t i,.t j],none⟩
abbrev Zm (d i j:Nat) (o:Go.BinOp) (t:Nat) (b:Bool):AOper:=⟨some d,.pure (.bin o),[.t i,.t j],some (t,b)⟩
abbrev Zn (d i:Nat) (c:Int) (o:Go.BinOp):AOper:=⟨some d,.pure (.bin o),[.t i,.c (.int .i64 c)],none⟩
abbrev Zo (d i:Nat) (c:Int) (o:Go.BinOp) (t:Nat) (b:Bool):AOper:=⟨some d,.pure (.bin o),[.t i,.c (.int .i64 c)],some (t,b)⟩
abbrev Zp (d i:Nat):AOper:=⟨some d,.pure .lenL,[.t i],none⟩
abbrev Zq (d i t:Nat) (b:Bool):AOper:=⟨some d,.pure .lenL,[.t i],some (t,b)⟩
abbrev Zr (d i:Nat):AOper:=⟨some d,.pure (.un .not),[.t i],none⟩
abbrev Zs (d i t:Nat) (b:Bool):AOper:=⟨some d,.pure (.un .not),[.t i],some (t,b)⟩
abbrev Zu (i j n:Nat):AOper:=⟨none,.eff (.store n),[.t i,.t j],none⟩
abbrev Zv (d i j:Nat) (c:Bool):AOper:=⟨some d,.pure .pick,[.t i,.t j,.c (.bool c)],none⟩
abbrev Zw (d i j:Nat) (c:Bool):AOper:=⟨some d,.pure .pick,[.t i,.c (.bool c),.t j],none⟩
abbrev Zx (d i n:Nat):AOper:=⟨some d,.new (.box n),[.t i],none⟩
abbrev Zy (d f i:Nat):AOper:=⟨some d,.pcall f,[.t i],none⟩
abbrev Zz (d f i j:Nat):AOper:=⟨some d,.pcall f,[.t i,.t j],none⟩
abbrev ZB (d f i t:Nat) (b:Bool):AOper:=⟨some d,.pcall f,[.t i],some (t,b)⟩
abbrev ZC (d f i j t:Nat) (b:Bool):AOper:=⟨some d,.pcall f,[.t i,.t j],some (t,b)⟩
end Ago
namespace Ago
section
variable {R:Nat→List AV→Heap→AV→Heap→Prop} {PR:Nat→List AV→AV→Prop}

theorem q18 : ∀ (l:List AOper) (K:St→Prop) (s:St),q0X R PR l K s→∃ s',q0X R PR l (fun t=>t=s') s∧K s'
 | [],K,s,h=>⟨s,rfl,h⟩
 | ⟨dst,op,args,g⟩::l,K,s,h=>by
  unfold q0X at h
  rcases q9B h with ⟨hw,h⟩ | ⟨hw,h⟩
  ·cases op with
   | pure p=>
    obtain ⟨v,hv,h⟩:=q1a h
    obtain ⟨s',h1,h2⟩:=q18 l K _ h
    refine ⟨s',?_,h2⟩
    unfold q0X
    simp only[hw,q2A,hv,q2Y]
    exact h1
   | read p=>
    obtain ⟨v,hv,h⟩:=q1a h
    obtain ⟨s',h1,h2⟩:=q18 l K _ h
    refine ⟨s',?_,h2⟩
    unfold q0X
    simp only[hw,q2A,hv,q2Y]
    exact h1
   | new p=>
    obtain ⟨v,hv,h⟩:=q1a h
    obtain ⟨s',h1,h2⟩:=q18 l K _ h
    refine ⟨s',?_,h2⟩
    unfold q0X
    simp only[hw,q2A,hv,q2Y]
    exact h1
   | newAt j p=>
    obtain ⟨v,hv,hf,h⟩:=qd9 h
    obtain ⟨s',h1,h2⟩:=q18 l K _ h
    refine ⟨s',?_,h2⟩
    unfold q0X
    simp only[hw,q2A,hv,hf,qoK]
    exact h1
   | eff p=>
    obtain ⟨v,hv,h⟩:=q1a h
    obtain ⟨s',h1,h2⟩:=q18 l K _ h
    refine ⟨s',?_,h2⟩
    unfold q0X
    simp only[hw,q2A,hv,q2Y]
    exact h1
   | call f=>
    obtain ⟨v,H',hr,h⟩:=h
    obtain ⟨s',h1,h2⟩:=q18 l K _ h
    refine ⟨s',?_,h2⟩
    unfold q0X
    simp only[hw,q2A]
    exact ⟨v,H',hr,h1⟩
   | pcall f=>
    obtain ⟨ts,ha,v,hr,h⟩:=q1a h
    obtain ⟨s',h1,h2⟩:=q18 l K _ h
    refine ⟨s',?_,h2⟩
    unfold q0X
    simp only[hw,q2A,ha,q2Y]
    exact ⟨v,hr,h1⟩
   | callv=>
    obtain ⟨f,cap,as,ha,v,H',hr,h⟩:=qce h
    obtain ⟨s',h1,h2⟩:=q18 l K _ h
    refine ⟨s',?_,h2⟩
    unfold q0X
    simp only[hw,q2A,ha,qoo]
    exact ⟨v,H',hr,h1⟩
   | bad=>exact h.elim
  ·obtain ⟨s',h1,h2⟩:=q18 l K _ h
   refine ⟨s',?_,h2⟩
   unfold q0X
   simp only[hw,q2A]
   exact h1

@[go_sem ↓] theorem qws (k:Nat) (l:List AOper) (Q:Ex→St→Prop) (s:St):aw R PR (.draw k [l]) Q s = @q0N (s.keep k) ⟨q0X R PR l fun t=>Q .normal { t with rb:=0 }⟩:=by
 apply propext
 unfold q0N
 constructor
 ·rintro ⟨s',_,h1,h2⟩
  exact q1v (fun t ht=>by rw[ht]; exact h2) l _ (h1 l (by simp))
 ·intro h
  obtain ⟨s',h1,h2⟩:=q18 l _ _ h
  exact ⟨s',by simp,fun l' hl'=>by rw[KR.1 hl']; exact h1,h2⟩

@[go_sem] theorem q3W (tm:List AV) (h:Heap) (b rb k:Nat):St.keep ⟨tm,h,b,rb⟩ k=⟨tm,h++List.replicate k .resv,b,h.length⟩:=(rfl)
end
end Ago
namespace Ago
theorem qad {C C':Ctx} (h1 : ∀ f fn,C.code f=some fn→C'.code f=some fn) (h2 : ∀ f a H v H',C.prim f a H v H'→C'.prim f a H v H') (h3 : ∀ f t v,C.pprim f t v→C'.pprim f t v) {j:J} (h:BS C j):BS C' j:=by
 induction h with
 | prim h=>exact .prim (h2 _ _ _ _ _ h)
 | pprim h=>exact .pprim (h3 _ _ _ h)
 | nil s=>exact .nil s
 | pass hw _ ih=>exact .pass hw ih
 | pure hw ho hv _ ih=>exact .pure hw ho hv ih
 | read hw ho hv _ ih=>exact .read hw ho hv ih
 | new hw ho hv _ ih=>exact .new hw ho hv ih
 | newAt hw ho hv hf _ ih=>exact .newAt hw ho hv hf ih
 | eff hw ho hv _ ih=>exact .eff hw ho hv ih
 | call hw ho _ _ ihv ih=>exact .call hw ho ihv ih
 | pcall hw ho ha _ _ ihr ih=>exact .pcall hw ho ha ihr ih
 | callv hw ho ha _ _ ihv ih=>exact .callv hw ho ha ihv ih
 | skip s=>exact .skip s
 | ops _ ih=>exact .ops ih
 | draw hne _ ih=>exact .draw hne ih
 | seq _ _ ih1 ih2=>exact .seq ih1 ih2
 | seqE _ he ih=>exact .seqE ih he
 | condT hx _ ih=>exact .condT hx ih
 | condF hx _ ih=>exact .condF hx ih
 | block _ ih=>exact .block ih
 | scope _ ih=>exact .scope ih
 | loop _ _ ih1 ih2=>exact .loop ih1 ih2
 | loopE _ he ih=>exact .loopE ih he
 | exit id s=>exact .exit id s
 | ret s=>exact .ret s
 | run hf _ he hr ih=>exact .run (by rw[h1]; exact hf) ih he hr
 | prun hf _ he hr hv ih=>exact .prun (by rw[h1]; exact hf) ih he hr hv
end Ago
namespace Ago
def ACode.live:ACode→List (List Nat)→ACode × List (List Nat)
 | .seq a b,L=>(.seq (live a L).1 (live b (live a L).2).1,(live b (live a L).2).2)
 | .cond x a b,L=>(.cond x (live a L).1 (live b (live a L).2).1,(live b (live a L).2).2)
 | .block i b,L=>(.block i (live b L).1,(live b L).2)
 | .scope b,L=>(.scope (live b L).1,(live b L).2)
 | .loop _ b,L=>(.loop (L.headD []) (live b L.tail).1,(live b L.tail).2)
 | c,L=>(c,L)
def qux (l:List (Nat × Nat)) (g:Go.FuncId):Option Nat:=(l.find? fun p=>p.1 == g).map (·.2)
noncomputable def qfA (P:Go.Program) (l:List (Nat × Nat)) (q:Nat→Bool) (L:List (List Nat)) (g:Go.Func):Option AFn:=(qaA P (qux l) q g).map fun f=>{ f with body:=(ACode.live f.body L).1 }
def sub:List Nat→Go.Code→Go.Code
 | 0::l,.seq a _=>sub l a
 | 1::l,.seq _ b=>sub l b
 | 0::l,.cond _ a _=>sub l a
 | 1::l,.cond _ _ b=>sub l b
 | 0::l,.block _ a=>sub l a
 | 0::l,.scope a=>sub l a
 | 0::l,.loop a=>sub l a
 | _,c=>c
def q0g (g:Go.Func):Go.Code:=match g.body with
 | some c=>c
 | none=>.skip
noncomputable def qoE (P:Go.Program) (l:List (Nat × Nat)) (q:Nat→Bool) (L:List (List Nat)) (c:Go.Code):Option ACode:=(comp P (qux l) q c).map fun a=>(ACode.live a L).1
end Ago

namespace Ago
class Spl (p:Prop) (a b:outParam Prop):Prop where
 go:a→b→p
theorem spl {p a b:Prop} [s:Spl p a b] (h1:a) (h2:b):p:=s.go h1 h2
section
variable {p:Prop} [Decidable p] {A B:Prop} {a b:Int} {c:Bool}
instance:Spl (@q2g (.bool c) ⟨A⟩ ⟨B⟩) (c=true→A) (c=false→B):=⟨qxs⟩
instance:Spl (@q2g (.bool (!c)) ⟨A⟩ ⟨B⟩) (c=false→A) (c=true→B):=⟨qv8⟩
instance:Spl (@q2g (.bool (a != b)) ⟨A⟩ ⟨B⟩) (¬ a=b→A) (a=b→B):=⟨qwH⟩
instance:Spl (@q2g (.bool (a == b)) ⟨A⟩ ⟨B⟩) (a=b→A) (¬ a=b→B):=⟨qxl⟩
instance:Spl (@q2g (.bool (decide p)) ⟨A⟩ ⟨B⟩) (p→A) (¬ p→B):=⟨qpF⟩
instance:Spl (@q0Q (some (c == true)) ⟨A⟩ ⟨B⟩) (c=true→A) (c=false→B):=⟨qvf⟩
instance:Spl (@q0Q (some (c == false)) ⟨A⟩ ⟨B⟩) (c=false→A) (c=true→B):=⟨quC⟩
instance:Spl (@q0Q (some ((!c) == true)) ⟨A⟩ ⟨B⟩) (c=false→A) (c=true→B):=⟨qpZ⟩
instance:Spl (@q0Q (some ((!c) == false)) ⟨A⟩ ⟨B⟩) (c=true→A) (c=false→B):=⟨qqG⟩
instance:Spl (@q0Q (some ((a != b) == true)) ⟨A⟩ ⟨B⟩) (¬ a=b→A) (a=b→B):=⟨quA⟩
instance:Spl (@q0Q (some ((a != b) == false)) ⟨A⟩ ⟨B⟩) (a=b→A) (¬ a=b→B):=⟨qtR⟩
instance:Spl (@q0Q (some ((a == b) == true)) ⟨A⟩ ⟨B⟩) (a=b→A) (¬ a=b→B):=⟨qtP⟩
instance:Spl (@q0Q (some ((a == b) == false)) ⟨A⟩ ⟨B⟩) (¬ a=b→A) (a=b→B):=⟨qsf⟩
instance:Spl (@q0Q (some (decide p == true)) ⟨A⟩ ⟨B⟩) (p→A) (¬ p→B):=⟨qkE⟩
instance:Spl (@q0Q (some (decide p == false)) ⟨A⟩ ⟨B⟩) (¬ p→A) (p→B):=⟨qja⟩
end
end Ago
